/- shared lemmas of the walks -/
import Derived.Test.YtiiojpnckbglcaaGreatWs
import Derived.Deep.RegionHeld
namespace Go.Proofs.YtiiojpnckbglcaaGreat
open Go.RowKit
section
variable {P:Program} {ops:Array Oper} {Q:Exit->Act->World->Prop} {md:Region.Mode} {S:World->Prop} {fuel:Nat} {w:World}
theorem cr {i:Nat} {oi:Oper} {v:Value} {listed l':Array Bool} {a a':Act} (hi:ops[i]? = some oi) (hy:YieldsIf P ops S oi v a) (hS:S w)
    (h:wpAnyH P md ops Q S fuel l' a' w) (hl:listed.setIfInBounds i true=l':=by(try simp only[qa,qb,qc]);rfl) (ha:a.put oi.dst v=a':=by(try simp only[Act.put,qa,qb,qc]);rfl) (hs:Region.noSelect ops=true:=by kernel_rfl) (hf:Region.free md ops listed i=true:=by kernel_rfl) (hr:(Region.ready md ops listed).contains i=true:=by kernel_rfl)
    (hQ:∀c a w,Q (.panic c) (a.put oi.dst v) w->Q (.panic c) a w:=by exact fun _ _ _ h=>h):wpAnyH P md ops Q S (fuel+1) listed a w:=by subst hl;subst ha;exact wpAnyH_take hi hs hf hr hQ hy hS h
theorem ed {i:Nat} {x:Option Tmp} {b:Op} {t:TypeId} {p:String} {e:Array Edge} {f:Option (Nat×Bool)} {v:Value} {listed l':Array Bool} {a a':Act} (hi:ops[i]? = some ⟨x,b,t,p,e,f⟩) (hy:YieldsIf P ops S ⟨x,b,t,p,e,f⟩ v a)
    (h:wpAnyH P md ops Q S fuel l' a' w) (hS:S w:=by assumption) (hl:listed.setIfInBounds i true=l':=by(try simp only[qa,qb,qc]);rfl) (ha:a.put x v=a':=by(try simp only[Act.put,qa,qb,qc]);rfl) (hs:Region.noSelect ops=true:=by kernel_rfl) (hf:Region.free md ops listed i=true:=by kernel_rfl) (hr:(Region.ready md ops listed).contains i=true:=by kernel_rfl)
    (hQ:∀c a w,Q (.panic c) (a.put x v) w->Q (.panic c) a w:=by exact fun _ _ _ h=>h):wpAnyH P md ops Q S (fuel+1) listed a w:=by subst hl;subst ha;exact wpAnyH_take hi hs hf hr hQ hy hS h
theorem dF {i:Nat} {x:Option Tmp} {b:Op} {t:TypeId} {p:String} {e:Array Edge} {f:Option (Nat×Bool)} {v:Value} {listed l':Array Bool} {a a':Act} (hi:ops[i]? = some ⟨x,b,t,p,e,f⟩)
    (h:wpAnyH P md ops Q S fuel l' a' w) (hy:YieldsIf P ops S ⟨x,b,t,p,e,f⟩ v a:=by exact Or.inl ⟨by rfl,fun _ _=>(by rfl)⟩) (hS:S w:=by assumption) (hl:listed.setIfInBounds i true=l':=by(try simp only[qa,qb,qc]);rfl) (ha:a.put x v=a':=by(try simp only[Act.put,qa,qb,qc]);rfl) (hs:Region.noSelect ops=true:=by kernel_rfl) (hf:Region.free md ops listed i=true:=by kernel_rfl) (hr:(Region.ready md ops listed).contains i=true:=by kernel_rfl)
    (hQ:∀c a w,Q (.panic c) (a.put x v) w->Q (.panic c) a w:=by exact fun _ _ _ h=>h):wpAnyH P md ops Q S (fuel+1) listed a w:=by subst hl;subst ha;exact wpAnyH_take hi hs hf hr hQ hy hS h
theorem bF {i:Nat} {x:Option Tmp} {b:Op} {t:TypeId} {p:String} {e:Array Edge} {f:Option (Nat×Bool)} {v:Value} {listed l':Array Bool} {a a':Act} (hi:ops[i]? = some ⟨x,b,t,p,e,f⟩)
    (h:wpAnyH P md ops Q S fuel l' a' w) (hy:YieldsIf P ops S ⟨x,b,t,p,e,f⟩ v a:=by exact Or.inl ⟨by rfl,fun W hW=>(by go_simp)⟩) (hS:S w:=by assumption) (hl:listed.setIfInBounds i true=l':=by(try simp only[qa,qb,qc]);rfl) (ha:a.put x v=a':=by(try simp only[Act.put,qa,qb,qc]);rfl) (hs:Region.noSelect ops=true:=by kernel_rfl) (hf:Region.free md ops listed i=true:=by kernel_rfl) (hr:(Region.ready md ops listed).contains i=true:=by kernel_rfl)
    (hQ:∀c a w,Q (.panic c) (a.put x v) w->Q (.panic c) a w:=by exact fun _ _ _ h=>h):wpAnyH P md ops Q S (fuel+1) listed a w:=by subst hl;subst ha;exact wpAnyH_take hi hs hf hr hQ hy hS h
theorem bc {i:Nat} {x:Option Tmp} {b:Op} {t:TypeId} {p:String} {e:Array Edge} {f:Option (Nat×Bool)} {listed:Array Bool} {a:Act} (ho:ops[i]? = some ⟨x,b,t,p,e,f⟩)
    (h:∀K':Act->World->Prop,Shut (∀a w,S w->(S w->wpAnyH P md ops Q S fuel (listed.setIfInBounds i true) a w)->K' a w)->Oper.wp P ⟨x,b,t,p,e,f⟩ a w K' Q)
    (hw:Region.wanted ⟨x,b,t,p,e,f⟩ (yielded ops a.tmps)=true:=by rfl) (hr:Region.ready md ops listed=[i]:=by kernel_rfl):wpAnyH P md ops Q S (fuel+1) listed a w:=
  wpAnyH_ready hr (by simp) (AllReadyH.cons ho (fun K' hK=>by rw[if_pos hw];exact h K' hK) AllReadyH.nil)
end
end Go.Proofs.YtiiojpnckbglcaaGreat
