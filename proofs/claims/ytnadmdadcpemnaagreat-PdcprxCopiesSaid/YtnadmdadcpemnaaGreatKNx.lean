import Derived.Test.YtnadmdadcpemnaaGreatMSDx
import Derived.Shelf.SlMaps.Clone
import Derived.Laws.Externs
namespace Go.Proofs.YtnadmdadcpemnaaGreat
open Go.RowKit
set_option linter.unusedVariables false
set_option linter.unusedSimpArgs false
attribute [local go_sem ↓] Go.wp_at_zero Go.wp_at_succ
private theorem tkH {P:Program} {ops:Array Oper} {Q:Exit→Act→World→Prop} {md:Region.Mode} {S:World→Prop} {i:Nat} {oi:Oper} {v:Value} {fuel:Nat} {listed l':Array Bool} {a a':Act} {w:World} (hi:ops[i]? = some oi) (hy:YieldsIf P ops S oi v a) (hS:S w)
  (h:wpAnyH P md ops Q S fuel l' a' w) (hl:listed.setIfInBounds i true=l':=by(try simp only[List.setIfInBounds_toArray,List.set_cons_zero,List.set_cons_succ]);rfl) (ha:a.put oi.dst v=a':=by(try simp only[Act.put,List.setIfInBounds_toArray,List.set_cons_zero,List.set_cons_succ]);rfl) (hs:Region.noSelect ops=true:=by kernel_rfl) (hf:Region.free md ops listed i=true:=by kernel_rfl) (hr:(Region.ready md ops listed).contains i=true:=by kernel_rfl)
  (hQ:∀c a w,Q (.panic c) (a.put oi.dst v) w→Q (.panic c) a w:=by exact fun _ _ _ h=>h):wpAnyH P md ops Q S (fuel+1) listed a w:=by subst hl;subst ha;exact wpAnyH_take hi hs hf hr hQ hy hS h
set_option maxRecDepth 100000 in
set_option maxHeartbeats 2000000 in
theorem mclone_sm0 (b:Nat) (es:Array MapEntry) (clock:Nat) (w:World) (hb:w.heap[b]? = some (.map es clock)) :
  Calls Tryz.prog 47 #[.map (some b)] w fun e w'=>e=.returned (.map (some w.heap.size))∧w'=w.alloc (.map es clock):=by
 have hq:=fun w=>run_eql_map_nil_sl (P:=Tryz.prog) w 78 _ _ (some b) Tryz.underlying78
 go_enter Tryz.func47,Tryz.ntmps47
 go_wp2
 rw[run_callFunc_extern Tryz.func74 (by kernel_rfl) (by kernel_rfl) (by kernel_rfl) (e:=Extern.MapsClone.clone) (by kernel_rfl),run_maps_clone_sl w 78 hb]
 simp only[Result.andThen]
 rw[Oper.upon_value]
 go_wp2
 rw[run_typeAssert_map_sl _ 78 20 _ _ _ Tryz.underlying78]
 simp only[Result.andThen]
 rw[Oper.upon_value]
 go_wp2
 go_ret
 exact⟨rfl,rfl⟩
theorem mclone_sm (w:World) (m:Nat) (l:List SE) (h:SM w m l) :
  Calls Tryz.prog 47 #[.map (some m)] w fun e w'=>e=.returned (.map (some w.heap.size))∧SM w' w.heap.size l∧Below w.heap.size w w':=by
 obtain⟨es,clock,hb,F,hs,hD⟩:=h
 refine(mclone_sm0 m es clock w hb).mono ?_
 rintro e w' ⟨he,rfl⟩
 exact⟨he,⟨es,clock,World.alloc_heap_new _ _,F,hs,hD⟩,(Below.refl _ w).alloc (Nat.le_refl _) _⟩
set_option maxRecDepth 100000 in
set_option maxHeartbeats 2000000 in
theorem mclone_uk0 (b:Nat) (es:Array MapEntry) (clock:Nat) (w:World) (hb:w.heap[b]? = some (.map es clock)) :
  Calls Tryz.prog 48 #[.map (some b)] w fun e w'=>e=.returned (.map (some w.heap.size))∧w'=w.alloc (.map es clock):=by
 have hq:=fun w=>run_eql_map_nil_sl (P:=Tryz.prog) w 79 _ _ (some b) Tryz.underlying79
 go_enter Tryz.func48,Tryz.ntmps48
 go_wp2
 rw[run_callFunc_extern Tryz.func74 (by kernel_rfl) (by kernel_rfl) (by kernel_rfl) (e:=Extern.MapsClone.clone) (by kernel_rfl),run_maps_clone_sl w 79 hb]
 simp only[Result.andThen]
 rw[Oper.upon_value]
 go_wp2
 rw[run_typeAssert_map_sl _ 79 20 _ _ _ Tryz.underlying79]
 simp only[Result.andThen]
 rw[Oper.upon_value]
 go_wp2
 go_ret
 exact⟨rfl,rfl⟩
theorem mclone_uk (w:World) (m:Nat) (l:List (Array Value)) (h:UK w m l) :
  Calls Tryz.prog 48 #[.map (some m)] w fun e w'=>e=.returned (.map (some w.heap.size))∧UK w' w.heap.size l∧Below w.heap.size w w':=by
 obtain⟨es,clock,hb,h1,h2⟩:=h
 refine(mclone_uk0 m es clock w hb).mono ?_
 rintro e w' ⟨he,rfl⟩
 exact⟨he,⟨es,clock,World.alloc_heap_new _ _,h1,h2⟩,(Below.refl _ w).alloc (Nat.le_refl _) _⟩
set_option maxRecDepth 100000 in
theorem sclone_nil (w:World):Calls Tryz.prog 49 #[.slice none 0 0] w fun e w'=>e=.returned (.slice none 0 0)∧w=w':=by
 have hq:(binOp .eql 34 (.slice none 0 0) (.slice none 0 0)).run Tryz.prog w=.ok (.bool true) w:=by kernel_rfl
 go_enter Tryz.func49,Tryz.ntmps49
 go_wp2
 go_ret
 exact⟨rfl,rfl⟩
section
variable {C:Array Value} {now d nx:Int} {sb:Nat} {run:Bool} {lim ex:Int} {ub eb:Nat} {dup:Int}
theorem rArr_sb (hC:C.size=39) (m:Nat):(rArr C now d nx sb run lim ex ub eb dup).setIfInBounds 43 (.map (some m))=rArr C now d nx m run lim ex ub eb dup:=rArr_set hC 4 _
theorem rArr_ub (hC:C.size=39) (m:Nat):(rArr C now d nx sb run lim ex ub eb dup).setIfInBounds 47 (.map (some m))=rArr C now d nx sb run lim ex m eb dup:=rArr_set hC 8 _
theorem rArr_eb (hC:C.size=39) (m:Nat):(rArr C now d nx sb run lim ex ub eb dup).setIfInBounds 48 (.pointer (some ⟨m,0,none⟩))=rArr C now d nx sb run lim ex ub m dup:=rArr_set hC 9 _
theorem rArr_fb (hC:C.size=39):(rArr C now d nx sb run lim ex ub eb dup).setIfInBounds 49 (.slice none 0 0)=rArr C now d nx sb run lim ex ub eb dup:=rArr_set hC 10 _
end
theorem sizeRx:(Tryz.prog.info? 83).map (·.size)=some 51:=by kernel_rfl
theorem rTail_one (now d nx:Int) (sb:Nat) (run:Bool) (lim ex:Int) (ub eb:Nat) (dup:Int):(rTail now d nx sb run lim ex ub eb dup).all (·.oneCell')=true:=by
 unfold rTail
 simp[Value.oneCell']
theorem rArr_one (c:Cfg) (now d nx:Int) (sb:Nat) (run:Bool) (lim ex:Int) (ub eb:Nat) (dup:Int):(rArr c.arr now d nx sb run lim ex ub eb dup).all (·.oneCell')=true:=by
 unfold rArr
 rw[Array.all_append,c.arr_one,rTail_one]
 rfl
def CopyO (s:RS) (R:Nat→Prop) (l:List SE) (w:World) (e:Ending) (w':World):Prop:=
 ∃g2 m2 u2 x2,e=.returned (.pointer (some ⟨g2,0,none⟩))∧RxM w' g2 s (fun k=>k=g2∨k=m2∨k=u2∨k=x2) R m2 l u2 x2∧w.heap.size≤g2∧w.heap.size≤m2∧w.heap.size≤u2∧w.heap.size≤x2∧Below w.heap.size w w'
theorem copy_intro {w V:World} {g:Nat} {s:RS} {W R:Nat→Prop} {sb:Nat} {l:List SE} {ub eb g2 m2 u2 x2:Nat} (h:RxM w g s W R sb l ub eb) (hb:Below w.heap.size w V) (hB:Blk V g2 83 (rArr s.C.arr s.now s.deliver s.next m2 s.run s.limit s.expiry u2 x2 s.dup)) (hS:SM V m2 l) (hU:UK V u2 s.used) (hX:V.heap[x2]? = some s.exp) (h1:w.heap.size≤g2) (h2:g2 < m2) (h3:m2 < u2) (h4:u2 < x2) (h5:x2 < V.heap.size) :
  RxM V g2 s (fun k=>k=g2∨k=m2∨k=u2∨k=x2) R m2 l u2 x2:=
 ⟨hB,h.lv,hS,h.ris,h.rng,hU,hX,(h.below hb).pk,h.ok,.inl rfl,.inr (.inl rfl),.inr (.inr (.inl rfl)),.inr (.inr (.inr rfl)),by omega,by omega,by omega,by omega,fun k hk hr=>by
  have:=h.rin k hr
  rcases hk with h | h | h | h<;>omega,fun k hk=>by rcases hk with h | h | h | h<;>omega,fun k hk=>Nat.lt_of_lt_of_le (h.rin k hk) hb.size,h.xo⟩
set_option maxRecDepth 100000 in
set_option maxHeartbeats 3200000 in
theorem rcopy_ok (g:Nat) (s:RS) (W R:Nat→Prop) (sb:Nat) (l:List SE) (ub eb:Nat) (w:World) (h:RxM w g s W R sb l ub eb) (hcm:s.C.cm=false) :
  Calls Tryz.prog 22 #[.pointer (some ⟨g,0,none⟩)] w (CopyO s R l w):=by
 have HMD:=Lib.hid (rxmade_ok g w h.made)
 have HT:=Lib.hid h
 have HXO:=Lib.hid (h.xo hcm)
 have HCS:=Lib.hid s.C.arr_size
 obtain⟨L,hL⟩:∃L,L=rArr s.C.arr s.now s.deliver s.next sb s.run s.limit s.expiry ub eb s.dup:=⟨_,rfl⟩
 have HK:Hid (Blk w g 83 L):=Lib.hid (by rw[hL];exact h.blk)
 have HLS:Hid (L.size=51):=Lib.hid (by rw[hL];exact rArr_size s.C.arr_size)
 have HSZ:Hid ((Tryz.prog.info? 83).map (·.size)=some L.size):=Lib.hid (by rw[HLS.out];exact sizeRx)
 have HO1:Hid (L.all (·.oneCell')=true):=Lib.hid (by rw[hL];exact rArr_one _ _ _ _ _ _ _ _ _ _ _)
 have HL:=Lib.hid hL
 have HU:=Lib.hid Tryz.underlying83
 clear h hL hcm
 go_enter Tryz.func22,Tryz.ntmps22
 go_upto_region 4 with (first
  | (go_at_call 43;refine(HMD.out).mono ?_;rintro e w1 ⟨rfl,rfl⟩)
  | (refine wpList_load_row rfl _ _ rfl g rfl 83 L (0,0) _ HK.out HU.out rfl HSZ.out ?_)
  | (refine wpList_store_row rfl _ _ _ rfl w.heap.size L rfl rfl 83 _ (Blk.new w _ _) HSZ.out (by rw[HLS.out];rfl) HO1.out ?_))
 try simp only[Act.put]
 obtain⟨cb,hcb⟩:∃cb,cb=w.heap.size:=⟨_,rfl⟩
 refine wp_let (fun V=>Blk V cb 83 L∧Below w.heap.size w V) ⟨by rw[hcb];exact setRow_heap _ _ _ L 83 (0,0) (Blk.new w _ _),belowRow ((Below.refl _ w).alloc (Nat.le_refl _) _) (Nat.le_refl _) _⟩ ?_
 rintro V0 ⟨b1,b2⟩
 have B1:=Lib.hid b1
 have B2:=Lib.hid b2
 have HCB:=Lib.hid hcb
 rw[←hcb]
 have T0:=Lib.hid (HT.out.below b2)
 clear b1 b2 hcb
 have hcn:cb ≠ g∧cb ≠ sb∧cb ≠ ub∧cb ≠ eb∧(∀k,k=cb→¬W k∧¬R k):=by
  have h1:=HCB.out
  refine⟨fun e=>?_,fun e=>?_,fun e=>?_,fun e=>?_,fun k hk=>⟨fun hw=>?_,fun hr=>?_⟩⟩
  ·have:=HT.out.win _ HT.out.wg;omega
  ·have:=HT.out.win _ HT.out.ws;omega
  ·have:=HT.out.win _ HT.out.wu;omega
  ·have:=HT.out.win _ HT.out.wx;omega
  ·have:=HT.out.win _ hw;omega
  ·have:=HT.out.rin _ hr;omega
 have HCN:=Lib.hid hcn
 have HG:=Lib.hid (show ∀W',KeepF (fun k=>k=cb) V0 W'→W'.cell? ⟨g,43,none⟩=some (.map (some sb))∧W'.cell? ⟨g,47,none⟩=some (.map (some ub))∧W'.cell? ⟨g,49,none⟩=some (.slice none 0 0)∧W'.cell? ⟨g,48,none⟩=some (.pointer (some ⟨eb,0,none⟩))from fun W' hW=>by
  have h:=T0.out.keepF hW HCN.out.2.2.2.2
  exact⟨h.cs,h.cu,h.cf,h.cx⟩)
 clear hcn
 refine wp_region_held_drew (S:=fun w'=>KeepF (fun k=>k=cb) V0 w') (by kernel_rfl) (KeepF.refl.drew) (fun hHeld=>?_)
 obtain⟨v0,hv0⟩:∃v0,v0=V0.drew:=⟨_,rfl⟩
 have hb0:Below V0.heap.size V0 v0:=by rw[hv0];exact(Below.refl _ _).drew
 rw[←hv0]
 rw[←hv0]at hHeld
 clear hv0
 refine tkH (i:=0) (oi:=⟨some 9,_,_,_,_,_⟩) (v:=.pointer (some ⟨g,0,none⟩)) rfl (Or.inl ⟨by rfl,fun W hW=>(by rfl)⟩) (by assumption) ?_
 refine tkH (i:=1) (oi:=⟨some 10,_,_,_,_,_⟩) (v:=.pointer (some ⟨g,0,none⟩)) rfl (Or.inl ⟨by rfl,fun W hW=>(by go_simp)⟩) (by assumption) ?_
 refine tkH (i:=2) (oi:=⟨some 11,_,_,_,_,_⟩) (v:=.pointer (some ⟨g,43,none⟩)) rfl (Or.inl ⟨by rfl,fun W hW=>(by go_simp)⟩) (by assumption) ?_
 refine tkH (i:=3) (oi:=⟨some 12,_,_,_,_,_⟩) (v:=.map (some sb)) rfl (Or.inl ⟨by rfl,fun W hW=>(by have h:=(HG.out W hW).1;go_simp)⟩) (by assumption) ?_
 refine tkH (i:=5) (oi:=⟨some 14,_,_,_,_,_⟩) (v:=.pointer (some ⟨g,0,none⟩)) rfl (Or.inl ⟨by rfl,fun W hW=>(by rfl)⟩) (by assumption) ?_
 refine tkH (i:=6) (oi:=⟨some 15,_,_,_,_,_⟩) (v:=.pointer (some ⟨g,0,none⟩)) rfl (Or.inl ⟨by rfl,fun W hW=>(by go_simp)⟩) (by assumption) ?_
 refine tkH (i:=7) (oi:=⟨some 16,_,_,_,_,_⟩) (v:=.pointer (some ⟨g,47,none⟩)) rfl (Or.inl ⟨by rfl,fun W hW=>(by go_simp)⟩) (by assumption) ?_
 refine tkH (i:=8) (oi:=⟨some 17,_,_,_,_,_⟩) (v:=.map (some ub)) rfl (Or.inl ⟨by rfl,fun W hW=>(by have h:=(HG.out W hW).2.1;go_simp)⟩) (by assumption) ?_
 refine tkH (i:=10) (oi:=⟨some 19,_,_,_,_,_⟩) (v:=.pointer (some ⟨g,0,none⟩)) rfl (Or.inl ⟨by rfl,fun W hW=>(by rfl)⟩) (by assumption) ?_
 refine tkH (i:=11) (oi:=⟨some 20,_,_,_,_,_⟩) (v:=.pointer (some ⟨g,0,none⟩)) rfl (Or.inl ⟨by rfl,fun W hW=>(by go_simp)⟩) (by assumption) ?_
 refine tkH (i:=12) (oi:=⟨some 21,_,_,_,_,_⟩) (v:=.pointer (some ⟨g,49,none⟩)) rfl (Or.inl ⟨by rfl,fun W hW=>(by go_simp)⟩) (by assumption) ?_
 refine tkH (i:=13) (oi:=⟨some 22,_,_,_,_,_⟩) (v:=.slice none 0 0) rfl (Or.inl ⟨by rfl,fun W hW=>(by have h:=(HG.out W hW).2.2.1;go_simp)⟩) (by assumption) ?_
 refine tkH (i:=15) (oi:=⟨some 24,_,_,_,_,_⟩) (v:=.pointer (some ⟨g,0,none⟩)) rfl (Or.inl ⟨by rfl,fun W hW=>(by rfl)⟩) (by assumption) ?_
 refine tkH (i:=16) (oi:=⟨some 25,_,_,_,_,_⟩) (v:=.pointer (some ⟨g,0,none⟩)) rfl (Or.inl ⟨by rfl,fun W hW=>(by go_simp)⟩) (by assumption) ?_
 refine tkH (i:=17) (oi:=⟨some 26,_,_,_,_,_⟩) (v:=.pointer (some ⟨g,48,none⟩)) rfl (Or.inl ⟨by rfl,fun W hW=>(by go_simp)⟩) (by assumption) ?_
 refine tkH (i:=18) (oi:=⟨some 27,_,_,_,_,_⟩) (v:=.pointer (some ⟨eb,0,none⟩)) rfl (Or.inl ⟨by rfl,fun W hW=>(by have h:=(HG.out W hW).2.2.2;go_simp)⟩) (by assumption) ?_
 refine wpAnyH_ready (rs:=[4]) (by kernel_rfl) (by simp) ?_
 refine AllReadyH.cons (o:=⟨some 13,_,_,_,_,_⟩) rfl (fun K hK=>?_) AllReadyH.nil
 rw[if_pos (by rfl)]
 go_simp
 refine(mclone_sm _ sb l (T0.out.below hb0).st).mono ?_
 rintro e v1 ⟨rfl,hm1,hbk⟩
 dsimp only
 obtain⟨m2,hm2⟩:∃m2,m2=v0.heap.size:=⟨_,rfl⟩
 rw[←hm2]at hm1 ⊢
 have HM2:=Lib.hid hm2
 clear hm2
 have hb1:=hb0.trans (hbk.mono hb0.size)
 have hlt1:m2 < v1.heap.size:=hm1.lt
 refine hK.out _ _ (hHeld.trans (KeepF.of_below hbk) (fun _ _ h=>h)) (fun hHeld=>?_)
 clear hK K hbk
 try simp only[Act.put,List.setIfInBounds_toArray,List.set_cons_zero,List.set_cons_succ]
 refine wpAnyH_ready (rs:=[9]) (by kernel_rfl) (by simp) ?_
 refine AllReadyH.cons (o:=⟨some 18,_,_,_,_,_⟩) rfl (fun K hK=>?_) AllReadyH.nil
 rw[if_pos (by rfl)]
 go_simp
 refine(mclone_uk _ ub s.used (T0.out.below hb1).u).mono ?_
 rintro e v2 ⟨rfl,hu1,hbk⟩
 dsimp only
 obtain⟨u2,hu2⟩:∃u2,u2=v1.heap.size:=⟨_,rfl⟩
 rw[←hu2]at hu1 ⊢
 have HU2:=Lib.hid hu2
 clear hu2
 have hb2:=hb1.trans (hbk.mono hb1.size)
 have hm3:=hm1.below hbk hlt1
 have hlt2:u2 < v2.heap.size:=hu1.lt
 refine hK.out _ _ (hHeld.trans (KeepF.of_below hbk) (fun _ _ h=>h)) (fun hHeld=>?_)
 clear hK K hbk
 try simp only[Act.put,List.setIfInBounds_toArray,List.set_cons_zero,List.set_cons_succ]
 refine wpAnyH_ready (rs:=[14]) (by kernel_rfl) (by simp) ?_
 refine AllReadyH.cons (o:=⟨some 23,_,_,_,_,_⟩) rfl (fun K hK=>?_) AllReadyH.nil
 rw[if_pos (by rfl)]
 go_simp
 refine(sclone_nil _).mono ?_
 rintro e v3 ⟨rfl,rfl⟩
 dsimp only
 refine hK.out _ _ (hHeld) (fun hHeld=>?_)
 clear hK K
 try simp only[Act.put,List.setIfInBounds_toArray,List.set_cons_zero,List.set_cons_succ]
 refine wpAnyH_ready (rs:=[19]) (by kernel_rfl) (by simp) ?_
 refine AllReadyH.cons (o:=⟨some 28,_,_,_,_,_⟩) rfl (fun K hK=>?_) AllReadyH.nil
 rw[if_pos (by rfl)]
 go_simp
 refine(exclone_ok eb s.exp _ (T0.out.below hb2).x HXO.out).mono ?_
 rintro e v4 ⟨rfl,hx1,hbk⟩
 dsimp only
 obtain⟨x2,hx2⟩:∃x2,x2=v2.heap.size:=⟨_,rfl⟩
 rw[←hx2]at hx1 ⊢
 have HX2:=Lib.hid hx2
 clear hx2
 have hb4:=hb2.trans (hbk.mono hb2.size)
 have hm4:=hm3.below hbk (by have:=HU2.out;have:=hlt1;omega)
 have hu4:=hu1.keep (hbk.block _ (by omega))
 have hlt4:x2 < v4.heap.size:=(Array.getElem?_eq_some_iff.1 hx1).1
 have hC4:=B1.out.below hb4 B1.out.lt
 refine hK.out _ _ (hHeld.trans (KeepF.of_below hbk) (fun _ _ h=>h)) (fun hHeld=>?_)
 clear hK K hbk
 try simp only[Act.put,List.setIfInBounds_toArray,List.set_cons_zero,List.set_cons_succ]
 refine tkH (i:=20) (oi:=⟨some 29,_,_,_,_,_⟩) (v:=.pointer (some ⟨cb,43,none⟩)) rfl (Or.inl ⟨by rfl,fun W hW=>(by go_simp)⟩) (by assumption) ?_
 refine wpAnyH_ready (rs:=[21]) (by kernel_rfl) (by simp) ?_
 refine AllReadyH.cons (o:=⟨none,_,_,_,_,_⟩) rfl (fun K hK=>?_) AllReadyH.nil
 rw[if_pos (by rfl)]
 go_simp
 have c0:=hC4.cell 43
 rw[Array.getElem?_eq_getElem (by rw[HLS.out];decide)]at c0
 have f0:=hC4.frozen 43
 try go_simp
 have hk5:=keep_set v4 cb 43 (.map (some m2))
 have hC5:=hC4.set_ 43 (.map (some m2))
 obtain⟨v5,hv⟩:∃v,v=v4.setCell ⟨cb,43,none⟩ (.map (some m2)):=⟨_,rfl⟩
 rw[←hv]at hk5 hC5 ⊢
 clear hv c0 f0
 refine hK.out _ _ (hHeld.trans hk5 (fun _ _ h=>h)) (fun hHeld=>?_)
 clear hK K
 try simp only[Act.put,List.setIfInBounds_toArray,List.set_cons_zero,List.set_cons_succ]
 refine tkH (i:=22) (oi:=⟨some 30,_,_,_,_,_⟩) (v:=.pointer (some ⟨cb,47,none⟩)) rfl (Or.inl ⟨by rfl,fun W hW=>(by go_simp)⟩) (by assumption) ?_
 refine wpAnyH_ready (rs:=[23]) (by kernel_rfl) (by simp) ?_
 refine AllReadyH.cons (o:=⟨none,_,_,_,_,_⟩) rfl (fun K hK=>?_) AllReadyH.nil
 rw[if_pos (by rfl)]
 go_simp
 have c0:=hC5.cell 47
 rw[Array.getElem?_eq_getElem (by rw[Array.size_setIfInBounds,HLS.out];decide)]at c0
 have f0:=hC5.frozen 47
 try go_simp
 have hk6:=keep_set v5 cb 47 (.map (some u2))
 have hC6:=hC5.set_ 47 (.map (some u2))
 obtain⟨v6,hv⟩:∃v,v=v5.setCell ⟨cb,47,none⟩ (.map (some u2)):=⟨_,rfl⟩
 rw[←hv]at hk6 hC6 ⊢
 clear hv c0 f0
 refine hK.out _ _ (hHeld.trans hk6 (fun _ _ h=>h)) (fun hHeld=>?_)
 clear hK K
 try simp only[Act.put,List.setIfInBounds_toArray,List.set_cons_zero,List.set_cons_succ]
 refine tkH (i:=24) (oi:=⟨some 31,_,_,_,_,_⟩) (v:=.pointer (some ⟨cb,49,none⟩)) rfl (Or.inl ⟨by rfl,fun W hW=>(by go_simp)⟩) (by assumption) ?_
 refine wpAnyH_ready (rs:=[25]) (by kernel_rfl) (by simp) ?_
 refine AllReadyH.cons (o:=⟨none,_,_,_,_,_⟩) rfl (fun K hK=>?_) AllReadyH.nil
 rw[if_pos (by rfl)]
 go_simp
 have c0:=hC6.cell 49
 rw[Array.getElem?_eq_getElem (by rw[Array.size_setIfInBounds,Array.size_setIfInBounds,HLS.out];decide)]at c0
 have f0:=hC6.frozen 49
 try go_simp
 have hk7:=keep_set v6 cb 49 (.slice none 0 0)
 have hC7:=hC6.set_ 49 (.slice none 0 0)
 obtain⟨v7,hv⟩:∃v,v=v6.setCell ⟨cb,49,none⟩ (.slice none 0 0):=⟨_,rfl⟩
 rw[←hv]at hk7 hC7 ⊢
 clear hv c0 f0
 refine hK.out _ _ (hHeld.trans hk7 (fun _ _ h=>h)) (fun hHeld=>?_)
 clear hK K
 try simp only[Act.put,List.setIfInBounds_toArray,List.set_cons_zero,List.set_cons_succ]
 refine tkH (i:=26) (oi:=⟨some 32,_,_,_,_,_⟩) (v:=.pointer (some ⟨cb,48,none⟩)) rfl (Or.inl ⟨by rfl,fun W hW=>(by go_simp)⟩) (by assumption) ?_
 refine wpAnyH_ready (rs:=[27]) (by kernel_rfl) (by simp) ?_
 refine AllReadyH.cons (o:=⟨none,_,_,_,_,_⟩) rfl (fun K hK=>?_) AllReadyH.nil
 rw[if_pos (by rfl)]
 go_simp
 have c0:=hC7.cell 48
 rw[Array.getElem?_eq_getElem (by rw[Array.size_setIfInBounds,Array.size_setIfInBounds,Array.size_setIfInBounds,HLS.out];decide)]at c0
 have f0:=hC7.frozen 48
 try go_simp
 have hk8:=keep_set v7 cb 48 (.pointer (some ⟨x2,0,none⟩))
 have hC8:=hC7.set_ 48 (.pointer (some ⟨x2,0,none⟩))
 obtain⟨v8,hv⟩:∃v,v=v7.setCell ⟨cb,48,none⟩ (.pointer (some ⟨x2,0,none⟩)):=⟨_,rfl⟩
 rw[←hv]at hk8 hC8 ⊢
 clear hv c0 f0
 refine hK.out _ _ (hHeld.trans hk8 (fun _ _ h=>h)) (fun hHeld=>?_)
 clear hK K
 try simp only[Act.put,List.setIfInBounds_toArray,List.set_cons_zero,List.set_cons_succ]
 refine wpAnyH_done (by kernel_rfl) ?_ _
 have hk48:KeepF (fun k=>k=cb) v4 v8:=((hk5.trans hk6 (fun _ _ h=>h)).trans hk7 (fun _ _ h=>h)).trans hk8 (fun _ _ h=>h)
 rw[HL.out,rArr_sb HCS.out,rArr_ub HCS.out,rArr_fb HCS.out,rArr_eb HCS.out]at hC8
 have hbl:=B1.out.lt
 have hs0:=hb0.size
 have hw0:=HCB.out
 have hw1:=HM2.out
 have hw2:=HU2.out
 have hw3:=HX2.out
 have hs8:=hk48.size
 have hbw:=KeepF.below B2.out hHeld (fun k hk=>by omega) B2.out.size
 have hfin:=copy_intro HT.out hbw hC8 (hm4.keepF hk48 (by omega)) (hu4.keep (hk48.block _ (by omega) (by omega))) ((hk48.block _ hlt4 (by omega)).trans hx1) (by omega) (by omega) (by omega) (by omega) (by omega)
 have HF:=Lib.hid (show CopyO s R l w (.returned (.pointer (some ⟨cb,0,none⟩))) v8 from ⟨cb,m2,u2,x2,rfl,hfin,by omega,by omega,by omega,by omega,hbw⟩)
 clear hfin hw0 hw1 hw2 hw3 hbw hk48 hk5 hk6 hk7 hk8 hC4 hC5 hC6 hC7 hC8 hm1 hm3 hm4 hu1 hu4 hx1 hb0 hb1 hb2 hb4 hHeld
 go_wp2
 go_ret
 exact HF.out
end Go.Proofs.YtnadmdadcpemnaaGreat
