import Derived.Test.YtiiojpnckbglcaaGreatMYAs
import Derived.RangeFuncKeeps
import Derived.RangeFuncCalls
import Derived.Deep.DeepFit
import Derived.RangeFuncNested
import Derived.OrdersIn
import Derived.Sort.CutIn
import Derived.Test.YtiiojpnckbglcaaGreatB1s
set_option maxRecDepth 100000
set_option maxHeartbeats 6400000
set_option linter.unusedVariables false
set_option linter.unusedSimpArgs false
namespace Go.Proofs.YtiiojpnckbglcaaGreat
open Go.RowKit Go.Shelf
attribute [local go_sem] Oper.semAt_some
attribute [local go_sem ↓] Go.wp_at_zero Go.wp_at_succ
structure da (n0 ob ab:Nat) (A B:World):Prop where
 size:A.heap.size<=B.heap.size
 same:∀b cs t fr,b < n0->b ≠ ob->b ≠ ab->A.heap[b]? = some (.cells cs t fr)->B.heap[b]? = some (.cells cs t fr)
theorem da.refl (n0 ob ab:Nat) (A:World):da n0 ob ab A A:=⟨Nat.le_refl _,fun _ _ _ _ _ _ _ h=>h⟩
theorem da.trans {n0 ob ab:Nat} {A B C:World} (h:da n0 ob ab A B) (k:da n0 ob ab B C):da n0 ob ab A C:=⟨ba h.size k.size,fun b cs t fr h0 h1 h2 h3=>k.same b cs t fr h0 h1 h2 (h.same b cs t fr h0 h1 h2 h3)⟩
theorem da.of_below {n0 ob ab:Nat} {A B:World} (h:Below A.heap.size A B):da n0 ob ab A B:=⟨h.size,fun b cs t fr _ _ _ hb=>(h.block b (Array.getElem?_eq_some_iff.1 hb).1).trans hb⟩
theorem rH {w:World} {n0 ob ab:Nat} (W:World) (l:Nat) (o o':Obj) (_:w.heap.size<=l) (h:W.heap[l]? = some o) (ho:o.isCells=false) (_:o.isWalk=false):da n0 ob ab W (W.putObj l o'):=
 ⟨by rw[World.putObj_size];exact Nat.le_refl _,fun b cs t fr _ _ _ hb=>(World.putObj_heap_other (by rintro rfl;rw[h]at hb;cases hb;cases ho)).trans hb⟩
def eZ (n q:Nat):Nat:=if n<=16*q+16 then n-16*q else 16
theorem vm (z:Nat->Nat) (n i r m:Nat) (hr:16*i+r=n) (hm:m=Nat.min r 16):bA 16 (mG (fun _=>0) 0 m (fun j=>z (16*i+j)))=ar (cH z n i):=by
 have hm':m=min r 16:=hm;rw[uc];refine gX fun j hj=>?_;unfold mG cH;by_cases h:j < m
 ·rw[if_pos (by omega),if_pos (by omega),Nat.sub_zero]
 ·rw[if_neg (by omega),if_neg (by omega)]
theorem lH {n i r:Nat} (hr:16*i+r=n) (h1:1<=r) (h2:r<=16):fD n=i+1:=by
 unfold fD;rw[if_neg (by omega)];omega
theorem sP {n i r:Nat} (hr:16*i+r=n) (h1:1<=r):i < fD n:=by
 unfold fD;rw[if_neg (by omega)];omega
section
variable {F:Fence} {n:Nat} {P:Program} {ops:Array Oper} {rest:List Oper} {o:Oper} {a:Act} {w:World} {Q:Exit->Act->World->Prop}
theorem ew (hgd:o.guard=none) (ty:TypeId) (x:Operand) (ho:o.op=.load ty x)
  (g:Nat) (hx:a.eval x=.pointer (some ⟨g,0,none⟩)) (t:TypeId) (cs:Array Value) (fr:Nat×Nat) (d:TypeDesc) (hg:w.heap[g]? = some (.cells cs t fr))
  (hu:P.underlying ty=some d) (hd:(match d with | .struct _ | .array _ _=>true | _=>false)=true) (hi:(P.info? ty).map (·.size)=some cs.size)
  (h:wpListIn F n P ops Q rest (a.put o.dst (.agg cs)) w):wpListIn F n P ops Q (o :: rest) a w:=by
 refine wpListIn_plain hgd fun K hK'=>?_;unfold Oper.wpIn;refine⟨?_,?_⟩
 ·simp[Oper.about,ho]
 ·rw[Oper.semAt_plain F _ _ (by rw[ho];intro c hc';cases hc')];simp[execOp,ho,hx,Instr.loadAt,Instr.sureAddr,run_loadVar_row w g t ty cs fr d hg hu hd hi,Result.andThen]
  exact hK' _ _ h
end
theorem mc (lb lo n c:Nat) (z:Nat->Nat) (hn1:1<=n) (hn2:n<=100000) (p ob ab m:Nat) (w:World) (hM:ae w p 44 #[.slice (some ⟨lb,lo,none⟩) n c]) (hcap:n<=c) (hlb:lb < w.heap.size) (hz:∀j,j < n->w.cell? ⟨lb,lo+j,none⟩=some (.int .u8 ((z j:Nat):Int))) (h1:ob ≠ p) (h2:ab ≠ p) (h3:ob ≠ lb) (h4:ab ≠ lb) (n0:Nat) (hp0:p < n0) (hl0:lb < n0) (hm:1<=m) :
  SeqStopsK Fence.wide m Tryz.prog 184 #[.pointer (some ⟨p,0,none⟩)] (fun q:Nat=>#[.agg (ar (cH z n q)),.int .i64 ((eZ n q:Nat):Int)]) (da n0 ob ab) (fun xs=>xs=List.range (fD n)) (fun pre=>∃k,k<=fD n/\pre=List.range k) (fD n) w:=fun l J Jx W hW hJ hJx hY h0=>by
 have HJB:=zh (fun(s:List Nat) (A C:World) (h:J s A) (hb:Below A.heap.size A C)=>ii hJ h hb);have HY:=zh hY;have HM:=zh (hM.below hW hM.lt);have HNE:=zh (show ob ≠ p/\ab ≠ p/\ob ≠ lb/\ab ≠ lb from ⟨h1,h2,h3,h4⟩);have HZ:=zh (show ∀V,da n0 ob ab W V->∀j,j < n->V.cell? ⟨lb,lo+j,none⟩=some (.int .u8 ((z j:Nat):Int))from fun V hV j hj=>by
  have hc:=(hW.cell (p:=⟨lb,lo+j,none⟩) hlb).trans (hz j hj);obtain⟨cs,t,fr,hbl,hcs⟩:∃cs t fr,W.heap[lb]? = some (.cells cs t fr)/\cs[lo+j]? = some (.int .u8 ((z j:Nat):Int)):=by
   unfold World.cell? at hc;simp only at hc
   split at hc
   ·exact⟨_,_,_,by assumption,hc⟩
   ·cases hc
  have:=hV.same lb cs t fr hl0 (fun e=>h3 e.symm) (fun e=>h4 e.symm) hbl;unfold World.cell?;simp only[this]
  exact hcs)
 have HLB:=zh (show lb < W.heap.size from bg hlb hW.size);have HN:=zh (show 1<=n/\n<=100000/\n<=c from ⟨hn1,hn2,hcap⟩);clear hJ hJx hY hM hW h1 h2 h3 h4 hz hlb hn1 hn2 hcap;have c0:W.cell? ⟨p,0,none⟩=some (.slice (some ⟨lb,lo,none⟩) n c):=HM.out.cell 0;refine callsIn_of_wp Tryz.func184 rfl trivial ?_ rfl;simp only[Tryz.ntmps184,List.size_toArray,List.length_cons,List.length_nil,Nat.reduceAdd,Nat.reduceSub,Array.replicate_succ,Array.replicate_zero,List.push_toArray,List.append_toArray,List.nil_append,List.cons_append];refine wpIn_wide.2 ?_;go_wp2;go_loopw [3] (fun v3 wr=>∃i r rc:Nat,v3=.slice (some ⟨lb,lo+16*i,none⟩) r rc/\16*i+r=n/\1<=r/\r<=rc/\J (List.range i) wr/\da n0 ob ab W wr) (fun v3 _=>match v3 with | .slice _ r _=>r | _=>0)
 case atStart=>exact⟨0,n,c,rfl,by omega,HN.out.1,HN.out.2.2,h0,da.refl _ _ _ _⟩
 case round=>
  clear c0;obtain⟨i,r,rc,rfl,hir,hr1,hrc,hj,hk⟩:=hrel;have HJ:=zh hj;have HK:=zh hk;have HIR:=zh hir;have HR1:=zh hr1;have HRC:=zh hrc;clear hj hk;obtain⟨mm,hmm⟩:=af (Nat.min r 16)
  have HMM:=zh (show mm=min r 16 from hmm);have hmr:mm<=r:=by have:=HMM.out;omega
  have HBP:=zh (vm z n i r mm hir hmm);obtain⟨CB,hCB⟩:=af (ar (cH z n i))
  have HC1:Hid ((Tryz.prog.info? 190).map (·.size)=some CB.size):=zh (by rw[hCB,ah];kernel_rfl);rw[<-hCB]at HBP;have HCB:=zh hCB;clear hCB hmm;go_upto_region 2 with (fail)
  obtain⟨g,hg⟩:=af wr.heap.size
  refine ag (fun V=>ae V g 190 (bA 16 (fun _=>0))/\Below wr.heap.size wr V) ⟨by rw[hg];exact ae.new _ _ _,bM _⟩ ?_;rintro W1 ⟨B1,B2⟩;have C1:=zh B1;have C2:=zh B2;have HG:=zh hg;rw[<-hg];clear B1 B2 hg;go_upto_region 3 with (with_reducible refine dU rfl _ _ 44 44 rfl 5 g 0 mm 16 lb (lo+16*i) r rc 16 16 190 (fun _=>0) (fun j=>z (16*i+j)) rfl rfl Tryz.underlying44 mO C1.out HMM.out.symm (fun j hj=>?src) (by have:=HMM.out;omega) ?_)
  case src=>
   have:=HZ.out W1 (HK.out.trans (da.of_below C2.out)) (16*i+j) (by omega);rw[<-this,Nat.add_assoc]
  refine ag (fun V=>ae V g 190 CB/\Below wr.heap.size wr V) ⟨by rw[<-HBP.out];exact setRow_heap _ g (bA 16 (fun _=>0)) _ 190 (0,0) C1.out,aj C2.out (by rw[HG.out];exact Nat.le_refl _) _⟩ ?_;rintro W2 ⟨B1,B2⟩;have D1:=zh B1;have D2:=zh B2;clear B1 B2 C1 C2;have m0:(0:Int)<=(mm:Int):=by omega
  have m1:(mm:Int)<=(r:Int):=by omega
  have HMRC:=zh (show mm<=rc/\mm<=r by omega);go_upto_region 4 with (fail)
  have HJ2:=zh (HJB.out _ _ _ HJ.out D2.out);have hlt:i < fD n:=sP HIR.out HR1.out;obtain⟨fn,tmps,assign,body,hy,hR⟩:=HY.out (List.range i) i W2 HJ2.out (by rw[List.length_range];exact hlt);have hbl:eZ n i=mm:=by
   have:=HMM.out;unfold eZ
   split<;>omega
  have HLT:=zh hlt;rw[show List.range i++[i] = List.range (i+1)from List.range_succ.symm]at hR;simp only[hbl,<-HCB.out]at hy;have HRr:=zh hR;clear hR hbl hlt;refine(wpIn_wide (n:=m)).1 ?_
  gi_wp2_with (refine ew rfl _ _ rfl g rfl 190 CB (0,0) _ D1.out Tryz.underlying190 rfl HC1.out ?_)
  ·have e0:r-mm=0:=by have:=HRC.out;omega
   have HLE:=zh (show r<=16 by have:=HMM.out;omega);simp only[e0];refine HRr.out.mono ?_;rintro e w8 (⟨rfl,hJ4,hk4⟩ | ⟨rfl,hx4⟩)
   ·gi_wp2
    go_wp2;refine bodyPost_ret (results_none rfl _ _ _) rfl ?_
    exact⟨⟨_,rfl⟩,.inl ⟨_,by rw[lH HIR.out HR1.out HLE.out],hJ4⟩⟩
   ·gi_wp2
    go_wp2;refine bodyPost_ret (results_none rfl _ _ _) rfl ?_
    exact⟨⟨_,rfl⟩,.inr ⟨_,⟨i+1,by have:=HLT.out;omega,rfl⟩,hx4⟩⟩
  ·by_cases hle:r<=16
   ·have e0:r-mm=0:=by have:=HMM.out;omega
    have HLE:=zh hle;simp only[e0];refine HRr.out.mono ?_;rintro e w8 (⟨rfl,hJ4,hk4⟩ | ⟨rfl,hx4⟩)
    ·gi_wp2
     go_wp2;refine bodyPost_ret (results_none rfl _ _ _) rfl ?_
     exact⟨⟨_,rfl⟩,.inl ⟨_,by rw[lH HIR.out HR1.out HLE.out],hJ4⟩⟩
    ·gi_wp2
     go_wp2;refine bodyPost_ret (results_none rfl _ _ _) rfl ?_
     exact⟨⟨_,rfl⟩,.inr ⟨_,⟨i+1,by have:=HLT.out;omega,rfl⟩,hx4⟩⟩
   ·obtain⟨r2,hr2⟩:=af (r-mm)
    have HR2:=zh (show 16*(i+1)+r2=n/\1<=r2/\r2 < r/\mm=16 by have:=HMM.out;have:=HIR.out;omega);have n2:¬(r2:Int)=0:=by have:=HR2.out;omega
    rw[<-hr2];clear hr2;refine HRr.out.mono ?_;rintro e w8 (⟨rfl,hJ4,hk4⟩ | ⟨rfl,hx4⟩)
    ·gi_wp2
     go_wp2;go_roundw
     case rel=>exact⟨i+1,r2,rc-mm,by rw[HR2.out.2.2.2,Nat.mul_add,Nat.mul_one,Nat.add_assoc],HR2.out.1,HR2.out.2.1,by have:=HRC.out;have:=HR2.out;have:=HIR.out;have:=HMM.out;omega,hJ4,(HK.out.trans (da.of_below D2.out)).trans hk4⟩
     case measure=>simp;exact HR2.out.2.2.1
    ·gi_wp2
     go_wp2;refine bodyPost_ret (results_none rfl _ _ _) rfl ?_
     exact⟨⟨_,rfl⟩,.inr ⟨_,⟨i+1,by have:=HLT.out;omega,rfl⟩,hx4⟩⟩
theorem nG (A:Option Addr) (n c:Nat) (w:World) :
  Calls Tryz.prog 141 #[.slice A n c] w fun e w'=>e=.returned (.func (.func 184) #[] #[.pointer (some ⟨w.heap.size,0,none⟩)])/\w'=w.alloc (.cells #[.slice A n c] 44):=by
 have hmf:∀(fn:Fn) (first cap:Array Value) (w:World),(Instr.makeFunc fn first cap).run Tryz.prog w=.ok (.func fn first cap) w:=fun _ _ _ _=>rfl;go_enter Tryz.func141,Tryz.ntmps141;go_wp2;go_ret
 exact⟨rfl,rfl⟩
section
variable {F:Fence} {n:Nat} {P:Program}
theorem gK {α:Type} {g:Operand} {ps:Array Tmp} {assign body:Code} {Q:Exit->Act->World->Prop} {a:Act} {w:World}
  (hro:F.round=none) (h1:1<=n) {gf:Nat} {lb:Array Value} (hg:a.eval g=.func (.func gf) #[] lb) (hFg:F.fn gf) (eg:∀args w,(callFunc gf args).run P w=.ok (.enter gf args) w)
  {encs:α->Array Value} {Kp:World->World->Prop} {S Sp:List α->Prop} {N:Nat} {w0:World} (hseq:SeqStopsK F (n-1) P gf lb encs Kp S Sp N w0)
  (hKt:∀{A B C:World},Kp A B->Kp B C->Kp A C) (hKb:∀(W:World) (l:Nat) (o o':Obj),w.heap.size<=l->W.heap[l]? = some o->o.isCells=false->o.isWalk=false->Kp W (W.putObj l o')) (hb0:Below w0.heap.size w0 w) (hps:∀x,(encs x).size=ps.size)
  (I:List α->World->Prop) (Ix:Code->List α->World->Prop) (hI:OwnFrom w.heap.size I) (hIx:∀c,OwnFrom w.heap.size (Ix c)) (h0:I [] w)
  (R:α->Nat->World->Prop) (hR:∀x q,OwnFrom w.heap.size (fun(_:Unit) W=>R x q W)) (aF:α->Nat->Act)
  (hassign:∀(l:Nat) (pre:List α) (x:α) (W:World) (K:Act->World->Prop),I pre W->(∀q W',KeepsFrom w.heap.size W W'->Kp W W'->I pre W'->R x q W'->K (aF x q) W')->
   assign.wpIn (F.inRound l) (n-1-1) P (Exit.then K (fun _ _ _=>False)) { tmps:=(ps.zip (encs x)).foldl (fun t (p,v)=>t.setIfInBounds p v) a.tmps,defers:=[] } W)
  (hbody:∀(l:Nat) (pre:List α) (x:α) (q:Nat) (W:World),I pre W->R x q W->pre.length < N->body.wpIn (F.inRound l) (n-1-1) P (ownPostG w.heap.size Kp I Ix (pre++[x]) W) (aF x q) W)
  (hdone:∀(D:Nat) (xs:List α) (W:World),w.heap.size<=D->S xs->I xs W->W.heap[D]? = some (.deferred (some []))->Q .normal { a with defers:={ target:=.collected D,args:=#[] } :: a.defers } W)
  (hstop:∀(D:Nat) (c:Code) (pre:List α) (W:World),w.heap.size<=D->Sp pre->Ix c pre W->W.heap[D]? = some (.deferred (some []))->c.wpIn F n P Q { a with defers:={ target:=.collected D,args:=#[] } :: a.defers } W) :
  (Code.rangeFunc g ps assign body).wpIn F n P Q a w:=
 wpIn_rangeFunc_ownH hro h1 hg hFg eg hseq hKt hKb hb0 hps I Ix hI hIx h0 (fun x a' W=>∃q,a'=aF x q/\R x q W)
  (fun x a' s A B row hs hgr hr=>by obtain⟨q,e,h⟩:=hs;exact⟨q,e,hR x q () A B row h hgr hr⟩)
  (fun l pre x W K hi hK=>hassign l pre x W K hi (fun q W' k1 k2 k3 k4=>hK _ _ k1 k2 k3 ⟨q,rfl,k4⟩))
  (fun l pre x a' W _ _ hi hA hl=>by obtain⟨q,rfl,h⟩:=hA;exact hbody l pre x q W hi h hl)
  hdone hstop
end
theorem vK {β:Type} {B q:Nat} {t:TypeId} {cs:Array Value}:OwnFrom B (fun(_:β) W=>ae W q t cs):=fun _ X Y row hs hg hr=>
 (hg.block q hs.lt (fun e=>by obtain⟨_,o,ho,hc⟩:=hr q e.symm;rw[show X.heap[q]? = _ from hs]at ho;cases ho;cases hc)).trans hs
theorem iv {W W':World} (h:Below W.heap.size W W'):KeepsOthers W W':=⟨h.size,fun k _ hk _=>(h.block k (Array.getElem?_eq_some_iff.1 hk).1).trans hk⟩
theorem aa.setRow {F:Nat->Prop} {w w':World} (h:aa F w w') {g:Nat} (hg:F g) (cs:Array Value):aa F w (w'.setRow g cs):=by
 have hb:=aj (Below.refl 0 w') (Nat.zero_le g) cs
 exact⟨hb.os.trans h.os,hb.tape.trans h.tape,hb.output.trans h.output,ba h.size hb.size,fun k hk hn=>(setRow_other _ _ _ _ (fun e=>hn (by rw[e];exact hg))).trans (h.block k hk hn)⟩
theorem aa.keepsFrom {F:Nat->Prop} {A C:World} (h:aa F A C) (B:Nat) (hc:∀k o,F k->A.heap[k]? = some o->o.isCells=true):KeepsFrom B A C:=
 ⟨h.size,fun k o _ hk ho=>(h.block k (Array.getElem?_eq_some_iff.1 hk).1 (fun hf=>by have:=hc k o hf hk;rw[this]at ho;cases ho)).trans hk⟩
theorem aa.keepL {F:Nat->Prop} {A C:World} {n0 ob ab:Nat} (h:aa F A C) (hc:∀k,F k->k < n0->k=ob\/k=ab):da n0 ob ab A C:=
 ⟨h.size,fun b cs t fr h0 h1 h2 hb=>(h.block b (Array.getElem?_eq_some_iff.1 hb).1 (fun hf=>by rcases hc b hf h0 with e | e<;>contradiction)).trans hb⟩
section
variable {F:Fence} {n:Nat} {P:Program} {ops:Array Oper} {rest:List Oper} {o:Oper} {a:Act} {w:World} {Q:Exit->Act->World->Prop}
theorem dR (hgd:o.guard=none) (ty:TypeId) (x y:Operand) (ho:o.op=.store ty x y)
  (g:Nat) (cells:Array Value) (hx:a.eval x=.pointer (some ⟨g,0,none⟩)) (hy:a.eval y=.agg cells)
  (t:TypeId) (old:Array Value) (hg:w.heap[g]? = some (.cells old t (0,0))) (hi:(P.info? ty).map (·.size)=some cells.size)
  (hold:old.size=cells.size) (h1:cells.all (·.oneCell')=true)
  (h:wpListIn F n P ops Q rest (a.put o.dst undef) (w.setRow g cells)):wpListIn F n P ops Q (o :: rest) a w:=by
 refine wpListIn_plain hgd fun K hK'=>?_;unfold Oper.wpIn;refine⟨?_,?_⟩
 ·simp[Oper.about,ho]
 ·rw[Oper.semAt_plain F _ _ (by rw[ho];intro c hc';cases hc')];unfold execOp;simp only[ho,hx,hy,Instr.storeAt,Instr.sureAddr,Sem.run_bind,Sem.run_pure,Result.andThen_ok,run_storeVar_row w g t ty old cells hg hi hold h1]
  exact hK' _ _ h
end
def fj (key z:Nat->Nat) (n:Nat) (s:(Nat->Nat)×Int) (x:Nat):(Nat->Nat)×Int:=(gn key (ce s.1 (if s.2-(eZ n x:Int)=0 then bS key (cH z n x) (eZ n x) else cH z n x)),s.2-(eZ n x:Int))
def gr (key z:Nat->Nat) (n:Nat) (pre:List Nat):(Nat->Nat)×Int:=pre.foldl (fj key z n) (zB,(n:Int))
theorem kf (key z:Nat->Nat) (n:Nat):gr key z n [] = (zB,(n:Int)):=rfl
theorem lY (key z:Nat->Nat) (n:Nat) (pre:List Nat) (x:Nat):gr key z n (pre++[x])=(gn key (ce (gr key z n pre).1 (if (gr key z n pre).2-(eZ n x:Int)=0 then bS key (cH z n x) (eZ n x) else cH z n x)),(gr key z n pre).2-(eZ n x:Int)):=by
 unfold gr;rw[List.foldl_append]
 rfl
theorem mI (n q:Nat):eZ n q<=16:=by unfold eZ;split<;>omega
theorem kh {key z:Nat->Nat} {n:Nat} (hk:br key) (hz:∀j,j < n->z j < 256):∀(pre:List Nat) (s:(Nat->Nat)×Int),br s.1->br (pre.foldl (fj key z n) s).1/\(pre.foldl (fj key z n) s).2<=s.2/\s.2-16*(pre.length:Int)<=(pre.foldl (fj key z n) s).2
 | [],s,h=>⟨h,Int.le_refl _,by simp⟩
 | x :: pre,s,h=>by
  have hb:=mI n x;have h1:br (fj key z n s x).1:=by
   refine iF hk (fL h ?_)
   split
   ·exact jI hk (dQ hz x)
   ·exact dQ hz x
  obtain⟨k1,k2,k3⟩:=kh hk hz pre (fj key z n s x) h1;have e:(fj key z n s x).2=s.2-(eZ n x:Int):=rfl;rw[e]at k2 k3;rw[List.foldl_cons];refine⟨k1,by omega,?_⟩;rw[List.length_cons];omega
theorem uU {key z:Nat->Nat} {n:Nat} (hk:br key) (hz:∀j,j < n->z j < 256) (pre:List Nat):br (gr key z n pre).1/\(gr key z n pre).2<=n/\(n:Int)-16*(pre.length:Int)<=(gr key z n pre).2:=kh hk hz pre (zB,(n:Int)) mZ
theorem j6 {key z:Nat->Nat} {n:Nat} (hn:1<=n):∀k,k<=fD n->gr key z n (List.range k)=(pF key z n k,if k=fD n then 0 else (n:Int)-16*(k:Int))
 | 0,_=>by
  rw[List.range_zero,kf,if_neg (by unfold fD;rw[if_neg (by omega)];omega)];simp[pF]
 | k+1,h=>by
  rw[List.range_succ,lY,j6 hn k (by omega),if_neg (by omega)];have hb:fD n=(n+15) / 16:=by unfold fD;rw[if_neg (by omega)]
  by_cases hl:n<=16*k+16
  ·have e:k+1=fD n:=by omega
   have eb:eZ n k=n-16*k:=by unfold eZ;rw[if_pos hl]
   have e0:(n:Int)-16*(k:Int)-((n-16*k:Nat):Int)=0:=by omega
   simp only[eb,e0,if_pos e,if_true,pF];unfold uP;rw[if_pos hl]
  ·have e:¬k+1=fD n:=by omega
   have eb:eZ n k=16:=by unfold eZ;rw[if_neg hl]
   have e0:¬((n:Int)-16*(k:Int)-((16:Nat):Int)=0):=by omega
   simp only[eb,if_neg e0,if_neg e,pF];unfold uP;rw[if_neg hl];congr 1;omega
theorem sx {key z:Nat->Nat} {n:Nat} (hn:1<=n):(gr key z n (List.range (fD n))).1=fT key z n:=by
 rw[j6 hn _ ao]
 rfl
structure sr (w:World) (kb sb pb fb xb cg:Nat) (key z:Nat->Nat) (n:Nat) (pre:List Nat) (W:World):Prop where
 k:ae W kb 23 (ar key)
 s:ae W sb 190 (ar (gr key z n pre).1)
 p:ae W pb 226 #[.pointer (some ⟨cg,0,none⟩)]
 c:cT W cg key
 f:ae W fb 231 #[.func (.func 138) #[] #[.pointer (some ⟨kb,0,none⟩)]]
 x:ae W xb 3 #[.int .i64 (gr key z n pre).2]
 low:Below w.heap.size w W
 sz:pb+4<=W.heap.size
theorem sr.below {w W W':World} {kb sb pb fb xb cg n:Nat} {key z:Nat->Nat} {pre:List Nat} (h:sr w kb sb pb fb xb cg key z n pre W) (hb:Below W.heap.size W W'):sr w kb sb pb fb xb cg key z n pre W':=
 ⟨h.k.below hb h.k.lt,h.s.below hb h.s.lt,h.p.below hb h.p.lt,h.c.below hb,h.f.below hb h.f.lt,h.x.below hb h.x.lt,h.low.trans (hb.mono h.low.size),ba h.sz hb.size⟩
theorem tQ {w:World} {kb sb pb fb xb cg n B:Nat} {key z:Nat->Nat} (hB:w.heap.size<=B):OwnFrom B (fun pre W=>sr w kb sb pb fb xb cg key z n pre W):=fun s X Y row h hg hr=>by
 have keep:∀k (o:Obj),X.heap[k]? = some o->o.isCells=true->Y.heap[k]? = X.heap[k]?:=fun k o ho hc=>hg.block k (Array.getElem?_eq_some_iff.1 ho).1 (fun e=>by
  obtain⟨_,o',ho',hc'⟩:=hr k e.symm;rw[ho]at ho';cases ho';rw[hc]at hc';cases hc')
 exact⟨(keep _ _ h.k rfl).trans h.k,(keep _ _ h.s rfl).trans h.s,(keep _ _ h.p rfl).trans h.p,(keep _ _ h.c rfl).trans h.c,(keep _ _ h.f rfl).trans h.f,(keep _ _ h.x rfl).trans h.x,⟨hg.os.trans h.low.os,hg.tape.trans h.low.tape,hg.output.trans h.low.output,ba h.low.size hg.size,fun k hk=>(hg.block k (bg hk h.low.size) (fun e=>by have:=(hr k e.symm).1;omega)).trans (h.low.block k hk)⟩,ba h.sz hg.size⟩
theorem xm (key:Nat->Nat) (hk:br key) (lb lo n c:Nat) (z:Nat->Nat) (hn1:1<=n) (hn2:n<=100000) (hnc:n<=c) (hz:∀j,j < n->z j < 256) (w:World) (hlb:lb < w.heap.size) (hr:∀j,j < n->w.cell? ⟨lb,lo+j,none⟩=some (.int .u8 ((z j:Nat):Int))) :
  Calls Tryz.prog 115 #[.agg (ar key),.slice (some ⟨lb,lo,none⟩) n c] w fun e w'=>e=.returned (.agg (ar (fT key z n)))/\Below w.heap.size w w':=by
 have hmf:∀(fn:Fn) (first cap:Array Value) (w:World),(Instr.makeFunc fn first cap).run Tryz.prog w=.ok (.func fn first cap) w:=fun _ _ _ _=>rfl;have HNEW:=zh (fun V=>mo key hk V);have HBM:=zh (fun V=>nG (some ⟨lb,lo,none⟩) n c V);have HEN:=zh (fun b (hb:br b) g V (hV:cT V g key)=>gP key b hk hb g V hV);have HLA:=zh (fun x kb V (hV:ae V kb 23 (ar key))=>vg key (cH z n x) (eZ n x) hk (dQ hz x) (mI n x) kb V hV);have HPL:=zh (fun a b (ha:br a) (hb:br b) V=>me a b ha hb V);have HSLT:=zh (fun pre=>uU (key:=key) (z:=z) (n:=n) hk hz pre);have HBLT:=zh (fun x=>dQ (z:=z) (n:=n) hz x);have HLLT:=zh (fun x=>jI (r:=eZ n x) hk (dQ (z:=z) (n:=n) hz x));have HMAC:=zh (sx (key:=key) (z:=z) hn1);have HLB:=zh hlb;have HR:=zh hr;have HN:=zh (show 1<=n/\n<=100000/\n<=c from ⟨hn1,hn2,hnc⟩);have n0:(0:Int)<=(n:Int):=by omega
 have n1:(n:Int)<=100000:=by omega
 have HSIZ:=zh (fun f=>(by rw[ah];kernel_rfl:(Tryz.prog.info? 190).map (·.size)=some (ar f).size));obtain⟨KY,hKY⟩:=af (ar key)
 have HSK:Hid ((Tryz.prog.info? 23).map (·.size)=some KY.size):=zh (by rw[hKY,ah];kernel_rfl);have HKY:=zh hKY;rw[<-hKY]at HNEW;rw[<-hKY];clear hk hz hlb hr hKY hn1 hn2 hnc;refine(callsIn_wide (n:=8)).1 ?_;refine callsIn_of_wp_marks Tryz.func115 rfl trivial ?_ rfl;simp only[Tryz.ntmps115,List.size_toArray,List.length_cons,List.length_nil,Nat.reduceAdd,Nat.reduceSub,Array.replicate_succ,Array.replicate_zero,List.push_toArray,List.append_toArray,List.nil_append,List.cons_append];refine wpIn_wide.2 ?_;go_upto_region 1 with (fail)
 obtain⟨kb,hkb⟩:=af w.heap.size
 refine ag (fun V=>ae V kb 23 KY/\ae V (kb+1) 190 (ar zB)/\Below w.heap.size w V) ⟨by rw[hkb];exact(aq _ _ _ _ rfl).alloc _,by rw[hkb];exact aq _ _ _ _ (by simp),(bM _).alloc (by simp) _⟩ ?_;rintro W1 ⟨b1,b2,b3⟩;have B1:=zh b1;have B2:=zh b2;have B3:=zh b3;have HKB:=zh hkb;rw[<-hkb];clear b1 b2 b3 hkb;go_upto_region 2 with (first
  | (refine wpList_load_row rfl _ _ rfl kb rfl 23 KY (0,0) _ B1.out Tryz.underlying23 rfl HSK.out ?_)
  | (go_at_call 137;refine(HNEW.out _).mono ?_;rintro e w4 ⟨cg,rfl,hcg,hge,hb4⟩;have C1:=zh (B1.out.below hb4 B1.out.lt);have C2:=zh (B2.out.below hb4 B2.out.lt);have C3:=zh (B3.out.trans (hb4.mono B3.out.size));have C4:=zh hcg;have C5:=zh (show kb+1 < cg by have:=B2.out.lt;omega);clear hb4 hcg hge))
 obtain⟨pb,hpb⟩:=af w4.heap.size
 have hc5:=C5.out;have hw4:kb+1 < w4.heap.size:=C2.out.lt;have hcw4:cg < w4.heap.size:=ae.lt C4.out;have HPB:=zh (show kb+1 < pb/\cg < pb/\kb+1 < cg/\w.heap.size<=kb/\kb=w.heap.size by have:=HKB.out;omega);go_upto_region 4 with (fail)
 refine ag (fun V=>ae V kb 23 KY/\ae V (kb+1) 190 (ar zB)/\ae V pb 226 #[.pointer (some ⟨cg,0,none⟩)]/\cT V cg key/\ae V (pb+1) 231 #[.func (.func 138) #[] #[.pointer (some ⟨kb,0,none⟩)]]/\ae V (pb+1+1) 3 #[.int .i64 (n:Int)]/\Below w.heap.size w V/\V.heap.size=pb+3)
  ⟨((C1.out.alloc _).alloc _).alloc _,((C2.out.alloc _).alloc _).alloc _,((aq _ _ _ _ hpb.symm).alloc _).alloc _,(((show ae _ _ _ _ from C4.out).alloc _).alloc _).alloc _,(aq _ _ _ _ (by simp[hpb])).alloc _,aq _ _ _ _ (by simp[hpb]),((C3.out.alloc C3.out.size _).alloc (by have:=C3.out.size;simp;omega) _).alloc (by have:=C3.out.size;simp;omega) _,by simp[hpb]⟩ ?_
 rintro W2 ⟨b1,b2,b3,b4,b5,b6,b7,b8⟩;have D1:=zh b1;have D2:=zh b2;have D3:=zh b3;have D4:=zh b4;have D5:=zh b5;have D6:=zh b6;have D7:=zh b7;have D8:=zh b8
 try rw[<-hpb]
 clear b1 b2 b3 b4 b5 b6 b7 b8 hpb C1 C2 C3 C4 C5 hc5 hw4 hcw4 B1 B2 B3;go_wp2_with (go_at_call 141;refine(HBM.out _).mono ?_;rintro e w5 ⟨rfl,rfl⟩);refine ag (fun V=>ae V (pb+3) 44 #[.slice (some ⟨lb,lo,none⟩) n c]/\sr w kb (kb+1) pb (pb+1) (pb+1+1) cg key z n [] V/\V.heap.size=pb+4) ⟨?_,?_,?_⟩ ?_
 ·exact aq _ _ _ _ D8.out
 ·refine⟨?_,?_,D3.out.alloc _,(show ae _ _ _ _ from D4.out).alloc _,D5.out.alloc _,?_,D7.out.alloc D7.out.size _,by simp[D8.out]⟩
  ·rw[<-HKY.out];exact D1.out.alloc _
  ·rw[kf];exact D2.out.alloc _
  ·rw[kf];exact D6.out.alloc _
 ·simp[D8.out]
 rintro W3 ⟨b1,b2,b3⟩;have E1:=zh b1;have E2:=zh b2;have E3:=zh b3;rw[D8.out];clear b1 b2 b3 D1 D2 D3 D4 D5 D6 D7 D8;refine(wpIn_wide (n:=8)).1 ?_;have hseq:=mc lb lo n c z HN.out.1 HN.out.2.1 (pb+3) (kb+1) (pb+1+1) 7 W3 E1.out HN.out.2.2 (by have:=E2.out.low.size;have:=HLB.out;omega) (fun j hj=>(E2.out.low.cell (p:=⟨lb,lo+j,none⟩) HLB.out).trans (HR.out j hj)) (by have:=HPB.out;omega) (by omega) (by have:=HPB.out;have:=HLB.out;omega) (by have:=HPB.out;have:=HLB.out;omega) (pb+4) (by omega) (by have:=HPB.out;have:=HLB.out;omega) (by decide);refine gK rfl (by decide) (gf:=184) (lb:=#[.pointer (some ⟨pb+3,0,none⟩)]) rfl trivial (enters_of Tryz.func184 (by kernel_rfl) rfl)
  hseq da.trans rH (Below.refl _ _) (fun _=>rfl)
  (fun pre W=>sr w kb (kb+1) pb (pb+1) (pb+1+1) cg key z n pre W)
  (fun cd pre W=>False)
  (tQ (by have:=E2.out.low.size;omega))
  (fun cd s A B row hs hg hr=>hs.elim)
  E2.out
  (fun x q W=>ae W q 190 (ar (cH z n x))/\pb+4<=q) (fun x q _ X Y row hs hg hr=>⟨vK (β:=Unit) () X Y row hs.1 hg hr,hs.2⟩)
  ?a1 ?assign ?body ?done ?stop
 case stop=>
  intro D cd pre W hD hS hI
  exact hI.elim
 case assign=>
  intro l pre x W K hI hK;have HI:=zh hI;have HK:=zh hK;have HZX:=zh (fun f=>(by rw[ah];rfl:(#[.int .u8 0,.int .u8 0,.int .u8 0,.int .u8 0,.int .u8 0,.int .u8 0,.int .u8 0,.int .u8 0,.int .u8 0,.int .u8 0,.int .u8 0,.int .u8 0,.int .u8 0,.int .u8 0,.int .u8 0,.int .u8 0]:Array Value).size=(ar f).size));have HO:=zh (fun f=>aI f);clear hI hK
  gi_wp2_with (refine dR rfl _ _ _ rfl W.heap.size (ar (cH z n x)) rfl rfl 190 _ (ae.new _ _ _) (HSIZ.out _) (HZX.out _) (HO.out _) ?_)
  have hb:Below W.heap.size W ((W.alloc (.cells #[.int .u8 0,.int .u8 0,.int .u8 0,.int .u8 0,.int .u8 0,.int .u8 0,.int .u8 0,.int .u8 0,.int .u8 0,.int .u8 0,.int .u8 0,.int .u8 0,.int .u8 0,.int .u8 0,.int .u8 0,.int .u8 0] 190)).setRow W.heap.size (ar (cH z n x))):=aj (bM _) ao _;have hB:ae ((W.alloc (.cells #[.int .u8 0,.int .u8 0,.int .u8 0,.int .u8 0,.int .u8 0,.int .u8 0,.int .u8 0,.int .u8 0,.int .u8 0,.int .u8 0,.int .u8 0,.int .u8 0,.int .u8 0,.int .u8 0,.int .u8 0,.int .u8 0] 190)).setRow W.heap.size (ar (cH z n x))) W.heap.size 190 (ar (cH z n x)):=setRow_heap _ _ _ _ 190 (0,0) (ae.new _ _ _);obtain⟨W',hW'⟩:=af ((W.alloc (.cells #[.int .u8 0,.int .u8 0,.int .u8 0,.int .u8 0,.int .u8 0,.int .u8 0,.int .u8 0,.int .u8 0,.int .u8 0,.int .u8 0,.int .u8 0,.int .u8 0,.int .u8 0,.int .u8 0,.int .u8 0,.int .u8 0] 190)).setRow W.heap.size (ar (cH z n x)))
  rw[<-hW']at hb hB ⊢;obtain⟨q,hq⟩:=af W.heap.size
  rw[<-hq]at hB;rw[<-hq]
  exact HK.out q _ ((iv hb).from _) (da.of_below hb) (HI.out.below hb) ⟨hB,by rw[hq];exact HI.out.sz⟩
 case body=>
  rintro l pre x q W hI ⟨hq,hql⟩ hlen;have HI:=zh hI;obtain⟨L,hL⟩:=af ((gr key z n pre).2)
  obtain⟨bl,hbl⟩:=af (eZ n x)
  obtain⟨St,hSt⟩:=af ((gr key z n pre).1)
  obtain⟨Bx,hBx⟩:=af (cH z n x)
  have hb16:bl<=16:=by rw[hbl];exact mI n x
  have hlen2:pre.length < 6251:=by have:=HN.out;unfold fD at hlen;rw[if_neg (by omega)]at hlen;omega
  have hsl:=HSLT.out pre;rw[<-hL,<-hSt]at hsl;have L0:(-100016:Int)<=L:=by omega
  have L1:L<=100000:=by omega
  have bl0:(0:Int)<=(bl:Int):=by omega
  have bl1:(bl:Int)<=16:=by omega
  have HST:=zh hsl.1;have HBX:Hid (br Bx):=zh (by rw[hBx];exact HBLT.out x);have HLX:Hid (br (bS key Bx bl)):=zh (by rw[hBx,hbl];exact HLLT.out x);have HLAX:=zh (fun V (hV:ae V kb 23 (ar key))=>HLA.out x kb V hV);have HS1:Hid (∀T,T=(if L-(bl:Int)=0 then bS key Bx bl else Bx)->gr key z n (pre++[x])=(gn key (ce St T),L-(bl:Int))):=zh (fun T hT=>by rw[lY,<-hL,<-hSt,<-hbl,<-hBx,<-hT]);have IK:=zh hI.k;have IS:=zh hI.s;have IP:=zh hI.p;have IC:=zh hI.c;have IF:=zh hI.f;have IX:=zh hI.x;have IL:=zh hI.low;have IZ:=zh hI.sz;rw[<-hL]at IX;rw[<-hSt]at IS;rw[<-hBx]at hq;rw[<-hbl,<-hBx]at HLAX;have IQ:=zh hq;have HQN:=zh (show q ≠ kb/\q ≠ kb+1/\q ≠ pb/\q ≠ cg/\q ≠ pb+1/\q ≠ pb+1+1/\w.heap.size<=q/\pb+4<=q by have:=HPB.out;omega);rw[<-hbl,<-hBx];clear hI hL hbl hSt hBx hq hql hlen hlen2 hsl hb16;have cx:=IX.out.cell 0;have cxf:=IX.out.frozen 0;simp at cx;have hW7:aa (fun k=>k=pb+1+1) W (W.setCell ⟨pb+1+1,0,none⟩ (.int .i64 (L-(bl:Int)))):=(aa.refl (F:=fun k=>k=pb+1+1) (w:=W)).setCell (p:=⟨pb+1+1,0,none⟩) rfl _;have J7:=zh hW7;have JX:=zh (show ae (W.setCell ⟨pb+1+1,0,none⟩ (.int .i64 (L-(bl:Int)))) (pb+1+1) 3 #[.int .i64 (L-(bl:Int))]from IX.out.set_ 0 _);have cx7:=JX.out.cell 0;simp at cx7;clear hW7;by_cases hz:L-(bl:Int)=0
  focus
   have HTT:Hid (bS key Bx bl=(if L-(bl:Int)=0 then bS key Bx bl else Bx)):=zh (by rw[if_pos hz]);have t1:(L-(bl:Int) == 0)=true:=by rw[beq_iff_eq];exact hz
   have JF:=zh (J7.out.blk IF.out (by omega));have JK:=zh (show ae (W.setCell ⟨pb+1+1,0,none⟩ (.int .i64 (L-(bl:Int)))) kb 23 (ar key)from J7.out.blk IK.out (by have:=HPB.out;omega));have JQ:=zh (J7.out.blk IQ.out HQN.out.2.2.2.2.2.1);have cf:=JF.out.cell 0;simp at cf;have HZX:=zh (fun f h=>(by rw[ah,ah]:(ar h).size=(ar f).size));have HO:=zh (fun f=>aI f);clear hz
   gi_upto_region 10 with (first
    | (refine ew rfl _ _ rfl q rfl 190 (ar Bx) (0,0) _ JQ.out Tryz.underlying190 rfl (HSIZ.out _) ?_)
    | (refine⟨trivial,?_⟩;gi_at_call 138;refine(CallsIn.inRound l (callsIn_wide.2 (HLAX.out _ JK.out))).mono ?_;rintro e w8 ⟨rfl,hb8⟩;have JQ8:=zh (JQ.out.below hb8 JQ.out.lt);have J8:=zh (J7.out.trans (aa.of_below hb8) (fun _ _ h=>h));have JX8:=zh (JX.out.below hb8 JX.out.lt);clear hb8)
    | (refine dR rfl _ _ _ rfl q (ar (bS key Bx bl)) rfl rfl 190 _ JQ8.out (HSIZ.out _) (HZX.out _ _) (HO.out _) ?_))
   try simp only[Act.put]
   have G1:Hid (aa (fun k=>k=pb+1+1\/k=q) W (w8.setRow q (ar (bS key Bx bl)))):=zh ((J8.out.mono (fun _ h=>.inl h)).setRow (.inr rfl) _);have GX:=zh (show ae (w8.setRow q (ar (bS key Bx bl))) (pb+1+1) 3 #[.int .i64 (L-(bl:Int))]from JX8.out.farRow (Ne.symm HQN.out.2.2.2.2.2.1));have GQ:=zh (show ae (w8.setRow q (ar (bS key Bx bl))) q 190 (ar (bS key Bx bl))from setRow_heap _ _ _ _ 190 (0,0) JQ8.out);obtain⟨W10,hW10⟩:=af (w8.setRow q (ar (bS key Bx bl)))
   rw[<-hW10]at G1 GX GQ;rw[<-hW10];have HT16:Hid (br (bS key Bx bl)):=HLX;obtain⟨T,hT⟩:=af (bS key Bx bl)
  rotate_left
  focus
   have HTT:Hid (Bx=(if L-(bl:Int)=0 then bS key Bx bl else Bx)):=zh (by rw[if_neg hz]);have t1:(L-(bl:Int) == 0)=false:=by rw[beq_eq_false_iff_ne];exact hz
   clear hz
   gi_upto_region 10 with (fail)
   try simp only[Act.put]
   have G1:Hid (aa (fun k=>k=pb+1+1\/k=q) W (W.setCell ⟨pb+1+1,0,none⟩ (.int .i64 (L-(bl:Int))))):=zh (J7.out.mono (fun _ h=>.inl h));have GX:=JX;have GQ:=zh (J7.out.blk IQ.out HQN.out.2.2.2.2.2.1);obtain⟨W10,hW10⟩:=af (W.setCell ⟨pb+1+1,0,none⟩ (.int .i64 (L-(bl:Int))))
   rw[<-hW10]at G1 GX GQ cx7;rw[<-hW10];have HT16:Hid (br Bx):=HBX;obtain⟨T,hT⟩:=af Bx
  all_goals
   have HTT2:=zh (hT.trans HTT.out);rw[<-hT]at HT16 GQ;clear hW10 hT HTT;have GS:=zh (show ae W10 (kb+1) 190 (ar St)from G1.out.blk IS.out (by have:=HPB.out;have:=HQN.out;omega));have GP:=zh (show ae W10 pb 226 #[.pointer (some ⟨cg,0,none⟩)]from G1.out.blk IP.out (by have:=HPB.out;have:=HQN.out;omega));have GC:=zh (show cT W10 cg key from G1.out.blk (show ae _ _ _ _ from IC.out) (by have:=HPB.out;have:=HQN.out;omega));have HPC:=zh (show ∀W',aa (fun k=>k=kb+1) W10 W'->W'.cell? ⟨pb,0,none⟩=some (.pointer (some ⟨cg,0,none⟩))from fun W' h=>(h.blk GP.out (by have:=HPB.out;omega)).cell 0);have HQR:=zh (show ∀W',aa (fun k=>k=kb+1) W10 W'->W'.rangeAt q 0 (ar T).toList from fun W' h=>(h.blk GQ.out (by have:=HQN.out;omega)).range _ (by simp));have HSZL:Hid ((Tryz.prog.info? 190).map (·.size)=some (ar T).toList.length):=zh (by rw[Array.length_toList];exact HSIZ.out T);have HUC:=zh Tryz.underlying190;have HPL1:=zh (fun V=>HPL.out St T HST.out HT16.out V);have HEN1:=zh (fun V (hV:cT V cg key)=>HEN.out (ce St T) (fL HST.out HT16.out) cg V hV);obtain⟨NS,hNS⟩:=af (gn key (ce St T))
   have HNS:=zh hNS;have HO16:=zh (aI NS);have HZ16:=zh (by rw[ah,ah]:(ar St).size=(ar NS).size);rw[<-hNS]at HEN1;clear hNS cx cxf cx7;obtain⟨w0,hw0⟩:=af W10.drew
   have hb0:Below W10.heap.size W10 w0:=by rw[hw0];exact(Below.refl _ _).drew
   refine eu (S:=fun w'=>aa (fun k=>k=kb+1) W10 w') (by rintro ⟨_,_,h⟩;exact h) (by kernel_rfl) (by kernel_rfl) (aa.of_below ((Below.refl _ _).drew)) (fun hHeld=>?_);rw[<-hw0];rw[<-hw0]at hHeld;clear hw0;refine wpAnyH_take (i:=0) (oi:=⟨some 28,_,_,_,_,_⟩) (v:=.pointer (some ⟨cg,0,none⟩)) rfl (by kernel_rfl) (by kernel_rfl) (by kernel_rfl) (fun _ _ _ h=>h) (Or.inl ⟨by rfl,fun W hW=>(by have:=HPC.out W hW;go_simp)⟩) (by assumption) ?_
   try simp only[Act.put,qa,qb,qc]
   refine' wpAnyH_take (i:=2) (oi:=⟨some 30,_,_,_,_,_⟩) (v:=_) rfl (by kernel_rfl) (by kernel_rfl) (by kernel_rfl) (fun _ _ _ h=>h) (yieldsIf_load_mid (by rfl) _ _ rfl q 0 rfl (ar T).toList _ (fun w h=>HQR.out w h) HUC.out rfl HSZL.out) (by assumption) ?_
   try simp only[Act.put,qa,qb,qc]
   refine bc (i:=1) (x:=some 29) rfl fun K hK=>?_;refine wp_load_row _ _ rfl (kb+1) rfl 190 (ar St) (0,0) _ (GS.out.below hb0 GS.out.lt) HUC.out rfl (HSIZ.out _) ?_;refine hK.out _ _ hHeld (fun hHeld=>?_);clear hK K
   try simp only[Act.put,qa,qb,qc]
   refine bc (i:=3) (x:=some 31) rfl fun K hK=>?_;go_simp;refine(HPL1.out _).mono ?_;rintro e w1 ⟨rfl,hB⟩;dsimp only;have hb1:Below W10.heap.size W10 w1:=hb0.trans (hB.mono hb0.size);refine hK.out _ _ (aa.of_below hb1) (fun hHeld=>?_);clear hK K hB
   try simp only[Act.put,qa,qb,qc]
   refine bc (i:=4) (x:=some 32) rfl fun K hK=>?_;go_simp;refine(HEN1.out _ (GC.out.below hb1)).mono ?_;rintro e w2 ⟨rfl,hB⟩;dsimp only;have hb2:Below W10.heap.size W10 w2:=hb1.trans (hB.mono hb1.size);refine hK.out _ _ (aa.of_below hb2) (fun hHeld=>?_);clear hK K hB
   try simp only[Act.put,qa,qb,qc]
   refine bc (i:=5) (x:=none) rfl fun K hK=>?_;refine wp_store_row _ _ _ rfl (kb+1) (ar NS) rfl rfl 190 (ar St) (GS.out.below hb2 GS.out.lt) (HSIZ.out _) HZ16.out HO16.out ?_;have H2:=zh hb2;have hK2:aa (fun k=>k=kb+1) W10 (w2.setRow (kb+1) (ar NS)):=aa.setRow (F:=fun k=>k=kb+1) (aa.of_below hb2) rfl _;have HK2:=zh hK2;have HSN:=zh (show ae (w2.setRow (kb+1) (ar NS)) (kb+1) 190 (ar NS)from setRow_heap _ _ _ _ 190 (0,0) (GS.out.below hb2 GS.out.lt));refine hK.out _ _ hK2 (fun hHeld=>?_);clear hK K hb0 hb1 hb2 hK2
   try simp only[Act.put]
   refine wpAnyH_done (by kernel_rfl) ?_ _;clear hHeld
   gi_wp2
   have hAll:aa (fun k=>k=pb+1+1\/k=q\/k=kb+1) W (w2.setRow (kb+1) (ar NS)):=(G1.out.mono (fun k hk=>by rcases hk with h | h;exact .inl h;exact .inr (.inl h))).trans HK2.out (fun k _ hk=>.inr (.inr hk));have e1:=HS1.out T HTT2.out;rw[<-HNS.out]at e1;refine⟨hAll.keepsFrom _ (fun k o hk ho=>?_),hAll.keepL (fun k hk hkl=>?_),⟨?_,?_,?_,?_,?_,?_,?_,ba IZ.out hAll.size⟩⟩
   ·rcases hk with rfl | rfl | rfl
    ·rw[show W.heap[_]? = _ from IX.out]at ho;cases ho;rfl
    ·rw[show W.heap[_]? = _ from IQ.out]at ho;cases ho;rfl
    ·rw[show W.heap[_]? = _ from IS.out]at ho;cases ho;rfl
   ·rcases hk with rfl | rfl | rfl
    ·exact .inr rfl
    ·exact absurd hkl (by have:=HQN.out;omega)
    ·exact .inl rfl
   ·exact hAll.blk IK.out (by have:=HPB.out;have:=HQN.out;omega)
   ·rw[e1];exact HSN.out
   ·exact hAll.blk IP.out (by have:=HPB.out;have:=HQN.out;omega)
   ·exact hAll.blk (show ae _ _ _ _ from IC.out) (by have:=HPB.out;have:=HQN.out;omega)
   ·exact hAll.blk IF.out (by have:=HPB.out;have:=HQN.out;omega)
   ·rw[e1];exact HK2.out.blk GX.out (by have:=HPB.out;omega)
   ·exact aa.below IL.out hAll (fun k hk=>by have:=HPB.out;have:=HQN.out;omega) IL.out.size
 case done=>
  rintro D xs W hD rfl hI hdf;have HD:=zh hD;have HDF:=zh hdf;have IS:=zh hI.s;have IL:=zh hI.low;have HZ:=zh hI.sz;rw[HMAC.out]at IS;have HO:=zh (aI (fT key z n));clear hI hdf hD
  gi_wp2
  go_wp2_with (first
   | (refine wpList_load_row rfl _ _ rfl (kb+1) rfl 190 (ar (fT key z n)) (0,0) _ IS.out Tryz.underlying190 rfl (HSIZ.out _) ?_)
   | (refine wpList_store_row rfl _ _ _ rfl (kb+1) (ar (fT key z n)) rfl rfl 190 (ar (fT key z n)) IS.out (HSIZ.out _) rfl HO.out ?_))
  try simp only[Act.put]
  have hD2:D ≠ kb+1:=by have:=HD.out;have:=E3.out;have:=HPB.out;omega
  have hdf2:(W.setRow (kb+1) (ar (fT key z n))).heap[D]? = some (.deferred (some [])):=(setRow_other _ _ _ _ hD2).trans HDF.out;have hS2:ae (W.setRow (kb+1) (ar (fT key z n))) (kb+1) 190 (ar (fT key z n)):=setRow_heap _ _ _ _ 190 (0,0) IS.out;have hL2:Below w.heap.size w (W.setRow (kb+1) (ar (fT key z n))):=aj IL.out (by have:=HPB.out;omega) _;obtain⟨W2,hW2⟩:=af (W.setRow (kb+1) (ar (fT key z n)))
  rw[<-hW2]at hdf2 hS2 hL2 ⊢;refine⟨by simp,.inl ⟨_,_,rfl,run_takeDeferred hdf2,?_⟩⟩;refine⟨.agg (ar (fT key z n)),results_cell_row (g:=kb+1) (t:=190) (fr:=(0,0)) Tryz.results115 _ _ (ar (fT key z n)) _ rfl ((World.putObj_heap_other (Ne.symm hD2)).trans hS2) Tryz.underlying190 rfl (HSIZ.out _),rfl,?_⟩
  exact hL2.grown (grownBy_putObj' _ D _) hL2.size (fun k e=>by cases e;have:=HD.out;have:=E3.out;have:=HPB.out;omega)
end Go.Proofs.YtiiojpnckbglcaaGreat
namespace Go.Proofs.YtiiojpnckbglcaaGreat
open Go.RowKit
attribute [local go_sem ↓] Go.wp_at_zero Go.wp_at_succ
theorem gJ (sb hb n c:Nat) (A:Option Addr) (f z:Nat->Nat) (hn:n<=16500) (w:World) (hsb:sb < w.heap.size) (c0:w.cell? ⟨sb,0,none⟩=some (.slice (some ⟨hb,0,none⟩) 8 8)) (c1:w.cell? ⟨sb,1,none⟩=some (.slice A n c)) (hh:au w w.heap.size (some ⟨hb,0,none⟩) 8 (fun j=>.int .u8 ((f j:Nat):Int))) (hr:au w w.heap.size A n (fun j=>.int .u8 ((z j:Nat):Int))) :
  Calls Tryz.prog 85 #[.slice (some ⟨sb,0,none⟩) 2 2] w fun e w'=>∃lb lo c2,e=.returned (.slice (some ⟨lb,lo,none⟩) (8+n) c2)/\8+n<=c2/\lb < w'.heap.size/\(∀j,j < 8+n->w'.cell? ⟨lb,lo+j,none⟩=some (.int .u8 ((cD f 8 z j:Nat):Int)))/\Below w.heap.size w w':=by
 have ht:ji (fun k=>if k=0 then 8 else n) 2=8+n:=by
  show 0+8+n=8+n;omega
 refine(lE 2 sb (fun k=>if k=0 then some ⟨hb,0,none⟩ else A) (fun k=>if k=0 then 8 else n) (fun k=>if k=0 then 8 else c) (fun k j=>if k=0 then ((f j:Nat):Int) else ((z j:Nat):Int)) (by decide) (by rw[ht];omega) (by rw[ht];omega) w hsb (fun k hk=>?_) (fun k hk=>?_)).mono ?_
 ·rcases (by omega:k=0\/k=1)with rfl | rfl
  ·exact c0
  ·exact c1
 ·rcases (by omega:k=0\/k=1)with rfl | rfl
  ·exact hh
  ·exact hr
 ·rintro e w' ⟨v,he,ho,hB⟩;rw[ht]at ho;obtain⟨A2,c2,hv,hcap,_,_,hrow⟩:=dn (f:=fun j=>.int .u8 ((cD f 8 z j:Nat):Int)) ho (fun j hj=>by
   rw[mh _ _ 2 j (by rw[ht];exact hj)];unfold cD;show some (Value.int .u8 (if j < 0+8 then (if j < 0 then _ else ((f (j-0):Nat):Int)) else ((z (j-(0+8)):Nat):Int)))=_;by_cases h2:j < 8
   ·rw[if_pos (by omega),if_neg (by omega),if_pos h2,Nat.sub_zero]
   ·rw[if_neg (by omega),if_neg h2,Nat.zero_add])
  obtain⟨lb,lo,rfl,hlb,hlc⟩:=hrow (by omega)
  exact⟨lb,lo,c2,by rw[he,hv],hcap,hlb,hlc,hB⟩
def dv (s:Nat->Nat):Nat->Nat
 | 0=>0
 | k+1=>dv s k*256+s k
theorem nM {s:Nat->Nat} (hs:br s):∀k,k<=4->dv s k < 256 ^ k
 | 0,_=>by show 0 < 1;decide
 | k+1,h=>by
  have h1:=nM hs k (by omega);have h2:=hs k (by omega);have e:256 ^ (k+1)=256 ^ k*256:=Nat.pow_succ ..;rw[e];unfold dv;have:(dv s k+1)*256<=256 ^ k*256:=Nat.mul_le_mul_right _ h1;omega
theorem uJ (p s:Nat) (h:s < 256):p*256 ||| s=p*256+s:=by
 have:=Nat.shiftLeft_add_eq_or_of_lt (i:=8) (b:=s) h p;rw[Nat.shiftLeft_eq]at this
 exact this.symm
theorem rQ {s:Nat->Nat} (hs:br s) (k:Nat) (hk:k < 4):((dv s k:Nat):Int) < 16777216/\(s k < 256)/\bits .or .u32 (((dv s k:Nat):Int)*256) ((s k:Nat):Int)=((dv s (k+1):Nat):Int):=by
 have h1:=nM hs k (by omega);have h2:=hs k (by omega);have h3:256 ^ k<=256 ^ 3:=Nat.pow_le_pow_right (by decide) (by omega);have h4:dv s k < 16777216:=bg h1 h3;refine⟨by omega,h2,?_⟩;have:=u32_or_nat (dv s k*256) (s k) (by omega) (by omega);rw[uJ _ _ h2]at this;rw[Int.natCast_mul]at this
 exact this
theorem oW (key:Nat->Nat) (ct b d:Nat) (z:Nat->Nat) (n:Nat):iy key ct b d z n=dv (fT key (cD (cI (oF ct b d)) 8 z) (8+n)) 4:=by
 unfold iy;simp only[dv];omega
theorem qG:pt:=by
 intro key ct b d hk hc hb hd A n c z w hn hz hr;have HPF:=zh (fun V=>iP ct b d hc hb hd V);obtain⟨X,hX⟩:=af (bA 8 (cI (oF ct b d)))
 obtain⟨ff,hff⟩:=af (cI (oF ct b d))
 have HFF:Hid (∀j,j < 8->ff j < 256):=zh (fun j _=>by rw[hff];exact kH _ _);obtain⟨s,hs⟩:=af (fT key (cD ff 8 z) (8+n))
 have HZC:Hid (∀j,j < 8+n->cD ff 8 z j < 256):=zh (ge HFF.out hz);have HS16:Hid (br s):=zh (by rw[hs];exact qy hk HZC.out);have HCO:Hid (iy key ct b d z n=dv s 4):=zh (by rw[oW,<-hff,<-hs]);have HSUM:=zh (fun lb lo c (hnc:8+n<=c) V (hlb:lb < V.heap.size) hr=>xm key hk lb lo (8+n) c (cD ff 8 z) (by omega) (by omega) hnc HZC.out V hlb hr);have HX:Hid ((Tryz.prog.info? 187).map (·.size)=some X.size):=zh (by rw[hX];exact lF _);have HO:Hid (X.all (·.oneCell')=true):=zh (by rw[hX];exact i4 _ _);have HZX:Hid ((#[.int .u8 0,.int .u8 0,.int .u8 0,.int .u8 0,.int .u8 0,.int .u8 0,.int .u8 0,.int .u8 0]:Array Value).size=X.size):=zh (by rw[hX,cw];rfl);have HXA:Hid (X=bA 8 ff):=zh (by rw[hX,hff]);have HSIZ:=zh (fun f=>(by rw[ah];kernel_rfl:(Tryz.prog.info? 190).map (·.size)=some (ar f).size));obtain⟨KY,hKY⟩:=af (ar key)
 have HSK:Hid ((Tryz.prog.info? 23).map (·.size)=some KY.toList.length):=zh (by rw[Array.length_toList,hKY,ah];kernel_rfl);have HUK:=zh Tryz.underlying23;have HKY:=zh hKY;have HR:=zh hr;rw[<-hX]at HPF;rw[<-hs]at HSUM;rw[<-hKY]at HSUM;rw[<-hKY,HCO.out];obtain⟨SB,hSB⟩:=af (ar s)
 have HSB:=zh hSB;rw[<-hSB]at HSUM;have HO16:Hid (SB.all (·.oneCell')=true):=zh (by rw[hSB];exact aI s);have HZS:Hid ((#[.int .u8 0,.int .u8 0,.int .u8 0,.int .u8 0,.int .u8 0,.int .u8 0,.int .u8 0,.int .u8 0,.int .u8 0,.int .u8 0,.int .u8 0,.int .u8 0,.int .u8 0,.int .u8 0,.int .u8 0,.int .u8 0]:Array Value).size=SB.size):=zh (by rw[hSB,ah];rfl);have HSZB:Hid ((Tryz.prog.info? 190).map (·.size)=some SB.size):=zh (by rw[hSB];exact HSIZ.out s);clear hSB;have n0:(0:Int)<=(n:Int):=by omega
 have n1:(n:Int)<=16384:=by omega
 have HN:=zh hn;clear hk hc hb hd hz hr hKY hs hff hX hn;go_enter Tryz.func84,Tryz.ntmps84;go_upto_region 1 with (fail)
 obtain⟨kb,hkb⟩:=af w.heap.size
 refine ag (fun V=>ae V kb 23 KY/\Below w.heap.size w V) ⟨by rw[hkb];exact aq _ _ _ _ rfl,bM _⟩ ?_;rintro W1 ⟨b1,b2⟩;have B1:=zh b1;have B2:=zh b2;have HKB:=zh hkb;rw[<-hkb];clear b1 b2 hkb;go_upto_region 2 with (first
  | (go_at_call 114;refine(HPF.out _).mono ?_;rintro e w4 ⟨rfl,hb4⟩;have C1:=zh (B1.out.below hb4 B1.out.lt);have C2:=zh (B2.out.trans (hb4.mono B2.out.size));clear hb4)
  | (refine wpList_store_row rfl _ _ _ rfl w4.heap.size X rfl rfl 187 #[.int .u8 0,.int .u8 0,.int .u8 0,.int .u8 0,.int .u8 0,.int .u8 0,.int .u8 0,.int .u8 0] (ae.new _ _ _) HX.out HZX.out HO.out ?_))
 try simp only[Act.put]
 obtain⟨pb,hpb⟩:=af w4.heap.size
 have hb5:Below w4.heap.size w4 ((w4.alloc (.cells #[.int .u8 0,.int .u8 0,.int .u8 0,.int .u8 0,.int .u8 0,.int .u8 0,.int .u8 0,.int .u8 0] 187)).setRow w4.heap.size X):=aj (bM _) ao _;refine ag (fun V=>ae V kb 23 KY/\ae V pb 187 X/\Below w.heap.size w V) ⟨C1.out.below hb5 C1.out.lt,by rw[hpb];exact setRow_heap _ _ _ X 187 (0,0) (ae.new _ _ _),C2.out.trans (hb5.mono C2.out.size)⟩ ?_;rintro W2 ⟨b1,b2,b3⟩;have D1:=zh b1;have D2:=zh b2;have D3:=zh b3;have HKP:=zh (show kb < pb by have:=C1.out.lt;omega);rw[<-hpb];clear b1 b2 b3 hpb hb5 B1 B2 C1 C2;go_upto_region 6 with (fail)
 have HKR:=zh (show ∀W',Below W2.heap.size W2 W'->W'.rangeAt kb 0 KY.toList from fun W' h=>(D1.out.below h D1.out.lt).range _ (by simp));have HHR:=zh (show au W2 W2.heap.size (some ⟨pb,0,none⟩) 8 (fun j=>.int .u8 ((ff j:Nat):Int))from fun _=>⟨pb,0,rfl,D2.out.lt,fun j hj=>by
  rw[Nat.zero_add];refine(D2.out.cell j).trans ?_;rw[HXA.out,gZ _ _ hj]⟩)
 have HRR:=zh (HR.out.next D3.out);obtain⟨w0,hw0⟩:=af W2.drew
 refine wp_region_held_drew (S:=fun w'=>Below W2.heap.size W2 w') (by kernel_rfl) ((Below.refl _ W2).drew) (fun hHeld=>?_);rw[<-hw0];rw[<-hw0]at hHeld;have hb0:=hHeld;clear hw0;refine' wpAnyH_take (i:=0) (oi:=⟨some 33,_,_,_,_,_⟩) (v:=_) rfl (by kernel_rfl) (by kernel_rfl) (by kernel_rfl) (fun _ _ _ h=>h) (yieldsIf_load_mid (by rfl) _ _ rfl kb 0 rfl KY.toList _ (fun w h=>HKR.out w h) HUK.out rfl HSK.out) (by assumption) ?_
 try simp only[Act.put,qa,qb,qc]
 refine wpAnyH_take (i:=1) (oi:=⟨some 34,_,_,_,_,_⟩) (v:=.slice (some ⟨pb,0,none⟩) 8 8) rfl (by kernel_rfl) (by kernel_rfl) (by kernel_rfl) (fun _ _ _ h=>h) (Or.inl ⟨by rfl,fun W hW=>(by go_simp)⟩) (by assumption) ?_
 try simp only[Act.put,qa,qb,qc]
 refine wpAnyH_take (i:=2) (oi:=⟨some 35,_,_,_,_,_⟩) (v:=.slice A n c) rfl (by kernel_rfl) (by kernel_rfl) (by kernel_rfl) (fun _ _ _ h=>h) (Or.inl ⟨by rfl,fun W hW=>(by rfl)⟩) (by assumption) ?_
 try simp only[Act.put,qa,qb,qc]
 refine wpAnyH_ready (rs:=[3,6]) (by kernel_rfl) (by simp) ?_;refine AllReadyH.cons (o:=⟨some 36,_,_,_,_,_⟩) rfl (fun K hK=>?_) (AllReadyH.cons (o:=⟨some 14,_,_,_,_,_⟩) rfl (fun K hK=>?_) AllReadyH.nil)
 focus
  skip;rw[if_pos (by rfl)];go_simp;obtain⟨v1,hv⟩:∃X,X=w0.alloc (.cells #[.slice (some ⟨pb,0,none⟩) 8 8,.slice A n c] 44):=⟨_,rfl⟩
  obtain⟨sb,hsb⟩:=af w0.heap.size
  have hN:ae v1 sb 44 #[.slice (some ⟨pb,0,none⟩) 8 8,.slice A n c]:=by rw[hv,hsb];exact ae.new _ _ _
  have hE:Below w0.heap.size w0 v1:=by rw[hv];exact bM _
  rw[<-hv,<-hsb];have hE2:=hHeld.trans (hE.mono hHeld.size);refine hK.out _ _ hE2 (fun hHeld=>?_);clear hK K hE hE2 hv hsb
  try simp only[Act.put,qa,qb,qc]
  refine wpAnyH_ready (rs:=[4,6]) (by kernel_rfl) (by simp) ?_;refine AllReadyH.cons (o:=⟨some 37,_,_,_,_,_⟩) rfl (fun K hK=>?_) (AllReadyH.cons (o:=⟨some 14,_,_,_,_,_⟩) rfl (fun K hK=>?_) AllReadyH.nil)
  focus
   skip;rw[if_pos (by rfl)];go_simp;refine(gJ sb pb n c A ff z (by have:=HN.out;omega) _ hN.lt (hN.cell 0) (hN.cell 1) (HHR.out.next hHeld) (HRR.out.next hHeld)).mono ?_;rintro e v2 ⟨lb,lo,c5,rfl,hc5,hlb,hL2,hB⟩;dsimp only;have hE2:=hHeld.trans (hB.mono hHeld.size);refine hK.out _ _ hE2 (fun hHeld=>?_);clear hK K hB hE2 hN
   try simp only[Act.put,qa,qb,qc]
   refine wpAnyH_ready (rs:=[5,6]) (by kernel_rfl) (by simp) ?_;refine AllReadyH.cons (o:=⟨some 38,_,_,_,_,_⟩) rfl (fun K hK=>?_) (AllReadyH.cons (o:=⟨some 14,_,_,_,_,_⟩) rfl (fun K hK=>?_) AllReadyH.nil)
   focus
    skip;rw[if_pos (by rfl)];go_simp;refine(HSUM.out lb lo c5 hc5 _ hlb hL2).mono ?_;rintro e v3 ⟨rfl,hB⟩;dsimp only;have hE2:=hHeld.trans (hB.mono hHeld.size);refine hK.out _ _ hE2 (fun hHeld=>?_);clear hK K hB hE2 hL2 hlb
    try simp only[Act.put,qa,qb,qc]
    refine bc (i:=6) (x:=some 14) rfl fun K hK=>?_;go_simp;obtain⟨v4,hv⟩:∃X,X=v3.alloc (.cells #[.int .u8 0,.int .u8 0,.int .u8 0,.int .u8 0,.int .u8 0,.int .u8 0,.int .u8 0,.int .u8 0,.int .u8 0,.int .u8 0,.int .u8 0,.int .u8 0,.int .u8 0,.int .u8 0,.int .u8 0,.int .u8 0] 190):=⟨_,rfl⟩
    obtain⟨gb,hgbe⟩:=af v3.heap.size
    have hGB:ae v4 gb 190 #[.int .u8 0,.int .u8 0,.int .u8 0,.int .u8 0,.int .u8 0,.int .u8 0,.int .u8 0,.int .u8 0,.int .u8 0,.int .u8 0,.int .u8 0,.int .u8 0,.int .u8 0,.int .u8 0,.int .u8 0,.int .u8 0]:=by rw[hv,hgbe];exact ae.new _ _ _
    have hgb:W2.heap.size<=gb:=by rw[hgbe];exact hHeld.size
    have hE:Below v3.heap.size v3 v4:=by rw[hv];exact bM _
    rw[<-hv,<-hgbe];have hE2:=hHeld.trans (hE.mono hHeld.size);refine hK.out _ _ hE2 (fun hHeld=>?_);clear hK K hE hE2 hv hgbe
    try simp only[Act.put,qa,qb,qc]
    refine bc (i:=7) (x:=none) rfl fun K hK=>?_;refine wp_store_row _ _ _ rfl gb SB rfl rfl 190 _ hGB HSZB.out HZS.out HO16.out ?_;have hNB:ae (v4.setRow gb SB) gb 190 SB:=setRow_heap _ _ _ _ 190 (0,0) hGB;have hNX:Below W2.heap.size W2 (v4.setRow gb SB):=aj hHeld hgb _;obtain⟨v5,hv⟩:∃X,X=v4.setRow gb SB:=⟨_,rfl⟩
    rw[<-hv]at hNB hNX ⊢;refine hK.out _ _ hNX (fun hHeld=>?_);clear hK K hNX hv
    try simp only[Act.put]
    have HNB:=zh hNB;have HH:=zh hHeld;refine wpAnyH_done (by kernel_rfl) ?_ _;clear hHeld hb0 hNB;have HBC:=zh (show ∀k,k < 16->(v5).cell? ⟨gb,k,none⟩=some (.int .u8 ((s k:Nat):Int))from fun k hk=>(HNB.out.cell k).trans (by rw[HSB.out];exact aR s hk));obtain⟨WZ,hWZ⟩:=af v5
   rotate_left
   focus
    skip;rw[if_pos (by rfl)];go_simp;obtain⟨v6,hv⟩:∃X,X=v2.alloc (.cells #[.int .u8 0,.int .u8 0,.int .u8 0,.int .u8 0,.int .u8 0,.int .u8 0,.int .u8 0,.int .u8 0,.int .u8 0,.int .u8 0,.int .u8 0,.int .u8 0,.int .u8 0,.int .u8 0,.int .u8 0,.int .u8 0] 190):=⟨_,rfl⟩
    obtain⟨gb,hgbe⟩:=af v2.heap.size
    have hGB:ae v6 gb 190 #[.int .u8 0,.int .u8 0,.int .u8 0,.int .u8 0,.int .u8 0,.int .u8 0,.int .u8 0,.int .u8 0,.int .u8 0,.int .u8 0,.int .u8 0,.int .u8 0,.int .u8 0,.int .u8 0,.int .u8 0,.int .u8 0]:=by rw[hv,hgbe];exact ae.new _ _ _
    have hgb:W2.heap.size<=gb:=by rw[hgbe];exact hHeld.size
    have hE:Below v2.heap.size v2 v6:=by rw[hv];exact bM _
    rw[<-hv,<-hgbe];have hL2:∀j,j < 8+n->v6.cell? ⟨lb,lo+j,none⟩=some (.int .u8 ((cD ff 8 z j:Nat):Int)):=fun j hj=>(hE.cell (p:=⟨lb,lo+j,none⟩) hlb).trans (hL2 j hj);have hlb:=bg hlb hE.size;have hE2:=hHeld.trans (hE.mono hHeld.size);refine hK.out _ _ hE2 (fun hHeld=>?_);clear hK K hE hE2 hv hgbe
    try simp only[Act.put,qa,qb,qc]
    refine bc (i:=5) (x:=some 38) rfl fun K hK=>?_;go_simp;refine(HSUM.out lb lo c5 hc5 _ hlb hL2).mono ?_;rintro e v7 ⟨rfl,hB⟩;dsimp only;have hGB:=hGB.below hB hGB.lt;have hE2:=hHeld.trans (hB.mono hHeld.size);refine hK.out _ _ hE2 (fun hHeld=>?_);clear hK K hB hE2 hL2 hlb
    try simp only[Act.put,qa,qb,qc]
    refine bc (i:=7) (x:=none) rfl fun K hK=>?_;refine wp_store_row _ _ _ rfl gb SB rfl rfl 190 _ hGB HSZB.out HZS.out HO16.out ?_;have hNB:ae (v7.setRow gb SB) gb 190 SB:=setRow_heap _ _ _ _ 190 (0,0) hGB;have hNX:Below W2.heap.size W2 (v7.setRow gb SB):=aj hHeld hgb _;obtain⟨v8,hv⟩:∃X,X=v7.setRow gb SB:=⟨_,rfl⟩
    rw[<-hv]at hNB hNX ⊢;refine hK.out _ _ hNX (fun hHeld=>?_);clear hK K hNX hv
    try simp only[Act.put]
    have HNB:=zh hNB;have HH:=zh hHeld;refine wpAnyH_done (by kernel_rfl) ?_ _;clear hHeld hb0 hNB;have HBC:=zh (show ∀k,k < 16->(v8).cell? ⟨gb,k,none⟩=some (.int .u8 ((s k:Nat):Int))from fun k hk=>(HNB.out.cell k).trans (by rw[HSB.out];exact aR s hk));obtain⟨WZ,hWZ⟩:=af v8
  rotate_left 2
  focus
   skip;rw[if_pos (by rfl)];go_simp;obtain⟨v9,hv⟩:∃X,X=v1.alloc (.cells #[.int .u8 0,.int .u8 0,.int .u8 0,.int .u8 0,.int .u8 0,.int .u8 0,.int .u8 0,.int .u8 0,.int .u8 0,.int .u8 0,.int .u8 0,.int .u8 0,.int .u8 0,.int .u8 0,.int .u8 0,.int .u8 0] 190):=⟨_,rfl⟩
   obtain⟨gb,hgbe⟩:=af v1.heap.size
   have hGB:ae v9 gb 190 #[.int .u8 0,.int .u8 0,.int .u8 0,.int .u8 0,.int .u8 0,.int .u8 0,.int .u8 0,.int .u8 0,.int .u8 0,.int .u8 0,.int .u8 0,.int .u8 0,.int .u8 0,.int .u8 0,.int .u8 0,.int .u8 0]:=by rw[hv,hgbe];exact ae.new _ _ _
   have hgb:W2.heap.size<=gb:=by rw[hgbe];exact hHeld.size
   have hE:Below v1.heap.size v1 v9:=by rw[hv];exact bM _
   rw[<-hv,<-hgbe];have hN:=hN.below hE hN.lt;have hE2:=hHeld.trans (hE.mono hHeld.size);refine hK.out _ _ hE2 (fun hHeld=>?_);clear hK K hE hE2 hv hgbe
   try simp only[Act.put,qa,qb,qc]
   refine bc (i:=4) (x:=some 37) rfl fun K hK=>?_;go_simp;refine(gJ sb pb n c A ff z (by have:=HN.out;omega) _ hN.lt (hN.cell 0) (hN.cell 1) (HHR.out.next hHeld) (HRR.out.next hHeld)).mono ?_;rintro e v10 ⟨lb,lo,c5,rfl,hc5,hlb,hL2,hB⟩;dsimp only;have hGB:=hGB.below hB hGB.lt;have hE2:=hHeld.trans (hB.mono hHeld.size);refine hK.out _ _ hE2 (fun hHeld=>?_);clear hK K hB hE2 hN
   try simp only[Act.put,qa,qb,qc]
   refine bc (i:=5) (x:=some 38) rfl fun K hK=>?_;go_simp;refine(HSUM.out lb lo c5 hc5 _ hlb hL2).mono ?_;rintro e v11 ⟨rfl,hB⟩;dsimp only;have hGB:=hGB.below hB hGB.lt;have hE2:=hHeld.trans (hB.mono hHeld.size);refine hK.out _ _ hE2 (fun hHeld=>?_);clear hK K hB hE2 hL2 hlb
   try simp only[Act.put,qa,qb,qc]
   refine bc (i:=7) (x:=none) rfl fun K hK=>?_;refine wp_store_row _ _ _ rfl gb SB rfl rfl 190 _ hGB HSZB.out HZS.out HO16.out ?_;have hNB:ae (v11.setRow gb SB) gb 190 SB:=setRow_heap _ _ _ _ 190 (0,0) hGB;have hNX:Below W2.heap.size W2 (v11.setRow gb SB):=aj hHeld hgb _;obtain⟨v12,hv⟩:∃X,X=v11.setRow gb SB:=⟨_,rfl⟩
   rw[<-hv]at hNB hNX ⊢;refine hK.out _ _ hNX (fun hHeld=>?_);clear hK K hNX hv
   try simp only[Act.put]
   have HNB:=zh hNB;have HH:=zh hHeld;refine wpAnyH_done (by kernel_rfl) ?_ _;clear hHeld hb0 hNB;have HBC:=zh (show ∀k,k < 16->(v12).cell? ⟨gb,k,none⟩=some (.int .u8 ((s k:Nat):Int))from fun k hk=>(HNB.out.cell k).trans (by rw[HSB.out];exact aR s hk));obtain⟨WZ,hWZ⟩:=af v12
 rotate_left 3
 focus
  skip;rw[if_pos (by rfl)];go_simp;obtain⟨v13,hv⟩:∃X,X=w0.alloc (.cells #[.int .u8 0,.int .u8 0,.int .u8 0,.int .u8 0,.int .u8 0,.int .u8 0,.int .u8 0,.int .u8 0,.int .u8 0,.int .u8 0,.int .u8 0,.int .u8 0,.int .u8 0,.int .u8 0,.int .u8 0,.int .u8 0] 190):=⟨_,rfl⟩
  obtain⟨gb,hgbe⟩:=af w0.heap.size
  have hGB:ae v13 gb 190 #[.int .u8 0,.int .u8 0,.int .u8 0,.int .u8 0,.int .u8 0,.int .u8 0,.int .u8 0,.int .u8 0,.int .u8 0,.int .u8 0,.int .u8 0,.int .u8 0,.int .u8 0,.int .u8 0,.int .u8 0,.int .u8 0]:=by rw[hv,hgbe];exact ae.new _ _ _
  have hgb:W2.heap.size<=gb:=by rw[hgbe];exact hHeld.size
  have hE:Below w0.heap.size w0 v13:=by rw[hv];exact bM _
  rw[<-hv,<-hgbe];have hE2:=hHeld.trans (hE.mono hHeld.size);refine hK.out _ _ hE2 (fun hHeld=>?_);clear hK K hE hE2 hv hgbe
  try simp only[Act.put,qa,qb,qc]
  refine bc (i:=3) (x:=some 36) rfl fun K hK=>?_;go_simp;obtain⟨v14,hv⟩:∃X,X=v13.alloc (.cells #[.slice (some ⟨pb,0,none⟩) 8 8,.slice A n c] 44):=⟨_,rfl⟩
  obtain⟨sb,hsb⟩:=af v13.heap.size
  have hN:ae v14 sb 44 #[.slice (some ⟨pb,0,none⟩) 8 8,.slice A n c]:=by rw[hv,hsb];exact ae.new _ _ _
  have hE:Below v13.heap.size v13 v14:=by rw[hv];exact bM _
  rw[<-hv,<-hsb];have hGB:=hGB.below hE hGB.lt;have hE2:=hHeld.trans (hE.mono hHeld.size);refine hK.out _ _ hE2 (fun hHeld=>?_);clear hK K hE hE2 hv hsb
  try simp only[Act.put,qa,qb,qc]
  refine bc (i:=4) (x:=some 37) rfl fun K hK=>?_;go_simp;refine(gJ sb pb n c A ff z (by have:=HN.out;omega) _ hN.lt (hN.cell 0) (hN.cell 1) (HHR.out.next hHeld) (HRR.out.next hHeld)).mono ?_;rintro e v15 ⟨lb,lo,c5,rfl,hc5,hlb,hL2,hB⟩;dsimp only;have hGB:=hGB.below hB hGB.lt;have hE2:=hHeld.trans (hB.mono hHeld.size);refine hK.out _ _ hE2 (fun hHeld=>?_);clear hK K hB hE2 hN
  try simp only[Act.put,qa,qb,qc]
  refine bc (i:=5) (x:=some 38) rfl fun K hK=>?_;go_simp;refine(HSUM.out lb lo c5 hc5 _ hlb hL2).mono ?_;rintro e v16 ⟨rfl,hB⟩;dsimp only;have hGB:=hGB.below hB hGB.lt;have hE2:=hHeld.trans (hB.mono hHeld.size);refine hK.out _ _ hE2 (fun hHeld=>?_);clear hK K hB hE2 hL2 hlb
  try simp only[Act.put,qa,qb,qc]
  refine bc (i:=7) (x:=none) rfl fun K hK=>?_;refine wp_store_row _ _ _ rfl gb SB rfl rfl 190 _ hGB HSZB.out HZS.out HO16.out ?_;have hNB:ae (v16.setRow gb SB) gb 190 SB:=setRow_heap _ _ _ _ 190 (0,0) hGB;have hNX:Below W2.heap.size W2 (v16.setRow gb SB):=aj hHeld hgb _;obtain⟨v17,hv⟩:∃X,X=v16.setRow gb SB:=⟨_,rfl⟩
  rw[<-hv]at hNB hNX ⊢;refine hK.out _ _ hNX (fun hHeld=>?_);clear hK K hNX hv
  try simp only[Act.put]
  have HNB:=zh hNB;have HH:=zh hHeld;refine wpAnyH_done (by kernel_rfl) ?_ _;clear hHeld hb0 hNB;have HBC:=zh (show ∀k,k < 16->(v17).cell? ⟨gb,k,none⟩=some (.int .u8 ((s k:Nat):Int))from fun k hk=>(HNB.out.cell k).trans (by rw[HSB.out];exact aR s hk));obtain⟨WZ,hWZ⟩:=af v17
 all_goals
  rw[<-hWZ]at HBC HH ⊢;clear hWZ HNB;go_wp2;go_loop [15,17,41] (fun v15 v17 v41=>∃k:Nat,k<=4/\v41=.int .i64 k/\v15=.int .u32 (dv s k:Nat)) (fun _ _ v41=>4-(intOf v41).toNat)
  case atStart=>exact⟨0,by omega,rfl,rfl⟩
  case round=>
   obtain⟨k,hk,rfl,rfl⟩:=hrel;by_cases hlt:k < 4
   ·have k0:(0:Int)<=(k:Int):=by omega
    have k1:(k:Int) < 4:=by omega
    have c0:WZ.cell? ⟨gb,k,none⟩=some (.int .u8 ((s k:Nat):Int)):=HBC.out k (by omega);obtain⟨p1,p2,p3⟩:=rQ HS16.out k hlt;have HN:Hid (dv s (k+1)=dv s k*256+s k):=zh rfl;generalize hnx:dv s (k+1)=nx at p3 HN;have HNX:=zh hnx;clear hnx;generalize dv s k=pp at p1 p2 p3 HN ⊢;generalize s k=sk at c0 p2 p3 HN;go_wp2;go_round
    case rel=>exact⟨k+1,by omega,by go_num,by rw[HNX.out]⟩
    case measure=>simp[intOf];omega
   ·obtain rfl:k=4:=by omega
    go_wp2;go_ret2
    exact⟨rfl,D3.out.trans (HH.out.mono D3.out.size)⟩
end Go.Proofs.YtiiojpnckbglcaaGreat
