import Derived.Test.YtiiojpnckbglcaaGreatMZMz
set_option linter.unusedVariables false
namespace Go.Proofs.YtiiojpnckbglcaaGreat
open Go.RowKit
attribute [local go_sem ↓] Go.wp_at_zero Go.wp_at_succ
private theorem ak {P:Program} {ops:Array Oper} {Q:Exit->Act->World->Prop} {md:Region.Mode} {S:World->Prop} {i:Nat} {oi:Oper} {v:Value} {fuel:Nat} {listed l':Array Bool} {a a':Act} {w:World} (hi:ops[i]? = some oi) (hy:YieldsIf P ops S oi v a) (hS:S w)
  (h:wpAnyH P md ops Q S fuel l' a' w) (hl:listed.setIfInBounds i true=l':=by(try simp only[List.setIfInBounds_toArray,List.set_cons_zero,List.set_cons_succ]);rfl) (ha:a.put oi.dst v=a':=by(try simp only[Act.put,List.setIfInBounds_toArray,List.set_cons_zero,List.set_cons_succ]);rfl) (hs:Region.noSelect ops=true:=by kernel_rfl) (hf:Region.free md ops listed i=true:=by kernel_rfl) (hr:(Region.ready md ops listed).contains i=true:=by kernel_rfl)
  (hQ:∀c a w,Q (.panic c) (a.put oi.dst v) w->Q (.panic c) a w:=by exact fun _ _ _ h=>h):wpAnyH P md ops Q S (fuel+1) listed a w:=by subst hl;subst ha;exact wpAnyH_take hi hs hf hr hQ hy hS h
theorem oM (C:aP) (f c:Nat->Int) (made:Bool) (now next:Int) (q p:Value) (ub cb:Nat):cz (cz (bI C.arr made now next q p ub cb) 2 (aq f).toList) 18 (aq c).toList=bI (C.keys f c).arr made now next q p ub cb:=by
 have l1:(aq f).toList.length=16:=rfl
 have l2:(aq c).toList.length=16:=rfl
 have hs:=dU (made:=made) (now:=now) (next:=next) (q:=q) (p:=p) (ub:=ub) (cb:=cb) C.arr_size
 apply Array.ext_getElem?
 intro j
 by_cases h1:18<=j/\j < 34
 ·have:=cy (aq c).toList 18 (cz (bI C.arr made now next q p ub cb) 2 (aq f).toList) (j-18) (by omega) (by rw[a9,hs];omega)
  rw[show 18+(j-18)=j by omega]at this
  rw[this,Array.getElem?_toList,eP c _ (by omega),eJ (C.keys f c).arr_size (by omega),aP.arr_at _ (by omega)]
  unfold aP.cell
  rw[if_neg (by omega),if_neg (by omega),if_neg (by omega),if_pos (by omega)]
  rfl
 ·rw[bw _ _ _ _ (by omega)]
  by_cases h2:2<=j/\j < 18
  ·have:=cy (aq f).toList 2 (bI C.arr made now next q p ub cb) (j-2) (by omega) (by rw[hs];omega)
   rw[show 2+(j-2)=j by omega]at this
   rw[this,Array.getElem?_toList,eP f _ (by omega),eJ (C.keys f c).arr_size (by omega),aP.arr_at _ (by omega)]
   unfold aP.cell
   rw[if_neg (by omega),if_neg (by omega),if_pos (by omega)]
   rfl
  ·rw[bw _ _ _ _ (by omega)]
   by_cases h3:j < 39
   ·rw[eJ C.arr_size h3,eJ (C.keys f c).arr_size h3,C.arr_at h3,aP.arr_at _ h3]
    unfold aP.cell aP.keys
    by_cases h4:j < 18
    ·have:j=0\/j=1:=by omega
     rcases this with rfl | rfl<;>rfl
    ·have:j=34\/j=35\/j=36\/j=37\/j=38:=by omega
     rcases this with rfl | rfl | rfl | rfl | rfl<;>rfl
   ·by_cases h4:j < 46
    ·have:=aE (made:=made) (now:=now) (next:=next) (q:=q) (p:=p) (ub:=ub) (cb:=cb) C.arr_size (j-39)
     have h5:=aE (made:=made) (now:=now) (next:=next) (q:=q) (p:=p) (ub:=ub) (cb:=cb) (C.keys f c).arr_size (j-39)
     rw[show 39+(j-39)=j by omega]at this h5
     rw[this,h5]
    ·rw[Array.getElem?_eq_none (by omega),Array.getElem?_eq_none (by rw[dU (C.keys f c).arr_size];omega)]
section
variable {w w1:World} {g:Nat} {s:TS} {W R:Nat->Prop} {qA:Option Addr} {qc:Nat} {lq:List WE} {pA:Option Addr} {pc:Nat} {lp:List PE} {ub cb:Nat}
theorem ba.setUsed (h:ba w g s W R qA qc lq pA pc lp ub cb) (hk:aa (fun k=>k=ub) w w1) {L:List (Array Value)} (hu:UK w1 ub L):ba w1 g { s with used:=L } W R qA qc lq pA pc lp ub cb:=by
 have pk:∀{A:Option Addr} {n c:Nat} {z:Nat->Int},bE w R A n c z->bE w1 R A n c z:=fun hp=>hp.keep hk (fun k e hr=>h.dis k (by rw[e];exact h.wu) hr)
 exact⟨hk.blk h.blk h.gu,h.qv,h.pv,h.q.keepF hk (fun a e=>h.qu a e),h.p.keepF hk (fun a e=>h.pu a e),hu,(hk.block cb (h.win _ h.wc) h.ku).trans h.k,
  fun e he=>pk (h.qe e he),fun e he=>pk (h.pe e he),h.pr,h.wg,h.wu,h.wc,h.wq,h.wp,h.kg,h.ku,h.kq,h.kp,h.dis,
  fun k hw=>bg (h.win k hw) hk.size,fun k hw=>bg (h.rin k hw) hk.size,h.now0,h.next0⟩
theorem ba.setCfg (h:ba w g s W R qA qc lq pA pc lp ub cb) (hk:aa (fun k=>k=g) w w1) {C:aP} (hb:ae w1 g 91 (bI C.arr true s.now s.next (.slice qA lq.length qc) (.slice pA lp.length pc) ub cb)):ba w1 g { s with C:=C } W R qA qc lq pA pc lp ub cb:=by
 have pk:∀{A:Option Addr} {n c:Nat} {z:Nat->Int},bE w R A n c z->bE w1 R A n c z:=fun hp=>hp.keep hk (fun k e hr=>h.dis k (by rw[e];exact h.wg) hr)
 exact⟨hb,h.qv,h.pv,h.q.keepF hk (fun a e h2=>h.gq a e h2.symm),h.p.keepF hk (fun a e h2=>h.gp a e h2.symm),h.u.keep (hk.block ub h.u.lt (fun e=>h.gu e.symm)),(hk.block cb (h.win _ h.wc) h.kg).trans h.k,
  fun e he=>pk (h.qe e he),fun e he=>pk (h.pe e he),h.pr,h.wg,h.wu,h.wc,h.wq,h.wp,h.kg,h.ku,h.kq,h.kp,h.dis,
  fun k hw=>bg (h.win k hw) hk.size,fun k hw=>bg (h.rin k hw) hk.size,h.now0,h.next0⟩
theorem ba.setComp (h:ba w g s W R qA qc lq pA pc lp ub cb) (hk:aa (fun k=>k=cb) w w1) {o:Obj} (ho:w1.heap[cb]? = some o):ba w1 g { s with comp:=o } W R qA qc lq pA pc lp ub cb:=by
 have pk:∀{A:Option Addr} {n c:Nat} {z:Nat->Int},bE w R A n c z->bE w1 R A n c z:=fun hp=>hp.keep hk (fun k e hr=>h.dis k (by rw[e];exact h.wc) hr)
 exact⟨hk.blk h.blk (fun e=>h.kg e.symm),h.qv,h.pv,h.q.keepF hk (fun a e h2=>h.kq a e h2.symm),h.p.keepF hk (fun a e h2=>h.kp a e h2.symm),h.u.keep (hk.block ub h.u.lt (fun e=>h.ku e.symm)),ho,
  fun e he=>pk (h.qe e he),fun e he=>pk (h.pe e he),h.pr,h.wg,h.wu,h.wc,h.wq,h.wp,h.kg,h.ku,h.kq,h.kp,h.dis,
  fun k hw=>bg (h.win k hw) hk.size,fun k hw=>bg (h.rin k hw) hk.size,h.now0,h.next0⟩
end
def PV.again (p:PV):PV:={ p with rep:=true }
def PE.again (e:PE):PE:={ e with v:=e.v.again }
def bp (lp:List PE) (k:Nat):List PE:=(lp.take k).map PE.again++lp.drop k
theorem ek (lp:List PE) (k:Nat):(bp lp k).length=lp.length:=by
 unfold bp
 rw[List.length_append,List.length_map,List.length_take,List.length_drop]
 omega
theorem ly (lp:List PE):bp lp 0=lp:=by simp[bp]
theorem mb (lp:List PE):bp lp lp.length=lp.map PE.again:=by simp[bp]
theorem fu (lp:List PE) (k:Nat) (e:PE) (h:lp[k]? = some e):(bp lp k).set k e.again=bp lp (k+1):=by
 have hk:k < lp.length:=(List.getElem?_eq_some_iff.1 h).1
 have he:lp[k] = e:=by have:=List.getElem?_eq_getElem hk;rw[h]at this;exact(Option.some.inj this).symm
 unfold bp
 rw[List.set_append_right _ _ (by rw[List.length_map,List.length_take];omega)]
 rw[show k-((lp.take k).map PE.again).length=0 by rw[List.length_map,List.length_take];omega]
 rw[List.drop_eq_getElem_cons hk,List.set_cons_zero,List.take_add_one,h,List.map_append]
 simp
theorem o4 (lp:List PE) (k:Nat) (e:PE) (h:lp[k]? = some e):(bp lp k)[k]? = some e:=by
 have hk:k < lp.length:=(List.getElem?_eq_some_iff.1 h).1
 unfold bp
 rw[List.getElem?_append_right (by rw[List.length_map,List.length_take];omega),show k-((lp.take k).map PE.again).length=0 by rw[List.length_map,List.length_take];omega,List.getElem?_drop]
 exact h
theorem pQ (lp:List PE) (i:Nat) (e:PE) (h:lp[i]? = some e):(lp.flatMap PE.cells).set (i*3+2) (.bool true)=((lp.set i e.again).flatMap PE.cells):=by
 have hi:i < lp.length:=(List.getElem?_eq_some_iff.1 h).1
 apply List.ext_getElem?
 intro j
 rw[iI PE.cells 3 PE.len lp i hi,List.getElem?_set]
 have hl:(lp.flatMap PE.cells).length=lp.length*3:=cj PE.cells 3 PE.len lp
 by_cases hj:i*3<=j/\j < i*3+3
 ·rw[if_pos hj]
  by_cases h2:i*3+2=j
  ·rw[if_pos h2,if_pos (by rw[hl];omega),<-h2,show i*3+2-i*3=2 by omega]
   rfl
  ·rw[if_neg h2]
   have:=be PE.cells 3 PE.len lp i (j-i*3) e h (by omega)
   rw[show i*3+(j-i*3)=j by omega]at this
   rw[this]
   rcases (by omega:j-i*3=0\/j-i*3=1)with e0 | e0<;>rw[e0]<;>rfl
 ·rw[if_neg hj,if_neg (by omega)]
def TS.rekeyed (s:TS) (f c:Nat->Int):TS:={ s with C:=s.C.keys f c,used:=s.used++[aq f],comp:=eF,P:=s.P.map PV.again }
theorem rA (lp:List PE):(lp.map PE.again).map (·.v)=(lp.map (·.v)).map PV.again:=by
 rw[List.map_map,List.map_map]
 rfl
set_option maxRecDepth 100000 in
set_option maxHeartbeats 1600000 in
theorem lG (g:Nat) (s:TS) (W R:Nat->Prop) (w:World) (h:bC w g s W R) (U:List (Nat->Int)) (hU:s.used=U.map aq) (f c:Nat->Int) (hno:du f U=true) :
  Calls Tryz.prog 25 #[.pointer (some ⟨g,0,none⟩),.agg (aq f),.agg (aq c)] w fun e w'=>e=.returned (.int .i64 461)/\Below w.heap.size w w':=by
 have HNO:=zh (fun(V:World) (hb:Below w.heap.size w V)=>di g s W R V (h.below hb))
 obtain⟨qA,qc,lq,pA,pc,lp,ub,cb,hT⟩:=h
 have HT:=zh hT
 have HLK:=zh (fun(V:World) (hb:Below w.heap.size w V)=>kS V ub U f (by rw[<-hU];exact(hT.below hb).u))
 have HSK:=zh (gw f)
 have HSC:=zh (gw c)
 have HOK:=zh (nP f)
 have HOC:=zh (nP c)
 have HUK:=zh Tryz.underlying23
 obtain⟨KF,hKF⟩:=af (aq f)
 obtain⟨KC,hKC⟩:=af (aq c)
 have HKF:=zh hKF
 have HKC:=zh hKC
 rw[<-hKF]at HLK HSK HOK ⊢
 rw[<-hKC]at HSC HOC ⊢
 rw[hno]at HLK
 clear hT hKF hKC hU hno
 go_enter Tryz.func25,Tryz.ntmps25
 go_upto_region 1 with (fail)
 obtain⟨kb,hkb⟩:=af w.heap.size
 have HKB:=zh hkb
 refine ah (fun V=>ae V kb 23 KF/\ae V (kb+1) 23 KC/\Below w.heap.size w V) ⟨by rw[hkb];exact(dy _ _ _ _ rfl).alloc _,by rw[hkb];exact dy _ _ _ _ (by simp),((Below.refl _ w).alloc aB _).alloc (by simp) _⟩ ?_
 rintro W1 ⟨b1,b2,b3⟩
 have B1:=zh b1
 have B2:=zh b2
 have B3:=zh b3
 rw[<-hkb]
 clear b1 b2 b3 hkb
 go_upto_region 3 with (go_at_call 49;refine(HNO.out _ B3.out).mono ?_;rintro e w3 ⟨rfl,rfl⟩)
 have HKR:=zh (show ∀W',Below W1.heap.size W1 W'->W'.rangeAt kb 0 KF.toList from fun W' hW=>(B1.out.below hW B1.out.lt).range _ (by simp))
 have HC44:=zh (show ∀W',Below W1.heap.size W1 W'->W'.cell? ⟨g,44,none⟩=some (.map (some ub))from fun W' hW=>(HT.out.below (B3.out.trans (hW.mono B3.out.size))).cu)
 have HL2:=zh (show ∀W',Below W1.heap.size W1 W'->(Instr.lookup 85 (.map (some ub)) (.agg KF) false).run Tryz.prog W'=.ok (.bool true) W' from fun W' hW=>HLK.out W' (B3.out.trans (hW.mono B3.out.size)))
 refine wp_region_held_drew (S:=fun w'=>Below W1.heap.size W1 w') (by kernel_rfl) ((Below.refl _ W1).drew) (fun hHeld=>?_)
 obtain⟨w0,hw0⟩:=af W1.drew
 rw[<-hw0]
 rw[<-hw0]at hHeld
 clear hw0
 refine ak (i:=0) (oi:=⟨some 12,_,_,_,_,_⟩) (v:=.pointer (some ⟨g,0,none⟩)) rfl (Or.inl ⟨by rfl,fun W hW=>(by rfl)⟩) (by assumption) ?_
 refine ak (i:=1) (oi:=⟨some 13,_,_,_,_,_⟩) (v:=.pointer (some ⟨g,0,none⟩)) rfl (Or.inl ⟨by rfl,fun W hW=>(by go_simp)⟩) (by assumption) ?_
 refine ak (i:=2) (oi:=⟨some 14,_,_,_,_,_⟩) (v:=.pointer (some ⟨g,44,none⟩)) rfl (Or.inl ⟨by rfl,fun W hW=>(by go_simp)⟩) (by assumption) ?_
 refine ak (i:=3) (oi:=⟨some 15,_,_,_,_,_⟩) (v:=.map (some ub)) rfl (Or.inl ⟨by rfl,fun W hW=>(by have:=HC44.out W hW;go_simp)⟩) (by assumption) ?_
 refine' ak (i:=4) (oi:=⟨some 16,_,_,_,_,_⟩) (v:=_) rfl (yieldsIf_load_mid (by rfl) _ _ rfl kb 0 rfl KF.toList _ (fun w h=>HKR.out w h) HUK.out rfl HSK.out) (by assumption) ?_
 refine ak (i:=5) (oi:=⟨some 17,_,_,_,_,_⟩) (v:=.bool true) rfl (Or.inl ⟨by rfl,fun W hW=>(by have:=HL2.out W hW;go_simp)⟩) (by assumption) ?_
 refine ak (i:=6) (oi:=⟨some 11,_,_,_,_,_⟩) (v:=.bool true) rfl (Or.inl ⟨by rfl,fun W hW=>(by rfl)⟩) (by assumption) ?_
 refine wpAnyH_done (by kernel_rfl) ?_ _
 have H2:=zh hHeld
 clear hHeld
 go_wp2
 go_ret
 exact⟨rfl,B3.out.trans (H2.out.mono B3.out.size)⟩
set_option maxRecDepth 100000 in
set_option maxHeartbeats 3200000 in
theorem mY (g:Nat) (s:TS) (W R:Nat->Prop) (w:World) (h:bC w g s W R) (U:List (Nat->Int)) (hU:s.used=U.map aq) (hco:jh s.comp) (hpl:s.P.length<=1000000) (f c:Nat->Int) (hno:du f U=false) :
  Calls Tryz.prog 25 #[.pointer (some ⟨g,0,none⟩),.agg (aq f),.agg (aq c)] w fun e w'=>e=.returned (.int .i64 0)/\cV W R w w' g (s.rekeyed f c):=by
 have HNO:=zh (fun(V:World) (hb:Below w.heap.size w V)=>di g s W R V (h.below hb))
 obtain⟨qA,qc,lq,pA,pc,lp,ub,cb,hT⟩:=h
 have HT:=zh hT
 have HLK:=zh (fun(V:World) (hb:Below w.heap.size w V)=>kS V ub U f (by rw[<-hU];exact(hT.below hb).u))
 have HSK:=zh (gw f)
 have HSC:=zh (gw c)
 have HOK:=zh (nP f)
 have HOC:=zh (nP c)
 have HUK:=zh Tryz.underlying23
 have HPUT:=zh (fun(V:World) (hb:Below w.heap.size w V)=>tG V ub U f (by rw[<-hU];exact(hT.below hb).u) hno)
 have HU2:=zh (show(U++[f]).map aq=s.used++[aq f] by rw[hU,List.map_append];rfl)
 have HCO:=zh hco
 have HPL:=zh hpl
 clear hco hpl
 obtain⟨KF,hKF⟩:=af (aq f)
 obtain⟨KC,hKC⟩:=af (aq c)
 have HKF:=zh hKF
 have HKC:=zh hKC
 rw[<-hKF]at HLK HSK HOK ⊢
 rw[<-hKC]at HSC HOC ⊢
 rw[hno]at HLK
 rw[<-hKF]at HPUT HU2
 clear hT hKF hKC hU hno
 go_enter Tryz.func25,Tryz.ntmps25
 go_upto_region 1 with (fail)
 obtain⟨kb,hkb⟩:=af w.heap.size
 have HKB:=zh hkb
 refine ah (fun V=>ae V kb 23 KF/\ae V (kb+1) 23 KC/\Below w.heap.size w V) ⟨by rw[hkb];exact(dy _ _ _ _ rfl).alloc _,by rw[hkb];exact dy _ _ _ _ (by simp),((Below.refl _ w).alloc aB _).alloc (by simp) _⟩ ?_
 rintro W1 ⟨b1,b2,b3⟩
 have B1:=zh b1
 have B2:=zh b2
 have B3:=zh b3
 rw[<-hkb]
 clear b1 b2 b3 hkb
 go_upto_region 3 with (go_at_call 49;refine(HNO.out _ B3.out).mono ?_;rintro e w3 ⟨rfl,rfl⟩)
 have HKR:=zh (show ∀W',Below W1.heap.size W1 W'->W'.rangeAt kb 0 KF.toList from fun W' hW=>(B1.out.below hW B1.out.lt).range _ (by simp))
 have HC44:=zh (show ∀W',Below W1.heap.size W1 W'->W'.cell? ⟨g,44,none⟩=some (.map (some ub))from fun W' hW=>(HT.out.below (B3.out.trans (hW.mono B3.out.size))).cu)
 have HL2:=zh (show ∀W',Below W1.heap.size W1 W'->(Instr.lookup 85 (.map (some ub)) (.agg KF) false).run Tryz.prog W'=.ok (.bool false) W' from fun W' hW=>HLK.out W' (B3.out.trans (hW.mono B3.out.size)))
 refine wp_region_held_drew (S:=fun w'=>Below W1.heap.size W1 w') (by kernel_rfl) ((Below.refl _ W1).drew) (fun hHeld=>?_)
 obtain⟨w0,hw0⟩:=af W1.drew
 rw[<-hw0]
 rw[<-hw0]at hHeld
 clear hw0
 refine ak (i:=0) (oi:=⟨some 12,_,_,_,_,_⟩) (v:=.pointer (some ⟨g,0,none⟩)) rfl (Or.inl ⟨by rfl,fun W hW=>(by rfl)⟩) (by assumption) ?_
 refine ak (i:=1) (oi:=⟨some 13,_,_,_,_,_⟩) (v:=.pointer (some ⟨g,0,none⟩)) rfl (Or.inl ⟨by rfl,fun W hW=>(by go_simp)⟩) (by assumption) ?_
 refine ak (i:=2) (oi:=⟨some 14,_,_,_,_,_⟩) (v:=.pointer (some ⟨g,44,none⟩)) rfl (Or.inl ⟨by rfl,fun W hW=>(by go_simp)⟩) (by assumption) ?_
 refine ak (i:=3) (oi:=⟨some 15,_,_,_,_,_⟩) (v:=.map (some ub)) rfl (Or.inl ⟨by rfl,fun W hW=>(by have:=HC44.out W hW;go_simp)⟩) (by assumption) ?_
 refine' ak (i:=4) (oi:=⟨some 16,_,_,_,_,_⟩) (v:=_) rfl (yieldsIf_load_mid (by rfl) _ _ rfl kb 0 rfl KF.toList _ (fun w h=>HKR.out w h) HUK.out rfl HSK.out) (by assumption) ?_
 refine ak (i:=5) (oi:=⟨some 17,_,_,_,_,_⟩) (v:=.bool false) rfl (Or.inl ⟨by rfl,fun W hW=>(by have:=HL2.out W hW;go_simp)⟩) (by assumption) ?_
 refine ak (i:=6) (oi:=⟨some 11,_,_,_,_,_⟩) (v:=.bool false) rfl (Or.inl ⟨by rfl,fun W hW=>(by rfl)⟩) (by assumption) ?_
 refine wpAnyH_done (by kernel_rfl) ?_ _
 have H2:=zh hHeld
 clear hHeld
 go_upto_region 5 with (fail)
 have H3:=zh (B3.out.trans (H2.out.mono B3.out.size))
 have T3:=zh (HT.out.below H3.out)
 have D1:=zh (B1.out.below H2.out B1.out.lt)
 have D2:=zh (B2.out.below H2.out B2.out.lt)
 obtain⟨W5,hW5⟩:=af w0
 rw[<-hW5]at H3 T3 D1 D2 ⊢
 clear hW5
 have HKR2:=zh (show ∀W',Below W5.heap.size W5 W'->W'.rangeAt kb 0 KF.toList from fun W' hW=>(D1.out.below hW D1.out.lt).range _ (by simp))
 have HD44:=zh (show ∀W',Below W5.heap.size W5 W'->W'.cell? ⟨g,44,none⟩=some (.map (some ub))from fun W' hW=>(T3.out.below hW).cu)
 refine wp_region_held_drew (S:=fun w'=>aa (fun k=>k=ub) W5 w') (by kernel_rfl) (aa.refl.drew) (fun hHeld=>?_)
 obtain⟨w5,hw5⟩:=af W5.drew
 have hb5:Below W5.heap.size W5 w5:=by rw[hw5];exact(Below.refl _ _).drew
 have HE:=zh (show ∀W',aa (fun k=>k=ub) W5 W'->W'.cell? ⟨g,44,none⟩=some (.map (some ub))from fun W' hW=>(hW.cell (p:=⟨g,44,none⟩) T3.out.blk.lt T3.out.gu).trans T3.out.cu)
 have HER:=zh (show ∀W',aa (fun k=>k=ub) W5 W'->W'.rangeAt kb 0 KF.toList from fun W' hW=>(hW.blk D1.out (fun e=>by have:=HT.out.u.lt;have:=HKB.out;omega)).range _ (by simp))
 rw[<-hw5]
 rw[<-hw5]at hHeld
 obtain⟨X,hput,hUK,hKX⟩:=HPUT.out w5 (H3.out.trans (hb5.mono H3.out.size))
 have hTX:=(T3.out.below hb5).setUsed hKX hUK
 rw[HU2.out]at hTX
 clear hw5
 refine ak (i:=0) (oi:=⟨some 18,_,_,_,_,_⟩) (v:=.pointer (some ⟨g,0,none⟩)) rfl (Or.inl ⟨by rfl,fun W hW=>(by rfl)⟩) (by assumption) ?_
 refine ak (i:=1) (oi:=⟨some 19,_,_,_,_,_⟩) (v:=.pointer (some ⟨g,0,none⟩)) rfl (Or.inl ⟨by rfl,fun W hW=>(by go_simp)⟩) (by assumption) ?_
 refine ak (i:=2) (oi:=⟨some 20,_,_,_,_,_⟩) (v:=.pointer (some ⟨g,44,none⟩)) rfl (Or.inl ⟨by rfl,fun W hW=>(by go_simp)⟩) (by assumption) ?_
 refine ak (i:=3) (oi:=⟨some 21,_,_,_,_,_⟩) (v:=.map (some ub)) rfl (Or.inl ⟨by rfl,fun W hW=>(by have:=HE.out W hW;go_simp)⟩) (by assumption) ?_
 refine' ak (i:=4) (oi:=⟨some 22,_,_,_,_,_⟩) (v:=_) rfl (yieldsIf_load_mid (by rfl) _ _ rfl kb 0 rfl KF.toList _ (fun w h=>HER.out w h) HUK.out rfl HSK.out) (by assumption) ?_
 refine wpAnyH_ready (rs:=[5]) (by kernel_rfl) (by simp) ?_
 refine AllReadyH.cons (o:=⟨none,_,_,_,_,_⟩) rfl (fun K hK=>?_) AllReadyH.nil
 rw[if_pos (by rfl)]
 go_simp
 refine hK.out _ _ (hHeld.trans hKX (fun k _ hk=>hk)) (fun hHeld=>?_)
 clear hK K hput
 try simp only[Act.put]
 refine wpAnyH_done (by kernel_rfl) ?_ _
 have HTX:=zh hTX
 have H5:=zh (hHeld)
 have XD1:=zh (hHeld.blk D1.out (fun e=>by have:=HT.out.u.lt;have:=HKB.out;omega))
 have XD2:=zh (hHeld.blk D2.out (fun e=>by have:=HT.out.u.lt;have:=HKB.out;omega))
 clear hTX hKX hUK hHeld
 go_upto_region 6 with (fail)
 have HGB:=zh (show g < kb from by have:=HT.out.blk.lt;have:=HKB.out;omega)
 have HF1:=zh (show ∀W',aa (fun k=>k=g) X W'->W'.rangeAt kb 0 KF.toList from fun W' hW=>(hW.blk XD1.out (fun e=>by have:=HGB.out;omega)).range _ (by simp))
 have HF2:=zh (show ∀W',aa (fun k=>k=g) X W'->W'.rangeAt (kb+1) 0 KC.toList from fun W' hW=>(hW.blk XD2.out (fun e=>by have:=HGB.out;omega)).range _ (by simp))
 have HSKF:Hid ((Tryz.prog.info? 23).map (·.size)=some KF.size):=zh (by rw[HKF.out];kernel_rfl)
 have HSKC:Hid ((Tryz.prog.info? 23).map (·.size)=some KC.size):=zh (by rw[HKC.out];kernel_rfl)
 refine wp_region_held_drew (S:=fun w'=>aa (fun k=>k=g) X w') (by kernel_rfl) (aa.refl.drew) (fun hHeld=>?_)
 obtain⟨w6,hw6⟩:=af X.drew
 have hb6:Below X.heap.size X w6:=by rw[hw6];exact(Below.refl _ _).drew
 rw[<-hw6]
 rw[<-hw6]at hHeld
 have hT6:=HTX.out.below hb6
 clear hw6 hb6
 refine ak (i:=0) (oi:=⟨some 23,_,_,_,_,_⟩) (v:=.pointer (some ⟨g,0,none⟩)) rfl (Or.inl ⟨by rfl,fun W hW=>(by rfl)⟩) (by assumption) ?_
 refine ak (i:=1) (oi:=⟨some 24,_,_,_,_,_⟩) (v:=.pointer (some ⟨g,0,none⟩)) rfl (Or.inl ⟨by rfl,fun W hW=>(by rfl)⟩) (by assumption) ?_
 refine' ak (i:=2) (oi:=⟨some 25,_,_,_,_,_⟩) (v:=_) rfl (yieldsIf_load_mid (by rfl) _ _ rfl kb 0 rfl KF.toList _ (fun w h=>HF1.out w h) HUK.out rfl HSK.out) (by assumption) ?_
 refine' ak (i:=3) (oi:=⟨some 26,_,_,_,_,_⟩) (v:=_) rfl (yieldsIf_load_mid (by rfl) _ _ rfl (kb+1) 0 rfl KC.toList _ (fun w h=>HF2.out w h) HUK.out rfl HSC.out) (by assumption) ?_
 refine ak (i:=4) (oi:=⟨some 27,_,_,_,_,_⟩) (v:=.pointer (some ⟨g,0,none⟩)) rfl (Or.inl ⟨by rfl,fun W hW=>(by go_simp)⟩) (by assumption) ?_
 refine ak (i:=5) (oi:=⟨some 28,_,_,_,_,_⟩) (v:=.pointer (some ⟨g,0,none⟩)) rfl (Or.inl ⟨by rfl,fun W hW=>(by go_simp)⟩) (by assumption) ?_
 refine ak (i:=6) (oi:=⟨some 29,_,_,_,_,_⟩) (v:=.pointer (some ⟨g,2,none⟩)) rfl (Or.inl ⟨by rfl,fun W hW=>(by go_simp)⟩) (by assumption) ?_
 refine wpAnyH_ready (rs:=[7]) (by kernel_rfl) (by simp) ?_
 refine AllReadyH.cons (o:=⟨none,_,_,_,_,_⟩) rfl (fun K hK=>?_) AllReadyH.nil
 rw[if_pos (by rfl)]
 refine wp_store_mid _ _ _ rfl g 2 KF rfl rfl (jS hT6.blk 2 KF.size (by rw[HKF.out,dU s.C.arr_size];show 2+16<=46;decide)) HSKF.out HOK.out ?_
 have hk1:aa (fun k=>k=g) X (w6.setCells g 2 KF.toList):=hHeld.trans (dG (F:=fun k=>k=g) rfl _ _ _) (fun _ _ h=>h)
 have hB1:=bm KF.toList 2 w6 _ hT6.blk
 obtain⟨v1,hv1⟩:=af (w6.setCells g 2 KF.toList)
 rw[<-hv1]at hk1 hB1 ⊢
 refine hK.out _ _ hk1 (fun hHeld=>?_)
 clear hK K hk1 hv1 hT6
 try simp only[Act.put]
 refine ak (i:=8) (oi:=⟨some 30,_,_,_,_,_⟩) (v:=.pointer (some ⟨g,0,none⟩)) rfl (Or.inl ⟨by rfl,fun W hW=>(by go_simp)⟩) (by assumption) ?_
 refine ak (i:=9) (oi:=⟨some 31,_,_,_,_,_⟩) (v:=.pointer (some ⟨g,0,none⟩)) rfl (Or.inl ⟨by rfl,fun W hW=>(by go_simp)⟩) (by assumption) ?_
 refine ak (i:=10) (oi:=⟨some 32,_,_,_,_,_⟩) (v:=.pointer (some ⟨g,18,none⟩)) rfl (Or.inl ⟨by rfl,fun W hW=>(by go_simp)⟩) (by assumption) ?_
 refine wpAnyH_ready (rs:=[11]) (by kernel_rfl) (by simp) ?_
 refine AllReadyH.cons (o:=⟨none,_,_,_,_,_⟩) rfl (fun K hK=>?_) AllReadyH.nil
 rw[if_pos (by rfl)]
 refine wp_store_mid _ _ _ rfl g 18 KC rfl rfl (jS hB1 18 KC.size (by rw[HKC.out,a9,dU s.C.arr_size];show 18+16<=46;decide)) HSKC.out HOC.out ?_
 have hk2:aa (fun k=>k=g) X (v1.setCells g 18 KC.toList):=hHeld.trans (dG (F:=fun k=>k=g) rfl _ _ _) (fun _ _ h=>h)
 have hB2:=bm KC.toList 18 v1 _ hB1
 obtain⟨v2,hv2⟩:=af (v1.setCells g 18 KC.toList)
 rw[<-hv2]at hk2 hB2 ⊢
 refine hK.out _ _ hk2 (fun hHeld=>?_)
 clear hK K hk2 hv2
 try simp only[Act.put]
 refine wpAnyH_done (by kernel_rfl) ?_ _
 rw[HKF.out,HKC.out,oM]at hB2
 have T6:=zh (HTX.out.setCfg hHeld hB2)
 have H6:=zh hHeld
 clear hHeld hB1 hB2
 have cc:=T6.out.cc
 go_upto_region 8 with (go_at_call 62;refine(oH cb s.comp _ T6.out.k HCO.out).mono ?_;rintro e v3 ⟨rfl,hc,hk⟩;have T7:=zh (T6.out.setComp hk hc);have H7:=zh hk;clear hc hk)
 clear cc
 obtain⟨m,hm⟩:=af lp.length
 have HM:=zh hm
 have HPV:=zh T7.out.pv
 have cp:=T7.out.cp
 rw[<-hm]at cp
 have m9:(m:Int)<=1000000:=by have:=HPL.out;rw[<-HT.out.pv,List.length_map]at this;omega
 have HKW:=zh (show aa W w v3 from (((aa.of_below (F:=W) H3.out).trans (H5.out.mono (G:=W) (fun k e=>by rw[e];exact HT.out.wu)) (fun _ _ h=>h)).trans (H6.out.mono (G:=W) (fun k e=>by rw[e];exact HT.out.wg)) (fun _ _ h=>h)).trans (H7.out.mono (G:=W) (fun k e=>by rw[e];exact HT.out.wc)) (fun _ _ h=>h))
 obtain⟨s7,hs7⟩:∃s7:TS,s7={ s with C:=s.C.keys f c,used:=s.used++[KF],comp:=eF }:=⟨_,rfl⟩
 have HS7:=zh hs7
 have T8:=zh (show ba v3 g s7 W R qA qc lq pA pc lp ub cb from by rw[hs7];exact T7.out)
 clear hs7 T7
 clear hm
 go_wp2
 go_loopw [7,43] (fun v7 v43 wr=>∃k:Nat,k<=m/\v43=.int .i64 k/\ba wr g { s7 with P:=(bp lp k).map (·.v) } W R qA qc lq pA pc (bp lp k) ub cb/\aa W w wr) (fun _ v43 _=>m-(intOf v43).toNat)
 case atStart=>exact⟨0,by omega,rfl,by rw[ly,T8.out.pv];exact T8.out,HKW.out⟩
 case round=>
  obtain⟨k,hk,rfl,hT,hK⟩:=hrel
  have TR:=zh hT
  have KR:=zh hK
  clear hT hK cp
  have k0:(0:Int)<=(k:Int):=by omega
  by_cases hlt:k < m
  ·have k1:(k:Int) < (m:Int):=by omega
   have hkl:k < lp.length:=by rw[<-HM.out];exact hlt
   obtain⟨e,he⟩:∃e,lp[k]? = some e:=⟨_,List.getElem?_eq_getElem hkl⟩
   have hak:=o4 lp k e he
   obtain⟨b,o,hpA,hbl,d0,d1,d2⟩:=TR.out.pcell hak
   have cp:=TR.out.cp
   rw[ek,<-HM.out,hpA]at cp
   have f2:=TR.out.p.frozen hpA (o+k*3+2)
   have HQ:=zh (show SL (wr.setCell ⟨b,o+k*3+2,none⟩ (.bool true)) 94 3 pA (bp lp k).length pc ((bp lp (k+1)).flatMap PE.cells)from by
    have hsl:=TR.out.p
    rw[hpA]at hsl
    have:=hsl.setOne (k*3+2) (by rw[ek];omega) (.bool true)
    rw[pQ (bp lp k) k e hak,fu lp k e he,<-Nat.add_assoc]at this
    rw[hpA]
    exact this)
   have HKF2:=zh ((aa.refl (F:=fun k=>∃a,pA=some a/\k=a.block) (w:=wr)).setCell (p:=⟨b,o+k*3+2,none⟩) ⟨_,hpA,rfl⟩ (.bool true))
   have HT4:=zh (TR.out.putP (lp':=bp lp (k+1)) HKF2.out HQ.out (by rw[ek,ek]) (fun x hx=>by
    have hk:bE wr R x.A x.v.n x.c x.v.z:=by
     rw[<-fu lp k e he]at hx
     rcases List.mem_or_eq_of_mem_set hx with h | h
     ·exact TR.out.pe x h
     ·subst h
      exact TR.out.pe e (List.mem_of_getElem? hak)
    exact hk.keep HKF2.out (fun j ⟨a,ha,e2⟩ hr=>TR.out.dis j (by rw[e2];exact TR.out.wp a ha) hr)) (fun x hx=>by
    rw[<-fu lp k e he]at hx
    rcases List.mem_or_eq_of_mem_set hx with h | h
    ·exact TR.out.pr x.v (List.mem_map_of_mem h)
    ·subst h
     exact TR.out.pr e.v (List.mem_map_of_mem (List.mem_of_getElem? hak))))
   have HK4:=zh (KR.out.trans (HKF2.out.mono (G:=W) (fun j ⟨a,ha,e2⟩=>by rw[e2];exact TR.out.wp a ha)) (fun _ _ h=>h))
   subst hpA
   clear hak he d0 d1
   go_wp2
   go_roundw
   case rel=>exact⟨k+1,by omega,by go_num,HT4.out,HK4.out⟩
   case measure=>simp[intOf];omega
  ·obtain rfl:k=m:=by omega
   go_wp2
   go_ret
   have e1:(bp lp k).map (·.v)=s.P.map PV.again:=by rw[HM.out,mb,rA,HT.out.pv]
   have e2:({ s7 with P:=(bp lp k).map (·.v) }:TS)=s.rekeyed f c:=by rw[HS7.out,e1,HKF.out];rfl
   rw[<-e2]
   exact⟨rfl,W,R,⟨_,_,_,_,_,_,_,_,TR.out⟩,fun _ h=>.inl h,fun _ h=>.inl h,KR.out⟩
end Go.Proofs.YtiiojpnckbglcaaGreat
