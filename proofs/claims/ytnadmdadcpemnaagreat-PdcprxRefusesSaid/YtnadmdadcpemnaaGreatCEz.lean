import Derived.Test.YtnadmdadcpemnaaGreatMCFz
import Derived.Test.YtnadmdadcpemnaaGreatMDQz
namespace Go.Proofs.YtnadmdadcpemnaaGreat
open Go.RowKit
set_option linter.unusedVariables false
set_option linter.unusedSimpArgs false
attribute [local go_sem ↓] Go.wp_at_zero Go.wp_at_succ
private theorem zh {p:Prop} (h:p):Go.RowKit.Hid p:=h
private theorem tkH {P:Program} {ops:Array Oper} {Q:Exit→Act→World→Prop} {md:Region.Mode} {S:World→Prop} {i:Nat} {oi:Oper} {v:Value} {fuel:Nat} {listed l':Array Bool} {a a':Act} {w:World} (hi:ops[i]? = some oi) (hy:YieldsIf P ops S oi v a) (hS:S w)
  (h:wpAnyH P md ops Q S fuel l' a' w) (hl:listed.setIfInBounds i true=l':=by(try simp only[List.setIfInBounds_toArray,List.set_cons_zero,List.set_cons_succ]);rfl) (ha:a.put oi.dst v=a':=by(try simp only[Act.put,List.setIfInBounds_toArray,List.set_cons_zero,List.set_cons_succ]);rfl) (hs:Region.noSelect ops=true:=by kernel_rfl) (hf:Region.free md ops listed i=true:=by kernel_rfl) (hr:(Region.ready md ops listed).contains i=true:=by kernel_rfl)
  (hQ:∀c a w,Q (.panic c) (a.put oi.dst v) w→Q (.panic c) a w:=by exact fun _ _ _ h=>h):wpAnyH P md ops Q S (fuel+1) listed a w:=by subst hl;subst ha;exact wpAnyH_take hi hs hf hr hQ hy hS h
def rresS (cf:Cfg) (X:Obj) (d nx:Int) (L:List SV):RS:=⟨cf,0,d,nx,L,false,0,0,[kArr cf.key],X,0⟩
def RxNewD (cf:Cfg) (d nx:Int) (B:Nat) (w:World) (v:Value) (W:World):Prop:=
 ∃g mS mU eb X,v=.pointer (some ⟨g,0,none⟩)∧RxM W g (rresS cf X d nx []) (fun k=>k=g∨k=mS∨k=mU∨k=eb) (fun _=>False) mS [] mU eb∧B≤g∧B≤mS∧B≤mU∧B≤eb∧Below B w W
theorem rxnewd_intro (cf:Cfg) (d nx:Int) (hdn:0≤d∧d≤nx∧nx≤4294967296) (W:World) (g mS mU eb:Nat) (t:TypeId) (cs:Array Value) (hB:Blk W g 83 (rArr cf.arr 0 d nx mS false 0 0 mU eb 0)) (hS:SM W mS []) (hU:UK W mU [kArr cf.key]) (hC:Blk W eb t cs) (h1:eb ≠ g) (h2:mS ≠ mU) :
  RxM W g (rresS cf (.cells cs t (0,0)) d nx []) (fun k=>k=g∨k=mS∨k=mU∨k=eb) (fun _=>False) mS [] mU eb:=by
 have e1:eb ≠ mS:=fun e=>by
  obtain⟨es,c,h,_⟩:=hS
  rw[←e,show W.heap[eb]? = _ from hC]at h;cases h
 have e2:eb ≠ mU:=fun e=>by
  obtain⟨es,c,h,_⟩:=hU
  rw[←e,show W.heap[eb]? = _ from hC]at h;cases h
 exact⟨hB,rfl,hS,List.Pairwise.nil,fun e he=>(by cases he),hU,hC,fun e he=>(by cases he),
  ⟨by show(0:Int)≤0∧(0:Int) < 1073741824;decide,⟨hdn.1,hdn.2.1⟩,hdn.2.2,⟨Int.le_refl _,Int.le_trans hdn.1 hdn.2.1⟩,by show(0:Int)≤0∧(0:Int)≤2147483648;decide,by show(0:Int)≤0∧(0:Int) < 4611686018427387904;decide⟩,
  .inl rfl,.inr (.inl rfl),.inr (.inr (.inl rfl)),.inr (.inr (.inr rfl)),h1,e1,e2,h2,fun k _ hr=>hr,fun k hk=>(by
   rcases hk with rfl | rfl | rfl | rfl
   ·exact hB.lt
   ·exact hS.lt
   ·exact hU.lt
   ·exact hC.lt),fun k hr=>hr.elim⟩
def svAt (ct:Nat→Int) (pn:Nat→Nat) (z:Nat→Nat→Int) (k:Nat):SV:=⟨ct k,pn k,z k⟩
def svTo (ct:Nat→Int) (pn:Nat→Nat) (z:Nat→Nat→Int) (m:Nat):List SV:=(List.range m).map (svAt ct pn z)
def RResO (cf:Cfg) (d nx:Int) (L:List SV) (w:World) (e:Ending) (w':World):Prop:=
 ∃g mS mU eb X l R,e=.returned (.tuple #[.pointer (some ⟨g,0,none⟩),.int .i64 0])∧RxM w' g (rresS cf X d nx L) (fun k=>k=g∨k=mS∨k=mU∨k=eb) R mS l mU eb∧w.heap.size≤g∧w.heap.size≤mS∧w.heap.size≤mU∧w.heap.size≤eb∧(∀k,R k→w.heap.size≤k)∧Below w.heap.size w w'
theorem insV_end (x:SV):∀(l:List SV),(∀y,y∈l→y.ct < x.ct)→insV x l=l++[x]
 | [],_=>rfl
 | y :: r,h=>by
  have h1:=h y (by simp)
  show(if x.ct < y.ct then x :: y :: r else y :: insV x r)=_
  rw[if_neg (by omega),insV_end x r (fun z hz=>h z (by simp[hz]))]
  rfl
theorem whole_rise {d nx:Int} {m:Nat} {ct:Nat→Int} {pn:Nat→Nat} (hw:Whole d nx m ct pn):∀k,k < m→(d < ct k∧ct k < nx∧1≤pn k∧pn k≤9000)∧∀j,j < k→ct j < ct k
 | 0,h=>by
  have h1:=hw.2.1 0 h
  unfold elemOk lastOf at h1
  rw[if_pos rfl]at h1
  exact⟨h1,fun j hj=>by omega⟩
 | k+1,h=>by
  have h1:=hw.2.1 (k+1) h
  have h2:=whole_rise hw k (by omega)
  unfold elemOk at h1
  rw[lastOf_succ]at h1
  refine⟨⟨by omega,h1.2⟩,fun j hj=>?_⟩
  by_cases e:j=k
  ·rw[e];exact h1.1
  ·have:=h2.2 j (by omega)
   omega
theorem svTo_succ (ct:Nat→Int) (pn:Nat→Nat) (z:Nat→Nat→Int) (k:Nat):svTo ct pn z (k+1)=svTo ct pn z k++[svAt ct pn z k]:=by
 unfold svTo
 rw[List.range_succ,List.map_append]
 rfl
set_option maxRecDepth 100000 in
set_option maxHeartbeats 12800000 in
theorem rresume_any (cf:Cfg) (w:World) (hcv:cf.Valid) (A:Option Addr) (m c:Nat) (d nx:Int) (ct:Nat→Int) (PA:Nat→Option Addr) (pn pc:Nat→Nat) (z:Nat→Nat→Int) (hd0:0≤d) (hm:m≤maxLen) (h:Cnts w A m ct PA pn pc z) (hw:Whole d nx m ct pn) :
  Calls Tryz.prog 16 #[.agg cf.arr,.agg #[.int .u64 d,.int .u64 nx,.slice A m c]] w (RResO cf d nx (svTo ct pn z m) w):=by
 have HV:=zh (fun W=>rvalid_ok cf W)
 have HW:=zh (fun W (hb:Below w.heap.size w W)=>whole_yes A m c d nx ct PA pn pc z W hd0 hm (h.below hb) hw)
 have HC:=zh h
 have HWH:=zh hw
 have HD0:=zh (show 0≤d∧d≤nx∧nx≤4294967296 from ⟨hd0,hw.1.1,hw.1.2.1⟩)
 have HM:=zh hm
 have hd:decide cf.Valid=true:=decide_eq_true hcv
 rw[hd]at HV
 have HS:Hid ((Tryz.prog.info? 25).map (·.size)=some cf.arr.size):=zh (by rw[cf.arr_size];exact infoPd)
 have HKR0:=zh (show ∀j,j < 16→cf.arr[2+j]? = (kArr cf.key)[j]? from fun j hj=>by
  rw[cf.arr_at (by omega),kArr_at _ j hj]
  unfold Cfg.cell
  rw[if_neg (by omega),if_neg (by omega),if_pos (by omega),show 2+j-2=j by omega])
 have HZE:=zh (cfgLit_eq cf)
 obtain⟨Z,hZ⟩:∃Z,Z=cf.arr:=⟨_,rfl⟩
 rw[←hZ]at HS HV HKR0 HZE ⊢
 have HZZ:=zh hZ
 have HU:=zh Tryz.underlying25
 have HUK:=zh Tryz.underlying23
 have hmm:=@run_makeMap Tryz.prog
 clear hcv hd hZ h hw hd0 hm
 go_enter Tryz.func16,Tryz.ntmps16
 go_upto_region 1 with (fail)
 refine wp_let (fun W=>Blk W w.heap.size 25 Z∧Blk W (w.heap.size+1) 46 #[.int .u64 d,.int .u64 nx,.slice A m c]∧Below w.heap.size w W) ⟨(Blk.new _ _ _).alloc _,blk_atZ _ _ _ _ (by simp),((Below.refl _ w).alloc (Nat.le_refl _) _).alloc (by simp) _⟩ ?_
 rintro W1 ⟨b1,b2,b3⟩
 have B1:=zh b1
 have B2:=zh b2
 have B3:=zh b3
 clear b1 b2 b3
 go_upto_region 3 with (first
  | (refine wpList_load_row rfl _ _ rfl w.heap.size rfl 25 Z (0,0) _ B1.out HU.out rfl HS.out ?_)
  | (go_at_call 38;refine(HV.out _).mono ?_;rintro e w2 ⟨rfl,hB⟩;have E2:=zh hB;have D2:=zh (below_step B3.out hB);have x0:=(B2.out.below hB B2.out.lt).cell 0;have x1:=(B2.out.below hB B2.out.lt).cell 1;have x2:=(B2.out.below hB B2.out.lt).cell 2;simp at x0 x1 x2;clear hB)
  | (go_at_call 39;refine(HW.out _ D2.out).mono ?_;rintro e w3 ⟨rfl,hB⟩;have E3:=zh (below_step E2.out hB);have D3:=zh (below_step D2.out hB);clear hB))
 have BZ:=zh (B1.out.below E3.out B1.out.lt)
 have BS:=zh (B2.out.below E3.out B2.out.lt)
 obtain⟨zb,hzb⟩:∃zb,zb=w.heap.size:=⟨_,rfl⟩
 obtain⟨Bn,hBn⟩:∃Bn,Bn=w3.heap.size:=⟨_,rfl⟩
 rw[←hzb]at BZ BS x0 x1 x2 ⊢
 have HZB:=zh hzb
 have hzl:zb+1 < Bn:=by rw[hBn];exact BS.out.lt
 have hbw:w.heap.size≤Bn:=by rw[hBn];exact D3.out.size
 have HZR:=zh (show ∀W,Below Bn w3 W→W.rangeAt zb 0 (cfgLit cf).toList from fun W hW=>((BZ.out.below hW (by omega)).range _ (by rw[HZE.out])))
 have HKR:=zh (show ∀W,Below Bn w3 W→W.rangeAt zb 2 (kArr cf.key).toList from fun W hW j v hv=>by
  have hj:j < 16:=by have:=(List.getElem?_eq_some_iff.1 hv).1;simpa[kArr]using this
  rw[(BZ.out.below hW (by omega)).cell (2+j),HKR0.out j hj]
  simpa using hv)
 have HSR:=zh (show ∀W,Below Bn w3 W→W.cell? ⟨zb+1,0,none⟩=some (.int .u64 d)∧W.cell? ⟨zb+1,1,none⟩=some (.int .u64 nx)∧W.cell? ⟨zb+1,2,none⟩=some (.slice A m c)from fun W hW=>⟨(BS.out.below hW hzl).cell 0,(BS.out.below hW hzl).cell 1,(BS.out.below hW hzl).cell 2⟩)
 have HS39:Hid ((Tryz.prog.info? 25).map (·.size)=some (cfgLit cf).toList.length):=zh infoPd
 have HS16:Hid ((Tryz.prog.info? 23).map (·.size)=some (kArr cf.key).toList.length):=zh (by kernel_rfl)
 clear x0 x1 x2 hzb
 go_cut [6]from 17 to 29 (fun v wx=>RxNewD cf d nx Bn w3 v wx)
 case first=>
  obtain⟨w0,hw0⟩:∃w0,w0=w3.drew:=⟨_,rfl⟩
  have hb0:Below Bn w3 w0:=by rw[hw0,hBn];exact(Below.refl _ w3).drew
  have hz0:Bn≤w0.heap.size:=by rw[hw0,hBn];exact Nat.le_refl _
  refine wp_region_held_drew (S:=fun w'=>Below Bn w3 w') (by kernel_rfl) (by rw[←hw0];exact hb0) (fun hHeld=>?_)
  rw[←hw0]
  clear hw0 hHeld
  have hHeld:=hb0
  refine' tkH (i:=0) (oi:=⟨some 17,_,_,_,_,_⟩) (v:=_) rfl (yieldsIf_load_mid (by rfl) _ _ rfl zb 0 rfl (cfgLit cf).toList _ (fun w h=>HZR.out w h) HU.out rfl HS39.out) (by assumption) ?_
  refine tkH (i:=1) (oi:=⟨some 18,_,_,_,_,_⟩) (v:=.pointer (some ⟨zb+1,0,none⟩)) rfl (Or.inl ⟨by rfl,fun W hW=>(by go_simp)⟩) (by assumption) ?_
  refine tkH (i:=2) (oi:=⟨some 19,_,_,_,_,_⟩) (v:=.int .u64 d) rfl (Or.inl ⟨by rfl,fun W hW=>(by obtain⟨u0,u1,u2⟩:=HSR.out W hW;go_simp)⟩) (by assumption) ?_
  refine tkH (i:=3) (oi:=⟨some 20,_,_,_,_,_⟩) (v:=.pointer (some ⟨zb+1,1,none⟩)) rfl (Or.inl ⟨by rfl,fun W hW=>(by go_simp)⟩) (by assumption) ?_
  refine tkH (i:=4) (oi:=⟨some 21,_,_,_,_,_⟩) (v:=.int .u64 nx) rfl (Or.inl ⟨by rfl,fun W hW=>(by obtain⟨u0,u1,u2⟩:=HSR.out W hW;go_simp)⟩) (by assumption) ?_
  refine tkH (i:=7) (oi:=⟨some 24,_,_,_,_,_⟩) (v:=.pointer (some ⟨zb,2,none⟩)) rfl (Or.inl ⟨by rfl,fun W hW=>(by go_simp)⟩) (by assumption) ?_
  refine' tkH (i:=8) (oi:=⟨some 25,_,_,_,_,_⟩) (v:=_) rfl (yieldsIf_load_mid (by rfl) _ _ rfl zb 2 rfl (kArr cf.key).toList _ (fun w h=>HKR.out w h) HUK.out rfl HS16.out) (by assumption) ?_
  refine wpAnyH_ready (rs:=[5,6,11]) (by kernel_rfl) (by simp) ?_
  refine AllReadyH.cons (o:=⟨some 22,_,_,_,_,_⟩) rfl (fun K hK=>?_) (AllReadyH.cons (o:=⟨some 23,_,_,_,_,_⟩) rfl (fun K hK=>?_) (AllReadyH.cons (o:=⟨some 27,_,_,_,_,_⟩) rfl (fun K hK=>?_) AllReadyH.nil))
  ·rw[if_pos (by rfl)]
   go_simp
   obtain⟨w1',hv⟩:∃w1',w1'=w0.alloc (.map #[] 0):=⟨_,rfl⟩
   obtain⟨mS,hb⟩:∃mS,mS=w0.heap.size:=⟨_,rfl⟩
   have hH2:Below Bn w3 w1':=by rw[hv];exact hHeld.alloc hz0 _
   have hz1:Bn≤w1'.heap.size:=by rw[hv,World.size_alloc];omega
   have hbk:Below w0.heap.size w0 w1':=by rw[hv];exact(Below.refl _ _).alloc (Nat.le_refl _) _
   have hS:SM w1' mS []:=by rw[hv,hb];exact SM.made _
   have hSl:Bn≤mS:=by omega
   rw[←hv,←hb]
   clear hv hb hbk
   refine hK.out _ _ hH2 (fun hHeld=>?_)
   clear hK K hH2
   try simp only[Act.put,List.setIfInBounds_toArray,List.set_cons_zero,List.set_cons_succ]
   refine wpAnyH_ready (rs:=[6,11]) (by kernel_rfl) (by simp) ?_
   refine AllReadyH.cons (o:=⟨some 23,_,_,_,_,_⟩) rfl (fun K hK=>?_) (AllReadyH.cons (o:=⟨some 27,_,_,_,_,_⟩) rfl (fun K hK=>?_) AllReadyH.nil)
   ·rw[if_pos (by rfl)]
    go_simp
    obtain⟨w2',hv⟩:∃w2',w2'=w1'.alloc (.map #[] 0):=⟨_,rfl⟩
    obtain⟨mU,hb⟩:∃mU,mU=w1'.heap.size:=⟨_,rfl⟩
    have hH2:Below Bn w3 w2':=by rw[hv];exact hHeld.alloc hz1 _
    have hz2:Bn≤w2'.heap.size:=by rw[hv,World.size_alloc];omega
    have hbk:Below w1'.heap.size w1' w2':=by rw[hv];exact(Below.refl _ _).alloc (Nat.le_refl _) _
    have hSU:mS ≠ mU:=by have:=hS.lt;omega
    replace hS:=hS.below hbk hS.lt
    have hU:w2'.heap[mU]? = some (.map #[] 0):=by rw[hv,hb];exact World.alloc_heap_new _ _
    have hUl:mU < w2'.heap.size:=by rw[hv,hb,World.size_alloc];omega
    have hUB:Bn≤mU:=by omega
    rw[←hv,←hb]
    clear hv hb hbk
    refine hK.out _ _ hH2 (fun hHeld=>?_)
    clear hK K hH2
    try simp only[Act.put,List.setIfInBounds_toArray,List.set_cons_zero,List.set_cons_succ]
    refine wpAnyH_ready (rs:=[9,11]) (by kernel_rfl) (by simp) ?_
    refine AllReadyH.cons (o:=⟨none,_,_,_,_,_⟩) rfl (fun K hK=>?_) (AllReadyH.cons (o:=⟨some 27,_,_,_,_,_⟩) rfl (fun K hK=>?_) AllReadyH.nil)
    ·rw[if_pos (by rfl)]
     go_simp
     have hpu:=k_put0 cf.key w2' mU hU
     rw[show(.agg (kArr cf.key):Value)=.agg (kArr cf.key).toList.toArray from rfl]at hpu
     obtain⟨w3',hv⟩:∃w3',w3'=w2'.putObj mU (.map #[{ key:=.agg (kArr cf.key),val:=.bool true,born:=0 }] 1):=⟨_,rfl⟩
     have hkp:KeepF (fun k=>k=mU) w2' w3':=by rw[hv];exact KeepF.of_putObj _ _ _
     have hH2:Below Bn w3 w3':=KeepF.below hHeld hkp (fun k e=>by rw[e];exact hUB) hz2
     have hz3:Bn≤w3'.heap.size:=Nat.le_trans hz2 hkp.size
     have hUK:UK w3' mU [kArr cf.key]:=by rw[hv];exact uk_one _ mU hUl cf.key
     replace hS:=hS.keepF hkp (fun e=>hSU e)
     go_simp
     rw[←hv]
     clear hv hkp hpu hU hUl
     refine hK.out _ _ hH2 (fun hHeld=>?_)
     clear hK K hH2
     try simp only[Act.put,List.setIfInBounds_toArray,List.set_cons_zero,List.set_cons_succ]
     refine tkH (i:=10) (oi:=⟨some 26,_,_,_,_,_⟩) (v:=.map (some mU)) rfl (Or.inl ⟨by rfl,fun W hW=>(by rfl)⟩) (by assumption) ?_
     refine wpAnyH_ready (rs:=[11]) (by kernel_rfl) (by simp) ?_
     refine AllReadyH.cons (o:=⟨some 27,_,_,_,_,_⟩) rfl (fun K hK=>?_) AllReadyH.nil
     rw[if_pos (by rfl)]
     go_simp
     refine(rexp_new w3').mono ?_
     rintro e w4' ⟨rfl,hbk,tt,cs,hC⟩
     obtain⟨eb,heb⟩:∃eb,eb=w3'.heap.size:=⟨_,rfl⟩
     rw[←heb]at hC ⊢
     dsimp only
     have hH2:Below Bn w3 w4':=hHeld.trans (hbk.mono hz3)
     have hz4:Bn≤w4'.heap.size:=Nat.le_trans hz3 hbk.size
     have hEl:Bn≤eb:=by omega
     replace hS:=hS.below hbk hS.lt
     replace hUK:=hUK.keep (hbk.block mU hUK.lt)
     clear heb hbk
     refine hK.out _ _ hH2 (fun hHeld=>?_)
     clear hK K hH2
     try simp only[Act.put,List.setIfInBounds_toArray,List.set_cons_zero,List.set_cons_succ]
     refine tkH (i:=12) (oi:=⟨some 28,_,_,_,_,_⟩) (v:=.agg (rArr (cfgLit cf) 0 d nx mS false 0 0 mU eb 0)) rfl (Or.inl ⟨by rfl,fun W hW=>(by kernel_rfl)⟩) (by assumption) ?_
     refine wpAnyH_ready (rs:=[13]) (by kernel_rfl) (by simp) ?_
     refine AllReadyH.cons (o:=⟨some 29,_,_,_,_,_⟩) rfl (fun K hK=>?_) AllReadyH.nil
     rw[if_pos (by rfl)]
     go_simp
     obtain⟨wv,hv⟩:∃wv,wv=w4'.alloc (.cells (rArr (cfgLit cf) 0 d nx mS false 0 0 mU eb 0) 83):=⟨_,rfl⟩
     obtain⟨rb,hrb⟩:∃rb,rb=w4'.heap.size:=⟨_,rfl⟩
     have hR:Blk wv rb 83 (rArr (cfgLit cf) 0 d nx mS false 0 0 mU eb 0):=by rw[hv,hrb];exact Blk.new _ _ _
     have hH2:Below Bn w3 wv:=by rw[hv];exact hHeld.alloc hz4 _
     have hbk:Below w4'.heap.size w4' wv:=by rw[hv];exact(Below.refl _ _).alloc (Nat.le_refl _) _
     have hne:eb ≠ rb:=by have:=hC.lt;omega
     replace hS:=hS.below hbk hS.lt
     replace hUK:=hUK.keep (hbk.block mU hUK.lt)
     replace hC:=hC.below hbk hC.lt
     rw[←hv,←hrb]
     refine hK.out _ _ hH2 (fun hHeld=>?_)
     clear hK K
     try simp only[Act.put,List.setIfInBounds_toArray,List.set_cons_zero,List.set_cons_succ]
     refine tkH (i:=14) (oi:=⟨some 6,_,_,_,_,_⟩) (v:=.pointer (some ⟨rb,0,none⟩)) rfl (Or.inl ⟨by rfl,fun W hW=>(by rfl)⟩) (by assumption) ?_
     refine wpAnyH_done (by kernel_rfl) ?_ _
     go_wp2
     go_meet
     exact⟨rb,mS,mU,eb,_,rfl,rxnewd_intro cf d nx HD0.out _ rb mS mU eb tt cs (by rw[cfgLit_eq];exact hR) hS hUK hC hne hSU,by omega,hSl,hUB,hEl,hH2⟩
    ·rw[if_pos (by rfl)]
     go_simp
     refine(rexp_new w2').mono ?_
     rintro e w3' ⟨rfl,hbk,tt,cs,hC⟩
     obtain⟨eb,heb⟩:∃eb,eb=w2'.heap.size:=⟨_,rfl⟩
     rw[←heb]at hC ⊢
     dsimp only
     have hH2:Below Bn w3 w3':=hHeld.trans (hbk.mono hz2)
     have hz3:Bn≤w3'.heap.size:=Nat.le_trans hz2 hbk.size
     have hEl:Bn≤eb:=by omega
     replace hS:=hS.below hbk hS.lt
     replace hU:=(hbk.block mU hUl).trans hU
     replace hUl:mU < w3'.heap.size:=Nat.lt_of_lt_of_le hUl hbk.size
     clear heb hbk
     refine hK.out _ _ hH2 (fun hHeld=>?_)
     clear hK K hH2
     try simp only[Act.put,List.setIfInBounds_toArray,List.set_cons_zero,List.set_cons_succ]
     refine wpAnyH_ready (rs:=[9]) (by kernel_rfl) (by simp) ?_
     refine AllReadyH.cons (o:=⟨none,_,_,_,_,_⟩) rfl (fun K hK=>?_) AllReadyH.nil
     rw[if_pos (by rfl)]
     go_simp
     have hpu:=k_put0 cf.key w3' mU hU
     rw[show(.agg (kArr cf.key):Value)=.agg (kArr cf.key).toList.toArray from rfl]at hpu
     obtain⟨w4',hv⟩:∃w4',w4'=w3'.putObj mU (.map #[{ key:=.agg (kArr cf.key),val:=.bool true,born:=0 }] 1):=⟨_,rfl⟩
     have hkp:KeepF (fun k=>k=mU) w3' w4':=by rw[hv];exact KeepF.of_putObj _ _ _
     have hH2:Below Bn w3 w4':=KeepF.below hHeld hkp (fun k e=>by rw[e];exact hUB) hz3
     have hz4:Bn≤w4'.heap.size:=Nat.le_trans hz3 hkp.size
     have hUK:UK w4' mU [kArr cf.key]:=by rw[hv];exact uk_one _ mU hUl cf.key
     replace hS:=hS.keepF hkp (fun e=>hSU e)
     replace hC:=hkp.blk hC (fun e=>by have hX:=show _=_ from hC;rw[e,hU]at hX;cases hX)
     go_simp
     rw[←hv]
     clear hv hkp hpu hU hUl
     refine hK.out _ _ hH2 (fun hHeld=>?_)
     clear hK K hH2
     try simp only[Act.put,List.setIfInBounds_toArray,List.set_cons_zero,List.set_cons_succ]
     refine tkH (i:=10) (oi:=⟨some 26,_,_,_,_,_⟩) (v:=.map (some mU)) rfl (Or.inl ⟨by rfl,fun W hW=>(by rfl)⟩) (by assumption) ?_
     refine tkH (i:=12) (oi:=⟨some 28,_,_,_,_,_⟩) (v:=.agg (rArr (cfgLit cf) 0 d nx mS false 0 0 mU eb 0)) rfl (Or.inl ⟨by rfl,fun W hW=>(by kernel_rfl)⟩) (by assumption) ?_
     refine wpAnyH_ready (rs:=[13]) (by kernel_rfl) (by simp) ?_
     refine AllReadyH.cons (o:=⟨some 29,_,_,_,_,_⟩) rfl (fun K hK=>?_) AllReadyH.nil
     rw[if_pos (by rfl)]
     go_simp
     obtain⟨wv,hv⟩:∃wv,wv=w4'.alloc (.cells (rArr (cfgLit cf) 0 d nx mS false 0 0 mU eb 0) 83):=⟨_,rfl⟩
     obtain⟨rb,hrb⟩:∃rb,rb=w4'.heap.size:=⟨_,rfl⟩
     have hR:Blk wv rb 83 (rArr (cfgLit cf) 0 d nx mS false 0 0 mU eb 0):=by rw[hv,hrb];exact Blk.new _ _ _
     have hH2:Below Bn w3 wv:=by rw[hv];exact hHeld.alloc hz4 _
     have hbk:Below w4'.heap.size w4' wv:=by rw[hv];exact(Below.refl _ _).alloc (Nat.le_refl _) _
     have hne:eb ≠ rb:=by have:=hC.lt;omega
     replace hS:=hS.below hbk hS.lt
     replace hUK:=hUK.keep (hbk.block mU hUK.lt)
     replace hC:=hC.below hbk hC.lt
     rw[←hv,←hrb]
     refine hK.out _ _ hH2 (fun hHeld=>?_)
     clear hK K
     try simp only[Act.put,List.setIfInBounds_toArray,List.set_cons_zero,List.set_cons_succ]
     refine tkH (i:=14) (oi:=⟨some 6,_,_,_,_,_⟩) (v:=.pointer (some ⟨rb,0,none⟩)) rfl (Or.inl ⟨by rfl,fun W hW=>(by rfl)⟩) (by assumption) ?_
     refine wpAnyH_done (by kernel_rfl) ?_ _
     go_wp2
     go_meet
     exact⟨rb,mS,mU,eb,_,rfl,rxnewd_intro cf d nx HD0.out _ rb mS mU eb tt cs (by rw[cfgLit_eq];exact hR) hS hUK hC hne hSU,by omega,hSl,hUB,hEl,hH2⟩
   ·rw[if_pos (by rfl)]
    go_simp
    refine(rexp_new w1').mono ?_
    rintro e w2' ⟨rfl,hbk,tt,cs,hC⟩
    obtain⟨eb,heb⟩:∃eb,eb=w1'.heap.size:=⟨_,rfl⟩
    rw[←heb]at hC ⊢
    dsimp only
    have hH2:Below Bn w3 w2':=hHeld.trans (hbk.mono hz1)
    have hz2:Bn≤w2'.heap.size:=Nat.le_trans hz1 hbk.size
    have hEl:Bn≤eb:=by omega
    replace hS:=hS.below hbk hS.lt
    clear heb hbk
    refine hK.out _ _ hH2 (fun hHeld=>?_)
    clear hK K hH2
    try simp only[Act.put,List.setIfInBounds_toArray,List.set_cons_zero,List.set_cons_succ]
    refine wpAnyH_ready (rs:=[6]) (by kernel_rfl) (by simp) ?_
    refine AllReadyH.cons (o:=⟨some 23,_,_,_,_,_⟩) rfl (fun K hK=>?_) AllReadyH.nil
    rw[if_pos (by rfl)]
    go_simp
    obtain⟨w3',hv⟩:∃w3',w3'=w2'.alloc (.map #[] 0):=⟨_,rfl⟩
    obtain⟨mU,hb⟩:∃mU,mU=w2'.heap.size:=⟨_,rfl⟩
    have hH2:Below Bn w3 w3':=by rw[hv];exact hHeld.alloc hz2 _
    have hz3:Bn≤w3'.heap.size:=by rw[hv,World.size_alloc];omega
    have hbk:Below w2'.heap.size w2' w3':=by rw[hv];exact(Below.refl _ _).alloc (Nat.le_refl _) _
    have hSU:mS ≠ mU:=by have:=hS.lt;omega
    replace hS:=hS.below hbk hS.lt
    replace hC:=hC.below hbk hC.lt
    have hU:w3'.heap[mU]? = some (.map #[] 0):=by rw[hv,hb];exact World.alloc_heap_new _ _
    have hUl:mU < w3'.heap.size:=by rw[hv,hb,World.size_alloc];omega
    have hUB:Bn≤mU:=by omega
    rw[←hv,←hb]
    clear hv hb hbk
    refine hK.out _ _ hH2 (fun hHeld=>?_)
    clear hK K hH2
    try simp only[Act.put,List.setIfInBounds_toArray,List.set_cons_zero,List.set_cons_succ]
    refine wpAnyH_ready (rs:=[9]) (by kernel_rfl) (by simp) ?_
    refine AllReadyH.cons (o:=⟨none,_,_,_,_,_⟩) rfl (fun K hK=>?_) AllReadyH.nil
    rw[if_pos (by rfl)]
    go_simp
    have hpu:=k_put0 cf.key w3' mU hU
    rw[show(.agg (kArr cf.key):Value)=.agg (kArr cf.key).toList.toArray from rfl]at hpu
    obtain⟨w4',hv⟩:∃w4',w4'=w3'.putObj mU (.map #[{ key:=.agg (kArr cf.key),val:=.bool true,born:=0 }] 1):=⟨_,rfl⟩
    have hkp:KeepF (fun k=>k=mU) w3' w4':=by rw[hv];exact KeepF.of_putObj _ _ _
    have hH2:Below Bn w3 w4':=KeepF.below hHeld hkp (fun k e=>by rw[e];exact hUB) hz3
    have hz4:Bn≤w4'.heap.size:=Nat.le_trans hz3 hkp.size
    have hUK:UK w4' mU [kArr cf.key]:=by rw[hv];exact uk_one _ mU hUl cf.key
    replace hS:=hS.keepF hkp (fun e=>hSU e)
    replace hC:=hkp.blk hC (fun e=>by have hX:=show _=_ from hC;rw[e,hU]at hX;cases hX)
    go_simp
    rw[←hv]
    clear hv hkp hpu hU hUl
    refine hK.out _ _ hH2 (fun hHeld=>?_)
    clear hK K hH2
    try simp only[Act.put,List.setIfInBounds_toArray,List.set_cons_zero,List.set_cons_succ]
    refine tkH (i:=10) (oi:=⟨some 26,_,_,_,_,_⟩) (v:=.map (some mU)) rfl (Or.inl ⟨by rfl,fun W hW=>(by rfl)⟩) (by assumption) ?_
    refine tkH (i:=12) (oi:=⟨some 28,_,_,_,_,_⟩) (v:=.agg (rArr (cfgLit cf) 0 d nx mS false 0 0 mU eb 0)) rfl (Or.inl ⟨by rfl,fun W hW=>(by kernel_rfl)⟩) (by assumption) ?_
    refine wpAnyH_ready (rs:=[13]) (by kernel_rfl) (by simp) ?_
    refine AllReadyH.cons (o:=⟨some 29,_,_,_,_,_⟩) rfl (fun K hK=>?_) AllReadyH.nil
    rw[if_pos (by rfl)]
    go_simp
    obtain⟨wv,hv⟩:∃wv,wv=w4'.alloc (.cells (rArr (cfgLit cf) 0 d nx mS false 0 0 mU eb 0) 83):=⟨_,rfl⟩
    obtain⟨rb,hrb⟩:∃rb,rb=w4'.heap.size:=⟨_,rfl⟩
    have hR:Blk wv rb 83 (rArr (cfgLit cf) 0 d nx mS false 0 0 mU eb 0):=by rw[hv,hrb];exact Blk.new _ _ _
    have hH2:Below Bn w3 wv:=by rw[hv];exact hHeld.alloc hz4 _
    have hbk:Below w4'.heap.size w4' wv:=by rw[hv];exact(Below.refl _ _).alloc (Nat.le_refl _) _
    have hne:eb ≠ rb:=by have:=hC.lt;omega
    replace hS:=hS.below hbk hS.lt
    replace hUK:=hUK.keep (hbk.block mU hUK.lt)
    replace hC:=hC.below hbk hC.lt
    rw[←hv,←hrb]
    refine hK.out _ _ hH2 (fun hHeld=>?_)
    clear hK K
    try simp only[Act.put,List.setIfInBounds_toArray,List.set_cons_zero,List.set_cons_succ]
    refine tkH (i:=14) (oi:=⟨some 6,_,_,_,_,_⟩) (v:=.pointer (some ⟨rb,0,none⟩)) rfl (Or.inl ⟨by rfl,fun W hW=>(by rfl)⟩) (by assumption) ?_
    refine wpAnyH_done (by kernel_rfl) ?_ _
    go_wp2
    go_meet
    exact⟨rb,mS,mU,eb,_,rfl,rxnewd_intro cf d nx HD0.out _ rb mS mU eb tt cs (by rw[cfgLit_eq];exact hR) hS hUK hC hne hSU,by omega,hSl,hUB,hEl,hH2⟩
  ·rw[if_pos (by rfl)]
   go_simp
   obtain⟨w1',hv⟩:∃w1',w1'=w0.alloc (.map #[] 0):=⟨_,rfl⟩
   obtain⟨mU,hb⟩:∃mU,mU=w0.heap.size:=⟨_,rfl⟩
   have hH2:Below Bn w3 w1':=by rw[hv];exact hHeld.alloc hz0 _
   have hz1:Bn≤w1'.heap.size:=by rw[hv,World.size_alloc];omega
   have hbk:Below w0.heap.size w0 w1':=by rw[hv];exact(Below.refl _ _).alloc (Nat.le_refl _) _
   have hU:w1'.heap[mU]? = some (.map #[] 0):=by rw[hv,hb];exact World.alloc_heap_new _ _
   have hUl:mU < w1'.heap.size:=by rw[hv,hb,World.size_alloc];omega
   have hUB:Bn≤mU:=by omega
   rw[←hv,←hb]
   clear hv hb hbk
   refine hK.out _ _ hH2 (fun hHeld=>?_)
   clear hK K hH2
   try simp only[Act.put,List.setIfInBounds_toArray,List.set_cons_zero,List.set_cons_succ]
   refine wpAnyH_ready (rs:=[5,9,11]) (by kernel_rfl) (by simp) ?_
   refine AllReadyH.cons (o:=⟨some 22,_,_,_,_,_⟩) rfl (fun K hK=>?_) (AllReadyH.cons (o:=⟨none,_,_,_,_,_⟩) rfl (fun K hK=>?_) (AllReadyH.cons (o:=⟨some 27,_,_,_,_,_⟩) rfl (fun K hK=>?_) AllReadyH.nil))
   ·rw[if_pos (by rfl)]
    go_simp
    obtain⟨w2',hv⟩:∃w2',w2'=w1'.alloc (.map #[] 0):=⟨_,rfl⟩
    obtain⟨mS,hb⟩:∃mS,mS=w1'.heap.size:=⟨_,rfl⟩
    have hH2:Below Bn w3 w2':=by rw[hv];exact hHeld.alloc hz1 _
    have hz2:Bn≤w2'.heap.size:=by rw[hv,World.size_alloc];omega
    have hbk:Below w1'.heap.size w1' w2':=by rw[hv];exact(Below.refl _ _).alloc (Nat.le_refl _) _
    have hSU:mS ≠ mU:=by omega
    replace hU:=(hbk.block mU hUl).trans hU
    replace hUl:mU < w2'.heap.size:=Nat.lt_of_lt_of_le hUl hbk.size
    have hS:SM w2' mS []:=by rw[hv,hb];exact SM.made _
    have hSl:Bn≤mS:=by omega
    rw[←hv,←hb]
    clear hv hb hbk
    refine hK.out _ _ hH2 (fun hHeld=>?_)
    clear hK K hH2
    try simp only[Act.put,List.setIfInBounds_toArray,List.set_cons_zero,List.set_cons_succ]
    refine wpAnyH_ready (rs:=[9,11]) (by kernel_rfl) (by simp) ?_
    refine AllReadyH.cons (o:=⟨none,_,_,_,_,_⟩) rfl (fun K hK=>?_) (AllReadyH.cons (o:=⟨some 27,_,_,_,_,_⟩) rfl (fun K hK=>?_) AllReadyH.nil)
    ·rw[if_pos (by rfl)]
     go_simp
     have hpu:=k_put0 cf.key w2' mU hU
     rw[show(.agg (kArr cf.key):Value)=.agg (kArr cf.key).toList.toArray from rfl]at hpu
     obtain⟨w3',hv⟩:∃w3',w3'=w2'.putObj mU (.map #[{ key:=.agg (kArr cf.key),val:=.bool true,born:=0 }] 1):=⟨_,rfl⟩
     have hkp:KeepF (fun k=>k=mU) w2' w3':=by rw[hv];exact KeepF.of_putObj _ _ _
     have hH2:Below Bn w3 w3':=KeepF.below hHeld hkp (fun k e=>by rw[e];exact hUB) hz2
     have hz3:Bn≤w3'.heap.size:=Nat.le_trans hz2 hkp.size
     have hUK:UK w3' mU [kArr cf.key]:=by rw[hv];exact uk_one _ mU hUl cf.key
     replace hS:=hS.keepF hkp (fun e=>hSU e)
     go_simp
     rw[←hv]
     clear hv hkp hpu hU hUl
     refine hK.out _ _ hH2 (fun hHeld=>?_)
     clear hK K hH2
     try simp only[Act.put,List.setIfInBounds_toArray,List.set_cons_zero,List.set_cons_succ]
     refine tkH (i:=10) (oi:=⟨some 26,_,_,_,_,_⟩) (v:=.map (some mU)) rfl (Or.inl ⟨by rfl,fun W hW=>(by rfl)⟩) (by assumption) ?_
     refine wpAnyH_ready (rs:=[11]) (by kernel_rfl) (by simp) ?_
     refine AllReadyH.cons (o:=⟨some 27,_,_,_,_,_⟩) rfl (fun K hK=>?_) AllReadyH.nil
     rw[if_pos (by rfl)]
     go_simp
     refine(rexp_new w3').mono ?_
     rintro e w4' ⟨rfl,hbk,tt,cs,hC⟩
     obtain⟨eb,heb⟩:∃eb,eb=w3'.heap.size:=⟨_,rfl⟩
     rw[←heb]at hC ⊢
     dsimp only
     have hH2:Below Bn w3 w4':=hHeld.trans (hbk.mono hz3)
     have hz4:Bn≤w4'.heap.size:=Nat.le_trans hz3 hbk.size
     have hEl:Bn≤eb:=by omega
     replace hS:=hS.below hbk hS.lt
     replace hUK:=hUK.keep (hbk.block mU hUK.lt)
     clear heb hbk
     refine hK.out _ _ hH2 (fun hHeld=>?_)
     clear hK K hH2
     try simp only[Act.put,List.setIfInBounds_toArray,List.set_cons_zero,List.set_cons_succ]
     refine tkH (i:=12) (oi:=⟨some 28,_,_,_,_,_⟩) (v:=.agg (rArr (cfgLit cf) 0 d nx mS false 0 0 mU eb 0)) rfl (Or.inl ⟨by rfl,fun W hW=>(by kernel_rfl)⟩) (by assumption) ?_
     refine wpAnyH_ready (rs:=[13]) (by kernel_rfl) (by simp) ?_
     refine AllReadyH.cons (o:=⟨some 29,_,_,_,_,_⟩) rfl (fun K hK=>?_) AllReadyH.nil
     rw[if_pos (by rfl)]
     go_simp
     obtain⟨wv,hv⟩:∃wv,wv=w4'.alloc (.cells (rArr (cfgLit cf) 0 d nx mS false 0 0 mU eb 0) 83):=⟨_,rfl⟩
     obtain⟨rb,hrb⟩:∃rb,rb=w4'.heap.size:=⟨_,rfl⟩
     have hR:Blk wv rb 83 (rArr (cfgLit cf) 0 d nx mS false 0 0 mU eb 0):=by rw[hv,hrb];exact Blk.new _ _ _
     have hH2:Below Bn w3 wv:=by rw[hv];exact hHeld.alloc hz4 _
     have hbk:Below w4'.heap.size w4' wv:=by rw[hv];exact(Below.refl _ _).alloc (Nat.le_refl _) _
     have hne:eb ≠ rb:=by have:=hC.lt;omega
     replace hS:=hS.below hbk hS.lt
     replace hUK:=hUK.keep (hbk.block mU hUK.lt)
     replace hC:=hC.below hbk hC.lt
     rw[←hv,←hrb]
     refine hK.out _ _ hH2 (fun hHeld=>?_)
     clear hK K
     try simp only[Act.put,List.setIfInBounds_toArray,List.set_cons_zero,List.set_cons_succ]
     refine tkH (i:=14) (oi:=⟨some 6,_,_,_,_,_⟩) (v:=.pointer (some ⟨rb,0,none⟩)) rfl (Or.inl ⟨by rfl,fun W hW=>(by rfl)⟩) (by assumption) ?_
     refine wpAnyH_done (by kernel_rfl) ?_ _
     go_wp2
     go_meet
     exact⟨rb,mS,mU,eb,_,rfl,rxnewd_intro cf d nx HD0.out _ rb mS mU eb tt cs (by rw[cfgLit_eq];exact hR) hS hUK hC hne hSU,by omega,hSl,hUB,hEl,hH2⟩
    ·rw[if_pos (by rfl)]
     go_simp
     refine(rexp_new w2').mono ?_
     rintro e w3' ⟨rfl,hbk,tt,cs,hC⟩
     obtain⟨eb,heb⟩:∃eb,eb=w2'.heap.size:=⟨_,rfl⟩
     rw[←heb]at hC ⊢
     dsimp only
     have hH2:Below Bn w3 w3':=hHeld.trans (hbk.mono hz2)
     have hz3:Bn≤w3'.heap.size:=Nat.le_trans hz2 hbk.size
     have hEl:Bn≤eb:=by omega
     replace hS:=hS.below hbk hS.lt
     replace hU:=(hbk.block mU hUl).trans hU
     replace hUl:mU < w3'.heap.size:=Nat.lt_of_lt_of_le hUl hbk.size
     clear heb hbk
     refine hK.out _ _ hH2 (fun hHeld=>?_)
     clear hK K hH2
     try simp only[Act.put,List.setIfInBounds_toArray,List.set_cons_zero,List.set_cons_succ]
     refine wpAnyH_ready (rs:=[9]) (by kernel_rfl) (by simp) ?_
     refine AllReadyH.cons (o:=⟨none,_,_,_,_,_⟩) rfl (fun K hK=>?_) AllReadyH.nil
     rw[if_pos (by rfl)]
     go_simp
     have hpu:=k_put0 cf.key w3' mU hU
     rw[show(.agg (kArr cf.key):Value)=.agg (kArr cf.key).toList.toArray from rfl]at hpu
     obtain⟨w4',hv⟩:∃w4',w4'=w3'.putObj mU (.map #[{ key:=.agg (kArr cf.key),val:=.bool true,born:=0 }] 1):=⟨_,rfl⟩
     have hkp:KeepF (fun k=>k=mU) w3' w4':=by rw[hv];exact KeepF.of_putObj _ _ _
     have hH2:Below Bn w3 w4':=KeepF.below hHeld hkp (fun k e=>by rw[e];exact hUB) hz3
     have hz4:Bn≤w4'.heap.size:=Nat.le_trans hz3 hkp.size
     have hUK:UK w4' mU [kArr cf.key]:=by rw[hv];exact uk_one _ mU hUl cf.key
     replace hS:=hS.keepF hkp (fun e=>hSU e)
     replace hC:=hkp.blk hC (fun e=>by have hX:=show _=_ from hC;rw[e,hU]at hX;cases hX)
     go_simp
     rw[←hv]
     clear hv hkp hpu hU hUl
     refine hK.out _ _ hH2 (fun hHeld=>?_)
     clear hK K hH2
     try simp only[Act.put,List.setIfInBounds_toArray,List.set_cons_zero,List.set_cons_succ]
     refine tkH (i:=10) (oi:=⟨some 26,_,_,_,_,_⟩) (v:=.map (some mU)) rfl (Or.inl ⟨by rfl,fun W hW=>(by rfl)⟩) (by assumption) ?_
     refine tkH (i:=12) (oi:=⟨some 28,_,_,_,_,_⟩) (v:=.agg (rArr (cfgLit cf) 0 d nx mS false 0 0 mU eb 0)) rfl (Or.inl ⟨by rfl,fun W hW=>(by kernel_rfl)⟩) (by assumption) ?_
     refine wpAnyH_ready (rs:=[13]) (by kernel_rfl) (by simp) ?_
     refine AllReadyH.cons (o:=⟨some 29,_,_,_,_,_⟩) rfl (fun K hK=>?_) AllReadyH.nil
     rw[if_pos (by rfl)]
     go_simp
     obtain⟨wv,hv⟩:∃wv,wv=w4'.alloc (.cells (rArr (cfgLit cf) 0 d nx mS false 0 0 mU eb 0) 83):=⟨_,rfl⟩
     obtain⟨rb,hrb⟩:∃rb,rb=w4'.heap.size:=⟨_,rfl⟩
     have hR:Blk wv rb 83 (rArr (cfgLit cf) 0 d nx mS false 0 0 mU eb 0):=by rw[hv,hrb];exact Blk.new _ _ _
     have hH2:Below Bn w3 wv:=by rw[hv];exact hHeld.alloc hz4 _
     have hbk:Below w4'.heap.size w4' wv:=by rw[hv];exact(Below.refl _ _).alloc (Nat.le_refl _) _
     have hne:eb ≠ rb:=by have:=hC.lt;omega
     replace hS:=hS.below hbk hS.lt
     replace hUK:=hUK.keep (hbk.block mU hUK.lt)
     replace hC:=hC.below hbk hC.lt
     rw[←hv,←hrb]
     refine hK.out _ _ hH2 (fun hHeld=>?_)
     clear hK K
     try simp only[Act.put,List.setIfInBounds_toArray,List.set_cons_zero,List.set_cons_succ]
     refine tkH (i:=14) (oi:=⟨some 6,_,_,_,_,_⟩) (v:=.pointer (some ⟨rb,0,none⟩)) rfl (Or.inl ⟨by rfl,fun W hW=>(by rfl)⟩) (by assumption) ?_
     refine wpAnyH_done (by kernel_rfl) ?_ _
     go_wp2
     go_meet
     exact⟨rb,mS,mU,eb,_,rfl,rxnewd_intro cf d nx HD0.out _ rb mS mU eb tt cs (by rw[cfgLit_eq];exact hR) hS hUK hC hne hSU,by omega,hSl,hUB,hEl,hH2⟩
   ·rw[if_pos (by rfl)]
    go_simp
    have hpu:=k_put0 cf.key w1' mU hU
    rw[show(.agg (kArr cf.key):Value)=.agg (kArr cf.key).toList.toArray from rfl]at hpu
    obtain⟨w2',hv⟩:∃w2',w2'=w1'.putObj mU (.map #[{ key:=.agg (kArr cf.key),val:=.bool true,born:=0 }] 1):=⟨_,rfl⟩
    have hkp:KeepF (fun k=>k=mU) w1' w2':=by rw[hv];exact KeepF.of_putObj _ _ _
    have hH2:Below Bn w3 w2':=KeepF.below hHeld hkp (fun k e=>by rw[e];exact hUB) hz1
    have hz2:Bn≤w2'.heap.size:=Nat.le_trans hz1 hkp.size
    have hUK:UK w2' mU [kArr cf.key]:=by rw[hv];exact uk_one _ mU hUl cf.key
    go_simp
    rw[←hv]
    clear hv hkp hpu hU hUl
    refine hK.out _ _ hH2 (fun hHeld=>?_)
    clear hK K hH2
    try simp only[Act.put,List.setIfInBounds_toArray,List.set_cons_zero,List.set_cons_succ]
    refine tkH (i:=10) (oi:=⟨some 26,_,_,_,_,_⟩) (v:=.map (some mU)) rfl (Or.inl ⟨by rfl,fun W hW=>(by rfl)⟩) (by assumption) ?_
    refine wpAnyH_ready (rs:=[5,11]) (by kernel_rfl) (by simp) ?_
    refine AllReadyH.cons (o:=⟨some 22,_,_,_,_,_⟩) rfl (fun K hK=>?_) (AllReadyH.cons (o:=⟨some 27,_,_,_,_,_⟩) rfl (fun K hK=>?_) AllReadyH.nil)
    ·rw[if_pos (by rfl)]
     go_simp
     obtain⟨w3',hv⟩:∃w3',w3'=w2'.alloc (.map #[] 0):=⟨_,rfl⟩
     obtain⟨mS,hb⟩:∃mS,mS=w2'.heap.size:=⟨_,rfl⟩
     have hH2:Below Bn w3 w3':=by rw[hv];exact hHeld.alloc hz2 _
     have hz3:Bn≤w3'.heap.size:=by rw[hv,World.size_alloc];omega
     have hbk:Below w2'.heap.size w2' w3':=by rw[hv];exact(Below.refl _ _).alloc (Nat.le_refl _) _
     have hSU:mS ≠ mU:=by have:=hUK.lt;omega
     replace hUK:=hUK.keep (hbk.block mU hUK.lt)
     have hS:SM w3' mS []:=by rw[hv,hb];exact SM.made _
     have hSl:Bn≤mS:=by omega
     rw[←hv,←hb]
     clear hv hb hbk
     refine hK.out _ _ hH2 (fun hHeld=>?_)
     clear hK K hH2
     try simp only[Act.put,List.setIfInBounds_toArray,List.set_cons_zero,List.set_cons_succ]
     refine wpAnyH_ready (rs:=[11]) (by kernel_rfl) (by simp) ?_
     refine AllReadyH.cons (o:=⟨some 27,_,_,_,_,_⟩) rfl (fun K hK=>?_) AllReadyH.nil
     rw[if_pos (by rfl)]
     go_simp
     refine(rexp_new w3').mono ?_
     rintro e w4' ⟨rfl,hbk,tt,cs,hC⟩
     obtain⟨eb,heb⟩:∃eb,eb=w3'.heap.size:=⟨_,rfl⟩
     rw[←heb]at hC ⊢
     dsimp only
     have hH2:Below Bn w3 w4':=hHeld.trans (hbk.mono hz3)
     have hz4:Bn≤w4'.heap.size:=Nat.le_trans hz3 hbk.size
     have hEl:Bn≤eb:=by omega
     replace hS:=hS.below hbk hS.lt
     replace hUK:=hUK.keep (hbk.block mU hUK.lt)
     clear heb hbk
     refine hK.out _ _ hH2 (fun hHeld=>?_)
     clear hK K hH2
     try simp only[Act.put,List.setIfInBounds_toArray,List.set_cons_zero,List.set_cons_succ]
     refine tkH (i:=12) (oi:=⟨some 28,_,_,_,_,_⟩) (v:=.agg (rArr (cfgLit cf) 0 d nx mS false 0 0 mU eb 0)) rfl (Or.inl ⟨by rfl,fun W hW=>(by kernel_rfl)⟩) (by assumption) ?_
     refine wpAnyH_ready (rs:=[13]) (by kernel_rfl) (by simp) ?_
     refine AllReadyH.cons (o:=⟨some 29,_,_,_,_,_⟩) rfl (fun K hK=>?_) AllReadyH.nil
     rw[if_pos (by rfl)]
     go_simp
     obtain⟨wv,hv⟩:∃wv,wv=w4'.alloc (.cells (rArr (cfgLit cf) 0 d nx mS false 0 0 mU eb 0) 83):=⟨_,rfl⟩
     obtain⟨rb,hrb⟩:∃rb,rb=w4'.heap.size:=⟨_,rfl⟩
     have hR:Blk wv rb 83 (rArr (cfgLit cf) 0 d nx mS false 0 0 mU eb 0):=by rw[hv,hrb];exact Blk.new _ _ _
     have hH2:Below Bn w3 wv:=by rw[hv];exact hHeld.alloc hz4 _
     have hbk:Below w4'.heap.size w4' wv:=by rw[hv];exact(Below.refl _ _).alloc (Nat.le_refl _) _
     have hne:eb ≠ rb:=by have:=hC.lt;omega
     replace hS:=hS.below hbk hS.lt
     replace hUK:=hUK.keep (hbk.block mU hUK.lt)
     replace hC:=hC.below hbk hC.lt
     rw[←hv,←hrb]
     refine hK.out _ _ hH2 (fun hHeld=>?_)
     clear hK K
     try simp only[Act.put,List.setIfInBounds_toArray,List.set_cons_zero,List.set_cons_succ]
     refine tkH (i:=14) (oi:=⟨some 6,_,_,_,_,_⟩) (v:=.pointer (some ⟨rb,0,none⟩)) rfl (Or.inl ⟨by rfl,fun W hW=>(by rfl)⟩) (by assumption) ?_
     refine wpAnyH_done (by kernel_rfl) ?_ _
     go_wp2
     go_meet
     exact⟨rb,mS,mU,eb,_,rfl,rxnewd_intro cf d nx HD0.out _ rb mS mU eb tt cs (by rw[cfgLit_eq];exact hR) hS hUK hC hne hSU,by omega,hSl,hUB,hEl,hH2⟩
    ·rw[if_pos (by rfl)]
     go_simp
     refine(rexp_new w2').mono ?_
     rintro e w3' ⟨rfl,hbk,tt,cs,hC⟩
     obtain⟨eb,heb⟩:∃eb,eb=w2'.heap.size:=⟨_,rfl⟩
     rw[←heb]at hC ⊢
     dsimp only
     have hH2:Below Bn w3 w3':=hHeld.trans (hbk.mono hz2)
     have hz3:Bn≤w3'.heap.size:=Nat.le_trans hz2 hbk.size
     have hEl:Bn≤eb:=by omega
     replace hUK:=hUK.keep (hbk.block mU hUK.lt)
     clear heb hbk
     refine hK.out _ _ hH2 (fun hHeld=>?_)
     clear hK K hH2
     try simp only[Act.put,List.setIfInBounds_toArray,List.set_cons_zero,List.set_cons_succ]
     refine wpAnyH_ready (rs:=[5]) (by kernel_rfl) (by simp) ?_
     refine AllReadyH.cons (o:=⟨some 22,_,_,_,_,_⟩) rfl (fun K hK=>?_) AllReadyH.nil
     rw[if_pos (by rfl)]
     go_simp
     obtain⟨w4',hv⟩:∃w4',w4'=w3'.alloc (.map #[] 0):=⟨_,rfl⟩
     obtain⟨mS,hb⟩:∃mS,mS=w3'.heap.size:=⟨_,rfl⟩
     have hH2:Below Bn w3 w4':=by rw[hv];exact hHeld.alloc hz3 _
     have hz4:Bn≤w4'.heap.size:=by rw[hv,World.size_alloc];omega
     have hbk:Below w3'.heap.size w3' w4':=by rw[hv];exact(Below.refl _ _).alloc (Nat.le_refl _) _
     have hSU:mS ≠ mU:=by have:=hUK.lt;omega
     replace hUK:=hUK.keep (hbk.block mU hUK.lt)
     replace hC:=hC.below hbk hC.lt
     have hS:SM w4' mS []:=by rw[hv,hb];exact SM.made _
     have hSl:Bn≤mS:=by omega
     rw[←hv,←hb]
     clear hv hb hbk
     refine hK.out _ _ hH2 (fun hHeld=>?_)
     clear hK K hH2
     try simp only[Act.put,List.setIfInBounds_toArray,List.set_cons_zero,List.set_cons_succ]
     refine tkH (i:=12) (oi:=⟨some 28,_,_,_,_,_⟩) (v:=.agg (rArr (cfgLit cf) 0 d nx mS false 0 0 mU eb 0)) rfl (Or.inl ⟨by rfl,fun W hW=>(by kernel_rfl)⟩) (by assumption) ?_
     refine wpAnyH_ready (rs:=[13]) (by kernel_rfl) (by simp) ?_
     refine AllReadyH.cons (o:=⟨some 29,_,_,_,_,_⟩) rfl (fun K hK=>?_) AllReadyH.nil
     rw[if_pos (by rfl)]
     go_simp
     obtain⟨wv,hv⟩:∃wv,wv=w4'.alloc (.cells (rArr (cfgLit cf) 0 d nx mS false 0 0 mU eb 0) 83):=⟨_,rfl⟩
     obtain⟨rb,hrb⟩:∃rb,rb=w4'.heap.size:=⟨_,rfl⟩
     have hR:Blk wv rb 83 (rArr (cfgLit cf) 0 d nx mS false 0 0 mU eb 0):=by rw[hv,hrb];exact Blk.new _ _ _
     have hH2:Below Bn w3 wv:=by rw[hv];exact hHeld.alloc hz4 _
     have hbk:Below w4'.heap.size w4' wv:=by rw[hv];exact(Below.refl _ _).alloc (Nat.le_refl _) _
     have hne:eb ≠ rb:=by have:=hC.lt;omega
     replace hS:=hS.below hbk hS.lt
     replace hUK:=hUK.keep (hbk.block mU hUK.lt)
     replace hC:=hC.below hbk hC.lt
     rw[←hv,←hrb]
     refine hK.out _ _ hH2 (fun hHeld=>?_)
     clear hK K
     try simp only[Act.put,List.setIfInBounds_toArray,List.set_cons_zero,List.set_cons_succ]
     refine tkH (i:=14) (oi:=⟨some 6,_,_,_,_,_⟩) (v:=.pointer (some ⟨rb,0,none⟩)) rfl (Or.inl ⟨by rfl,fun W hW=>(by rfl)⟩) (by assumption) ?_
     refine wpAnyH_done (by kernel_rfl) ?_ _
     go_wp2
     go_meet
     exact⟨rb,mS,mU,eb,_,rfl,rxnewd_intro cf d nx HD0.out _ rb mS mU eb tt cs (by rw[cfgLit_eq];exact hR) hS hUK hC hne hSU,by omega,hSl,hUB,hEl,hH2⟩
   ·rw[if_pos (by rfl)]
    go_simp
    refine(rexp_new w1').mono ?_
    rintro e w2' ⟨rfl,hbk,tt,cs,hC⟩
    obtain⟨eb,heb⟩:∃eb,eb=w1'.heap.size:=⟨_,rfl⟩
    rw[←heb]at hC ⊢
    dsimp only
    have hH2:Below Bn w3 w2':=hHeld.trans (hbk.mono hz1)
    have hz2:Bn≤w2'.heap.size:=Nat.le_trans hz1 hbk.size
    have hEl:Bn≤eb:=by omega
    replace hU:=(hbk.block mU hUl).trans hU
    replace hUl:mU < w2'.heap.size:=Nat.lt_of_lt_of_le hUl hbk.size
    clear heb hbk
    refine hK.out _ _ hH2 (fun hHeld=>?_)
    clear hK K hH2
    try simp only[Act.put,List.setIfInBounds_toArray,List.set_cons_zero,List.set_cons_succ]
    refine wpAnyH_ready (rs:=[5,9]) (by kernel_rfl) (by simp) ?_
    refine AllReadyH.cons (o:=⟨some 22,_,_,_,_,_⟩) rfl (fun K hK=>?_) (AllReadyH.cons (o:=⟨none,_,_,_,_,_⟩) rfl (fun K hK=>?_) AllReadyH.nil)
    ·rw[if_pos (by rfl)]
     go_simp
     obtain⟨w3',hv⟩:∃w3',w3'=w2'.alloc (.map #[] 0):=⟨_,rfl⟩
     obtain⟨mS,hb⟩:∃mS,mS=w2'.heap.size:=⟨_,rfl⟩
     have hH2:Below Bn w3 w3':=by rw[hv];exact hHeld.alloc hz2 _
     have hz3:Bn≤w3'.heap.size:=by rw[hv,World.size_alloc];omega
     have hbk:Below w2'.heap.size w2' w3':=by rw[hv];exact(Below.refl _ _).alloc (Nat.le_refl _) _
     have hSU:mS ≠ mU:=by omega
     replace hU:=(hbk.block mU hUl).trans hU
     replace hUl:mU < w3'.heap.size:=Nat.lt_of_lt_of_le hUl hbk.size
     replace hC:=hC.below hbk hC.lt
     have hS:SM w3' mS []:=by rw[hv,hb];exact SM.made _
     have hSl:Bn≤mS:=by omega
     rw[←hv,←hb]
     clear hv hb hbk
     refine hK.out _ _ hH2 (fun hHeld=>?_)
     clear hK K hH2
     try simp only[Act.put,List.setIfInBounds_toArray,List.set_cons_zero,List.set_cons_succ]
     refine wpAnyH_ready (rs:=[9]) (by kernel_rfl) (by simp) ?_
     refine AllReadyH.cons (o:=⟨none,_,_,_,_,_⟩) rfl (fun K hK=>?_) AllReadyH.nil
     rw[if_pos (by rfl)]
     go_simp
     have hpu:=k_put0 cf.key w3' mU hU
     rw[show(.agg (kArr cf.key):Value)=.agg (kArr cf.key).toList.toArray from rfl]at hpu
     obtain⟨w4',hv⟩:∃w4',w4'=w3'.putObj mU (.map #[{ key:=.agg (kArr cf.key),val:=.bool true,born:=0 }] 1):=⟨_,rfl⟩
     have hkp:KeepF (fun k=>k=mU) w3' w4':=by rw[hv];exact KeepF.of_putObj _ _ _
     have hH2:Below Bn w3 w4':=KeepF.below hHeld hkp (fun k e=>by rw[e];exact hUB) hz3
     have hz4:Bn≤w4'.heap.size:=Nat.le_trans hz3 hkp.size
     have hUK:UK w4' mU [kArr cf.key]:=by rw[hv];exact uk_one _ mU hUl cf.key
     replace hS:=hS.keepF hkp (fun e=>hSU e)
     replace hC:=hkp.blk hC (fun e=>by have hX:=show _=_ from hC;rw[e,hU]at hX;cases hX)
     go_simp
     rw[←hv]
     clear hv hkp hpu hU hUl
     refine hK.out _ _ hH2 (fun hHeld=>?_)
     clear hK K hH2
     try simp only[Act.put,List.setIfInBounds_toArray,List.set_cons_zero,List.set_cons_succ]
     refine tkH (i:=10) (oi:=⟨some 26,_,_,_,_,_⟩) (v:=.map (some mU)) rfl (Or.inl ⟨by rfl,fun W hW=>(by rfl)⟩) (by assumption) ?_
     refine tkH (i:=12) (oi:=⟨some 28,_,_,_,_,_⟩) (v:=.agg (rArr (cfgLit cf) 0 d nx mS false 0 0 mU eb 0)) rfl (Or.inl ⟨by rfl,fun W hW=>(by kernel_rfl)⟩) (by assumption) ?_
     refine wpAnyH_ready (rs:=[13]) (by kernel_rfl) (by simp) ?_
     refine AllReadyH.cons (o:=⟨some 29,_,_,_,_,_⟩) rfl (fun K hK=>?_) AllReadyH.nil
     rw[if_pos (by rfl)]
     go_simp
     obtain⟨wv,hv⟩:∃wv,wv=w4'.alloc (.cells (rArr (cfgLit cf) 0 d nx mS false 0 0 mU eb 0) 83):=⟨_,rfl⟩
     obtain⟨rb,hrb⟩:∃rb,rb=w4'.heap.size:=⟨_,rfl⟩
     have hR:Blk wv rb 83 (rArr (cfgLit cf) 0 d nx mS false 0 0 mU eb 0):=by rw[hv,hrb];exact Blk.new _ _ _
     have hH2:Below Bn w3 wv:=by rw[hv];exact hHeld.alloc hz4 _
     have hbk:Below w4'.heap.size w4' wv:=by rw[hv];exact(Below.refl _ _).alloc (Nat.le_refl _) _
     have hne:eb ≠ rb:=by have:=hC.lt;omega
     replace hS:=hS.below hbk hS.lt
     replace hUK:=hUK.keep (hbk.block mU hUK.lt)
     replace hC:=hC.below hbk hC.lt
     rw[←hv,←hrb]
     refine hK.out _ _ hH2 (fun hHeld=>?_)
     clear hK K
     try simp only[Act.put,List.setIfInBounds_toArray,List.set_cons_zero,List.set_cons_succ]
     refine tkH (i:=14) (oi:=⟨some 6,_,_,_,_,_⟩) (v:=.pointer (some ⟨rb,0,none⟩)) rfl (Or.inl ⟨by rfl,fun W hW=>(by rfl)⟩) (by assumption) ?_
     refine wpAnyH_done (by kernel_rfl) ?_ _
     go_wp2
     go_meet
     exact⟨rb,mS,mU,eb,_,rfl,rxnewd_intro cf d nx HD0.out _ rb mS mU eb tt cs (by rw[cfgLit_eq];exact hR) hS hUK hC hne hSU,by omega,hSl,hUB,hEl,hH2⟩
    ·rw[if_pos (by rfl)]
     go_simp
     have hpu:=k_put0 cf.key w2' mU hU
     rw[show(.agg (kArr cf.key):Value)=.agg (kArr cf.key).toList.toArray from rfl]at hpu
     obtain⟨w3',hv⟩:∃w3',w3'=w2'.putObj mU (.map #[{ key:=.agg (kArr cf.key),val:=.bool true,born:=0 }] 1):=⟨_,rfl⟩
     have hkp:KeepF (fun k=>k=mU) w2' w3':=by rw[hv];exact KeepF.of_putObj _ _ _
     have hH2:Below Bn w3 w3':=KeepF.below hHeld hkp (fun k e=>by rw[e];exact hUB) hz2
     have hz3:Bn≤w3'.heap.size:=Nat.le_trans hz2 hkp.size
     have hUK:UK w3' mU [kArr cf.key]:=by rw[hv];exact uk_one _ mU hUl cf.key
     replace hC:=hkp.blk hC (fun e=>by have hX:=show _=_ from hC;rw[e,hU]at hX;cases hX)
     go_simp
     rw[←hv]
     clear hv hkp hpu hU hUl
     refine hK.out _ _ hH2 (fun hHeld=>?_)
     clear hK K hH2
     try simp only[Act.put,List.setIfInBounds_toArray,List.set_cons_zero,List.set_cons_succ]
     refine tkH (i:=10) (oi:=⟨some 26,_,_,_,_,_⟩) (v:=.map (some mU)) rfl (Or.inl ⟨by rfl,fun W hW=>(by rfl)⟩) (by assumption) ?_
     refine wpAnyH_ready (rs:=[5]) (by kernel_rfl) (by simp) ?_
     refine AllReadyH.cons (o:=⟨some 22,_,_,_,_,_⟩) rfl (fun K hK=>?_) AllReadyH.nil
     rw[if_pos (by rfl)]
     go_simp
     obtain⟨w4',hv⟩:∃w4',w4'=w3'.alloc (.map #[] 0):=⟨_,rfl⟩
     obtain⟨mS,hb⟩:∃mS,mS=w3'.heap.size:=⟨_,rfl⟩
     have hH2:Below Bn w3 w4':=by rw[hv];exact hHeld.alloc hz3 _
     have hz4:Bn≤w4'.heap.size:=by rw[hv,World.size_alloc];omega
     have hbk:Below w3'.heap.size w3' w4':=by rw[hv];exact(Below.refl _ _).alloc (Nat.le_refl _) _
     have hSU:mS ≠ mU:=by have:=hUK.lt;omega
     replace hUK:=hUK.keep (hbk.block mU hUK.lt)
     replace hC:=hC.below hbk hC.lt
     have hS:SM w4' mS []:=by rw[hv,hb];exact SM.made _
     have hSl:Bn≤mS:=by omega
     rw[←hv,←hb]
     clear hv hb hbk
     refine hK.out _ _ hH2 (fun hHeld=>?_)
     clear hK K hH2
     try simp only[Act.put,List.setIfInBounds_toArray,List.set_cons_zero,List.set_cons_succ]
     refine tkH (i:=12) (oi:=⟨some 28,_,_,_,_,_⟩) (v:=.agg (rArr (cfgLit cf) 0 d nx mS false 0 0 mU eb 0)) rfl (Or.inl ⟨by rfl,fun W hW=>(by kernel_rfl)⟩) (by assumption) ?_
     refine wpAnyH_ready (rs:=[13]) (by kernel_rfl) (by simp) ?_
     refine AllReadyH.cons (o:=⟨some 29,_,_,_,_,_⟩) rfl (fun K hK=>?_) AllReadyH.nil
     rw[if_pos (by rfl)]
     go_simp
     obtain⟨wv,hv⟩:∃wv,wv=w4'.alloc (.cells (rArr (cfgLit cf) 0 d nx mS false 0 0 mU eb 0) 83):=⟨_,rfl⟩
     obtain⟨rb,hrb⟩:∃rb,rb=w4'.heap.size:=⟨_,rfl⟩
     have hR:Blk wv rb 83 (rArr (cfgLit cf) 0 d nx mS false 0 0 mU eb 0):=by rw[hv,hrb];exact Blk.new _ _ _
     have hH2:Below Bn w3 wv:=by rw[hv];exact hHeld.alloc hz4 _
     have hbk:Below w4'.heap.size w4' wv:=by rw[hv];exact(Below.refl _ _).alloc (Nat.le_refl _) _
     have hne:eb ≠ rb:=by have:=hC.lt;omega
     replace hS:=hS.below hbk hS.lt
     replace hUK:=hUK.keep (hbk.block mU hUK.lt)
     replace hC:=hC.below hbk hC.lt
     rw[←hv,←hrb]
     refine hK.out _ _ hH2 (fun hHeld=>?_)
     clear hK K
     try simp only[Act.put,List.setIfInBounds_toArray,List.set_cons_zero,List.set_cons_succ]
     refine tkH (i:=14) (oi:=⟨some 6,_,_,_,_,_⟩) (v:=.pointer (some ⟨rb,0,none⟩)) rfl (Or.inl ⟨by rfl,fun W hW=>(by rfl)⟩) (by assumption) ?_
     refine wpAnyH_done (by kernel_rfl) ?_ _
     go_wp2
     go_meet
     exact⟨rb,mS,mU,eb,_,rfl,rxnewd_intro cf d nx HD0.out _ rb mS mU eb tt cs (by rw[cfgLit_eq];exact hR) hS hUK hC hne hSU,by omega,hSl,hUB,hEl,hH2⟩
  ·rw[if_pos (by rfl)]
   go_simp
   refine(rexp_new w0).mono ?_
   rintro e w1' ⟨rfl,hbk,tt,cs,hC⟩
   obtain⟨eb,heb⟩:∃eb,eb=w0.heap.size:=⟨_,rfl⟩
   rw[←heb]at hC ⊢
   dsimp only
   have hH2:Below Bn w3 w1':=hHeld.trans (hbk.mono hz0)
   have hz1:Bn≤w1'.heap.size:=Nat.le_trans hz0 hbk.size
   have hEl:Bn≤eb:=by omega
   clear heb hbk
   refine hK.out _ _ hH2 (fun hHeld=>?_)
   clear hK K hH2
   try simp only[Act.put,List.setIfInBounds_toArray,List.set_cons_zero,List.set_cons_succ]
   refine wpAnyH_ready (rs:=[5,6]) (by kernel_rfl) (by simp) ?_
   refine AllReadyH.cons (o:=⟨some 22,_,_,_,_,_⟩) rfl (fun K hK=>?_) (AllReadyH.cons (o:=⟨some 23,_,_,_,_,_⟩) rfl (fun K hK=>?_) AllReadyH.nil)
   ·rw[if_pos (by rfl)]
    go_simp
    obtain⟨w2',hv⟩:∃w2',w2'=w1'.alloc (.map #[] 0):=⟨_,rfl⟩
    obtain⟨mS,hb⟩:∃mS,mS=w1'.heap.size:=⟨_,rfl⟩
    have hH2:Below Bn w3 w2':=by rw[hv];exact hHeld.alloc hz1 _
    have hz2:Bn≤w2'.heap.size:=by rw[hv,World.size_alloc];omega
    have hbk:Below w1'.heap.size w1' w2':=by rw[hv];exact(Below.refl _ _).alloc (Nat.le_refl _) _
    replace hC:=hC.below hbk hC.lt
    have hS:SM w2' mS []:=by rw[hv,hb];exact SM.made _
    have hSl:Bn≤mS:=by omega
    rw[←hv,←hb]
    clear hv hb hbk
    refine hK.out _ _ hH2 (fun hHeld=>?_)
    clear hK K hH2
    try simp only[Act.put,List.setIfInBounds_toArray,List.set_cons_zero,List.set_cons_succ]
    refine wpAnyH_ready (rs:=[6]) (by kernel_rfl) (by simp) ?_
    refine AllReadyH.cons (o:=⟨some 23,_,_,_,_,_⟩) rfl (fun K hK=>?_) AllReadyH.nil
    rw[if_pos (by rfl)]
    go_simp
    obtain⟨w3',hv⟩:∃w3',w3'=w2'.alloc (.map #[] 0):=⟨_,rfl⟩
    obtain⟨mU,hb⟩:∃mU,mU=w2'.heap.size:=⟨_,rfl⟩
    have hH2:Below Bn w3 w3':=by rw[hv];exact hHeld.alloc hz2 _
    have hz3:Bn≤w3'.heap.size:=by rw[hv,World.size_alloc];omega
    have hbk:Below w2'.heap.size w2' w3':=by rw[hv];exact(Below.refl _ _).alloc (Nat.le_refl _) _
    have hSU:mS ≠ mU:=by have:=hS.lt;omega
    replace hS:=hS.below hbk hS.lt
    replace hC:=hC.below hbk hC.lt
    have hU:w3'.heap[mU]? = some (.map #[] 0):=by rw[hv,hb];exact World.alloc_heap_new _ _
    have hUl:mU < w3'.heap.size:=by rw[hv,hb,World.size_alloc];omega
    have hUB:Bn≤mU:=by omega
    rw[←hv,←hb]
    clear hv hb hbk
    refine hK.out _ _ hH2 (fun hHeld=>?_)
    clear hK K hH2
    try simp only[Act.put,List.setIfInBounds_toArray,List.set_cons_zero,List.set_cons_succ]
    refine wpAnyH_ready (rs:=[9]) (by kernel_rfl) (by simp) ?_
    refine AllReadyH.cons (o:=⟨none,_,_,_,_,_⟩) rfl (fun K hK=>?_) AllReadyH.nil
    rw[if_pos (by rfl)]
    go_simp
    have hpu:=k_put0 cf.key w3' mU hU
    rw[show(.agg (kArr cf.key):Value)=.agg (kArr cf.key).toList.toArray from rfl]at hpu
    obtain⟨w4',hv⟩:∃w4',w4'=w3'.putObj mU (.map #[{ key:=.agg (kArr cf.key),val:=.bool true,born:=0 }] 1):=⟨_,rfl⟩
    have hkp:KeepF (fun k=>k=mU) w3' w4':=by rw[hv];exact KeepF.of_putObj _ _ _
    have hH2:Below Bn w3 w4':=KeepF.below hHeld hkp (fun k e=>by rw[e];exact hUB) hz3
    have hz4:Bn≤w4'.heap.size:=Nat.le_trans hz3 hkp.size
    have hUK:UK w4' mU [kArr cf.key]:=by rw[hv];exact uk_one _ mU hUl cf.key
    replace hS:=hS.keepF hkp (fun e=>hSU e)
    replace hC:=hkp.blk hC (fun e=>by have hX:=show _=_ from hC;rw[e,hU]at hX;cases hX)
    go_simp
    rw[←hv]
    clear hv hkp hpu hU hUl
    refine hK.out _ _ hH2 (fun hHeld=>?_)
    clear hK K hH2
    try simp only[Act.put,List.setIfInBounds_toArray,List.set_cons_zero,List.set_cons_succ]
    refine tkH (i:=10) (oi:=⟨some 26,_,_,_,_,_⟩) (v:=.map (some mU)) rfl (Or.inl ⟨by rfl,fun W hW=>(by rfl)⟩) (by assumption) ?_
    refine tkH (i:=12) (oi:=⟨some 28,_,_,_,_,_⟩) (v:=.agg (rArr (cfgLit cf) 0 d nx mS false 0 0 mU eb 0)) rfl (Or.inl ⟨by rfl,fun W hW=>(by kernel_rfl)⟩) (by assumption) ?_
    refine wpAnyH_ready (rs:=[13]) (by kernel_rfl) (by simp) ?_
    refine AllReadyH.cons (o:=⟨some 29,_,_,_,_,_⟩) rfl (fun K hK=>?_) AllReadyH.nil
    rw[if_pos (by rfl)]
    go_simp
    obtain⟨wv,hv⟩:∃wv,wv=w4'.alloc (.cells (rArr (cfgLit cf) 0 d nx mS false 0 0 mU eb 0) 83):=⟨_,rfl⟩
    obtain⟨rb,hrb⟩:∃rb,rb=w4'.heap.size:=⟨_,rfl⟩
    have hR:Blk wv rb 83 (rArr (cfgLit cf) 0 d nx mS false 0 0 mU eb 0):=by rw[hv,hrb];exact Blk.new _ _ _
    have hH2:Below Bn w3 wv:=by rw[hv];exact hHeld.alloc hz4 _
    have hbk:Below w4'.heap.size w4' wv:=by rw[hv];exact(Below.refl _ _).alloc (Nat.le_refl _) _
    have hne:eb ≠ rb:=by have:=hC.lt;omega
    replace hS:=hS.below hbk hS.lt
    replace hUK:=hUK.keep (hbk.block mU hUK.lt)
    replace hC:=hC.below hbk hC.lt
    rw[←hv,←hrb]
    refine hK.out _ _ hH2 (fun hHeld=>?_)
    clear hK K
    try simp only[Act.put,List.setIfInBounds_toArray,List.set_cons_zero,List.set_cons_succ]
    refine tkH (i:=14) (oi:=⟨some 6,_,_,_,_,_⟩) (v:=.pointer (some ⟨rb,0,none⟩)) rfl (Or.inl ⟨by rfl,fun W hW=>(by rfl)⟩) (by assumption) ?_
    refine wpAnyH_done (by kernel_rfl) ?_ _
    go_wp2
    go_meet
    exact⟨rb,mS,mU,eb,_,rfl,rxnewd_intro cf d nx HD0.out _ rb mS mU eb tt cs (by rw[cfgLit_eq];exact hR) hS hUK hC hne hSU,by omega,hSl,hUB,hEl,hH2⟩
   ·rw[if_pos (by rfl)]
    go_simp
    obtain⟨w2',hv⟩:∃w2',w2'=w1'.alloc (.map #[] 0):=⟨_,rfl⟩
    obtain⟨mU,hb⟩:∃mU,mU=w1'.heap.size:=⟨_,rfl⟩
    have hH2:Below Bn w3 w2':=by rw[hv];exact hHeld.alloc hz1 _
    have hz2:Bn≤w2'.heap.size:=by rw[hv,World.size_alloc];omega
    have hbk:Below w1'.heap.size w1' w2':=by rw[hv];exact(Below.refl _ _).alloc (Nat.le_refl _) _
    replace hC:=hC.below hbk hC.lt
    have hU:w2'.heap[mU]? = some (.map #[] 0):=by rw[hv,hb];exact World.alloc_heap_new _ _
    have hUl:mU < w2'.heap.size:=by rw[hv,hb,World.size_alloc];omega
    have hUB:Bn≤mU:=by omega
    rw[←hv,←hb]
    clear hv hb hbk
    refine hK.out _ _ hH2 (fun hHeld=>?_)
    clear hK K hH2
    try simp only[Act.put,List.setIfInBounds_toArray,List.set_cons_zero,List.set_cons_succ]
    refine wpAnyH_ready (rs:=[5,9]) (by kernel_rfl) (by simp) ?_
    refine AllReadyH.cons (o:=⟨some 22,_,_,_,_,_⟩) rfl (fun K hK=>?_) (AllReadyH.cons (o:=⟨none,_,_,_,_,_⟩) rfl (fun K hK=>?_) AllReadyH.nil)
    ·rw[if_pos (by rfl)]
     go_simp
     obtain⟨w3',hv⟩:∃w3',w3'=w2'.alloc (.map #[] 0):=⟨_,rfl⟩
     obtain⟨mS,hb⟩:∃mS,mS=w2'.heap.size:=⟨_,rfl⟩
     have hH2:Below Bn w3 w3':=by rw[hv];exact hHeld.alloc hz2 _
     have hz3:Bn≤w3'.heap.size:=by rw[hv,World.size_alloc];omega
     have hbk:Below w2'.heap.size w2' w3':=by rw[hv];exact(Below.refl _ _).alloc (Nat.le_refl _) _
     have hSU:mS ≠ mU:=by omega
     replace hU:=(hbk.block mU hUl).trans hU
     replace hUl:mU < w3'.heap.size:=Nat.lt_of_lt_of_le hUl hbk.size
     replace hC:=hC.below hbk hC.lt
     have hS:SM w3' mS []:=by rw[hv,hb];exact SM.made _
     have hSl:Bn≤mS:=by omega
     rw[←hv,←hb]
     clear hv hb hbk
     refine hK.out _ _ hH2 (fun hHeld=>?_)
     clear hK K hH2
     try simp only[Act.put,List.setIfInBounds_toArray,List.set_cons_zero,List.set_cons_succ]
     refine wpAnyH_ready (rs:=[9]) (by kernel_rfl) (by simp) ?_
     refine AllReadyH.cons (o:=⟨none,_,_,_,_,_⟩) rfl (fun K hK=>?_) AllReadyH.nil
     rw[if_pos (by rfl)]
     go_simp
     have hpu:=k_put0 cf.key w3' mU hU
     rw[show(.agg (kArr cf.key):Value)=.agg (kArr cf.key).toList.toArray from rfl]at hpu
     obtain⟨w4',hv⟩:∃w4',w4'=w3'.putObj mU (.map #[{ key:=.agg (kArr cf.key),val:=.bool true,born:=0 }] 1):=⟨_,rfl⟩
     have hkp:KeepF (fun k=>k=mU) w3' w4':=by rw[hv];exact KeepF.of_putObj _ _ _
     have hH2:Below Bn w3 w4':=KeepF.below hHeld hkp (fun k e=>by rw[e];exact hUB) hz3
     have hz4:Bn≤w4'.heap.size:=Nat.le_trans hz3 hkp.size
     have hUK:UK w4' mU [kArr cf.key]:=by rw[hv];exact uk_one _ mU hUl cf.key
     replace hS:=hS.keepF hkp (fun e=>hSU e)
     replace hC:=hkp.blk hC (fun e=>by have hX:=show _=_ from hC;rw[e,hU]at hX;cases hX)
     go_simp
     rw[←hv]
     clear hv hkp hpu hU hUl
     refine hK.out _ _ hH2 (fun hHeld=>?_)
     clear hK K hH2
     try simp only[Act.put,List.setIfInBounds_toArray,List.set_cons_zero,List.set_cons_succ]
     refine tkH (i:=10) (oi:=⟨some 26,_,_,_,_,_⟩) (v:=.map (some mU)) rfl (Or.inl ⟨by rfl,fun W hW=>(by rfl)⟩) (by assumption) ?_
     refine tkH (i:=12) (oi:=⟨some 28,_,_,_,_,_⟩) (v:=.agg (rArr (cfgLit cf) 0 d nx mS false 0 0 mU eb 0)) rfl (Or.inl ⟨by rfl,fun W hW=>(by kernel_rfl)⟩) (by assumption) ?_
     refine wpAnyH_ready (rs:=[13]) (by kernel_rfl) (by simp) ?_
     refine AllReadyH.cons (o:=⟨some 29,_,_,_,_,_⟩) rfl (fun K hK=>?_) AllReadyH.nil
     rw[if_pos (by rfl)]
     go_simp
     obtain⟨wv,hv⟩:∃wv,wv=w4'.alloc (.cells (rArr (cfgLit cf) 0 d nx mS false 0 0 mU eb 0) 83):=⟨_,rfl⟩
     obtain⟨rb,hrb⟩:∃rb,rb=w4'.heap.size:=⟨_,rfl⟩
     have hR:Blk wv rb 83 (rArr (cfgLit cf) 0 d nx mS false 0 0 mU eb 0):=by rw[hv,hrb];exact Blk.new _ _ _
     have hH2:Below Bn w3 wv:=by rw[hv];exact hHeld.alloc hz4 _
     have hbk:Below w4'.heap.size w4' wv:=by rw[hv];exact(Below.refl _ _).alloc (Nat.le_refl _) _
     have hne:eb ≠ rb:=by have:=hC.lt;omega
     replace hS:=hS.below hbk hS.lt
     replace hUK:=hUK.keep (hbk.block mU hUK.lt)
     replace hC:=hC.below hbk hC.lt
     rw[←hv,←hrb]
     refine hK.out _ _ hH2 (fun hHeld=>?_)
     clear hK K
     try simp only[Act.put,List.setIfInBounds_toArray,List.set_cons_zero,List.set_cons_succ]
     refine tkH (i:=14) (oi:=⟨some 6,_,_,_,_,_⟩) (v:=.pointer (some ⟨rb,0,none⟩)) rfl (Or.inl ⟨by rfl,fun W hW=>(by rfl)⟩) (by assumption) ?_
     refine wpAnyH_done (by kernel_rfl) ?_ _
     go_wp2
     go_meet
     exact⟨rb,mS,mU,eb,_,rfl,rxnewd_intro cf d nx HD0.out _ rb mS mU eb tt cs (by rw[cfgLit_eq];exact hR) hS hUK hC hne hSU,by omega,hSl,hUB,hEl,hH2⟩
    ·rw[if_pos (by rfl)]
     go_simp
     have hpu:=k_put0 cf.key w2' mU hU
     rw[show(.agg (kArr cf.key):Value)=.agg (kArr cf.key).toList.toArray from rfl]at hpu
     obtain⟨w3',hv⟩:∃w3',w3'=w2'.putObj mU (.map #[{ key:=.agg (kArr cf.key),val:=.bool true,born:=0 }] 1):=⟨_,rfl⟩
     have hkp:KeepF (fun k=>k=mU) w2' w3':=by rw[hv];exact KeepF.of_putObj _ _ _
     have hH2:Below Bn w3 w3':=KeepF.below hHeld hkp (fun k e=>by rw[e];exact hUB) hz2
     have hz3:Bn≤w3'.heap.size:=Nat.le_trans hz2 hkp.size
     have hUK:UK w3' mU [kArr cf.key]:=by rw[hv];exact uk_one _ mU hUl cf.key
     replace hC:=hkp.blk hC (fun e=>by have hX:=show _=_ from hC;rw[e,hU]at hX;cases hX)
     go_simp
     rw[←hv]
     clear hv hkp hpu hU hUl
     refine hK.out _ _ hH2 (fun hHeld=>?_)
     clear hK K hH2
     try simp only[Act.put,List.setIfInBounds_toArray,List.set_cons_zero,List.set_cons_succ]
     refine tkH (i:=10) (oi:=⟨some 26,_,_,_,_,_⟩) (v:=.map (some mU)) rfl (Or.inl ⟨by rfl,fun W hW=>(by rfl)⟩) (by assumption) ?_
     refine wpAnyH_ready (rs:=[5]) (by kernel_rfl) (by simp) ?_
     refine AllReadyH.cons (o:=⟨some 22,_,_,_,_,_⟩) rfl (fun K hK=>?_) AllReadyH.nil
     rw[if_pos (by rfl)]
     go_simp
     obtain⟨w4',hv⟩:∃w4',w4'=w3'.alloc (.map #[] 0):=⟨_,rfl⟩
     obtain⟨mS,hb⟩:∃mS,mS=w3'.heap.size:=⟨_,rfl⟩
     have hH2:Below Bn w3 w4':=by rw[hv];exact hHeld.alloc hz3 _
     have hz4:Bn≤w4'.heap.size:=by rw[hv,World.size_alloc];omega
     have hbk:Below w3'.heap.size w3' w4':=by rw[hv];exact(Below.refl _ _).alloc (Nat.le_refl _) _
     have hSU:mS ≠ mU:=by have:=hUK.lt;omega
     replace hUK:=hUK.keep (hbk.block mU hUK.lt)
     replace hC:=hC.below hbk hC.lt
     have hS:SM w4' mS []:=by rw[hv,hb];exact SM.made _
     have hSl:Bn≤mS:=by omega
     rw[←hv,←hb]
     clear hv hb hbk
     refine hK.out _ _ hH2 (fun hHeld=>?_)
     clear hK K hH2
     try simp only[Act.put,List.setIfInBounds_toArray,List.set_cons_zero,List.set_cons_succ]
     refine tkH (i:=12) (oi:=⟨some 28,_,_,_,_,_⟩) (v:=.agg (rArr (cfgLit cf) 0 d nx mS false 0 0 mU eb 0)) rfl (Or.inl ⟨by rfl,fun W hW=>(by kernel_rfl)⟩) (by assumption) ?_
     refine wpAnyH_ready (rs:=[13]) (by kernel_rfl) (by simp) ?_
     refine AllReadyH.cons (o:=⟨some 29,_,_,_,_,_⟩) rfl (fun K hK=>?_) AllReadyH.nil
     rw[if_pos (by rfl)]
     go_simp
     obtain⟨wv,hv⟩:∃wv,wv=w4'.alloc (.cells (rArr (cfgLit cf) 0 d nx mS false 0 0 mU eb 0) 83):=⟨_,rfl⟩
     obtain⟨rb,hrb⟩:∃rb,rb=w4'.heap.size:=⟨_,rfl⟩
     have hR:Blk wv rb 83 (rArr (cfgLit cf) 0 d nx mS false 0 0 mU eb 0):=by rw[hv,hrb];exact Blk.new _ _ _
     have hH2:Below Bn w3 wv:=by rw[hv];exact hHeld.alloc hz4 _
     have hbk:Below w4'.heap.size w4' wv:=by rw[hv];exact(Below.refl _ _).alloc (Nat.le_refl _) _
     have hne:eb ≠ rb:=by have:=hC.lt;omega
     replace hS:=hS.below hbk hS.lt
     replace hUK:=hUK.keep (hbk.block mU hUK.lt)
     replace hC:=hC.below hbk hC.lt
     rw[←hv,←hrb]
     refine hK.out _ _ hH2 (fun hHeld=>?_)
     clear hK K
     try simp only[Act.put,List.setIfInBounds_toArray,List.set_cons_zero,List.set_cons_succ]
     refine tkH (i:=14) (oi:=⟨some 6,_,_,_,_,_⟩) (v:=.pointer (some ⟨rb,0,none⟩)) rfl (Or.inl ⟨by rfl,fun W hW=>(by rfl)⟩) (by assumption) ?_
     refine wpAnyH_done (by kernel_rfl) ?_ _
     go_wp2
     go_meet
     exact⟨rb,mS,mU,eb,_,rfl,rxnewd_intro cf d nx HD0.out _ rb mS mU eb tt cs (by rw[cfgLit_eq];exact hR) hS hUK hC hne hSU,by omega,hSl,hUB,hEl,hH2⟩
 case rest=>
  obtain⟨rb,mS,mU,eb,X,rfl,hR,h1,h2,h3,h4,hB⟩:=hcut
  have HR:=zh hR
  have HB:=zh hB
  have xs2:wc.cell? ⟨zb+1,2,none⟩=some (.slice A m c):=(BS.out.below hB hzl).cell 2
  have HBX:=zh (show Below w.heap.size w wc from D3.out.trans (hB.mono hbw))
  have HB4:=zh (show w.heap.size≤rb∧w.heap.size≤mS∧w.heap.size≤mU∧w.heap.size≤eb by omega)
  clear hR hB
  go_wp2
  have HLM:=zh (show m≤maxLen from HM.out)
  have hml:(m:Int)≤9223372036854775807:=by have:=HM.out;unfold maxLen at this;omega
  obtain⟨W4,hW4⟩:∃W4:Nat→Prop,W4=fun k=>k=rb∨k=mS∨k=mU∨k=eb:=⟨_,rfl⟩
  have HW4:=zh (show ∀q,W4 q→w.heap.size≤q by rw[hW4];intro q hq;have:=HB4.out;rcases hq with h | h | h | h<;>omega)
  have HQ:Hid (∀w' e l R,e=.returned (.tuple #[.pointer (some ⟨rb,0,none⟩),.int .i64 0])→RxM w' rb (rresS cf X d nx (svTo ct pn z m)) W4 R mS l mU eb→(∀k,R k→w.heap.size≤k)→Below w.heap.size w w'→RResO cf d nx (svTo ct pn z m) w e w'):=zh (by
   rw[hW4]
   exact fun w' e l R h1 h2 h3 h4=>⟨rb,mS,mU,eb,X,l,R,h1,h2,HB4.out.1,HB4.out.2.1,HB4.out.2.2.1,HB4.out.2.2.2,h3,h4⟩)
  rw[←hW4]at HR
  clear hW4
  go_loopw [8,33] (fun v8 v33 wr=>∃(k:Nat) (l:List SE) (R:Nat→Prop),k≤m∧v33=.int .i64 k∧RxM wr rb (rresS cf X d nx (svTo ct pn z k)) W4 R mS l mU eb∧(∀q,R q→wc.heap.size≤q)∧KeepF (fun q=>q=mS) wc wr) (fun _ v33 _=>m-(intOf v33).toNat)
  case atStart=>exact⟨0,[],fun _=>False,by omega,rfl,HR.out,fun q h=>h.elim,KeepF.refl⟩
  case round=>
   obtain⟨k,l,R,hk,rfl,hT,hRR,hK⟩:=hrel
   have HT:=zh hT
   have HRR:=zh hRR
   have hbr:Below w.heap.size w wr:=KeepF.below HBX.out hK (fun q hq=>by rw[hq];exact HB4.out.2.1) HBX.out.size
   have HK:=zh (And.intro hK hbr)
   clear hT hRR hK
   have k0:(0:Int)≤(k:Int):=by omega
   by_cases hkm:k < m
   rotate_left
   ·have k1:¬(k:Int) < (m:Int):=by omega
    have hke:k=m:=by omega
    have HKE:=zh hke
    clear hkm hke hk hbr
    go_wp2
    go_ret2
    refine HQ.out _ _ l R rfl (by rw[←HKE.out];exact HT.out) (fun q hq=>Nat.le_trans HBX.out.size (HRR.out q hq)) HK.out.2
   have k1:(k:Int) < (m:Int):=by omega
   obtain⟨he1,he2⟩:=whole_rise HWH.out k hkm
   have hCr:=HC.out.below hbr
   obtain⟨lb,lo,hAA,hlb,hlc⟩:=hCr.at_ (by omega)
   have hc:=hlc k hkm
   have hrow:=hCr.row k hkm
   have hbyt:=hCr.byte k hkm
   subst hAA
   obtain⟨x,hx⟩:∃x,x=ct k:=⟨_,rfl⟩
   obtain⟨n,hn⟩:∃n,n=pn k:=⟨_,rfl⟩
   obtain⟨PB,hPB⟩:∃P,P=PA k:=⟨_,rfl⟩
   obtain⟨pc',hpc⟩:∃p,p=pc k:=⟨_,rfl⟩
   obtain⟨zz,hzz⟩:∃y,y=z k:=⟨_,rfl⟩
   rw[←hx,←hn]at he1
   rw[←hx]at he2 hc
   rw[←hn,←hPB]at hc hrow
   rw[←hpc]at hc
   rw[←hzz]at hrow hbyt
   rw[←hn]at hbyt
   obtain⟨c0,c1⟩:=hc
   have HSV:=zh (show svAt ct pn z k=⟨x,n,zz⟩ by rw[hx,hn,hzz];rfl)
   have HE1:=zh he1
   have HE2:=zh (show ∀e,e∈svTo ct pn z k→e.ct < x from fun e he=>by
    obtain⟨j,hj,rfl⟩:=List.mem_map.1 he
    exact he2 j (List.mem_range.1 hj))
   have HROW:=zh hrow
   have HBY:=zh hbyt
   have hx0:(0:Int)≤x:=by have:=HD0.out;omega
   have hx4:x < 4294967296:=by have:=HD0.out;omega
   have wx:IntKind.u64.wrap x=x:=by simp[IntKind.wrap_u64];omega
   have HKM:=zh hkm
   clear hx hn hPB hpc hzz hlc hCr hrow hbyt he1 he2 hbr hk hkm
   go_upto_region 7 with (fail)
   obtain⟨pb,hpb⟩:∃pb,pb=wr.heap.size:=⟨_,rfl⟩
   refine wp_let (fun V=>Blk V pb 77 #[.int .u32 x,.slice PB n pc']∧Below wr.heap.size wr V) ⟨by rw[hpb];exact Blk.new _ _ _,(Below.refl _ wr).alloc (Nat.le_refl _) _⟩ ?_
   rintro V ⟨v1,v2⟩
   rw[←hpb]
   have hpne:pb ≠ mS:=by rw[hpb];have:=HT.out.win _ HT.out.ws;omega
   have HVB:=zh v2
   have HTV:=zh (HT.out.below v2)
   have HP:=zh (show ∀W',KeepF (fun q=>q=mS) V W'→W'.cell? ⟨pb,0,none⟩=some (.int .u32 x)∧W'.cell? ⟨pb,1,none⟩=some (.slice PB n pc')∧W'.cell? ⟨rb,43,none⟩=some (.map (some mS))from fun W' hW=>⟨(hW.blk v1 hpne).cell 0,(hW.blk v1 hpne).cell 1,(hW.blk HTV.out.blk HTV.out.gs).cell 43 |>.trans ((HTV.out.blk.cell 43).symm.trans HTV.out.cs)⟩)
   have HRV:=zh (HROW.out.next v2)
   clear v1 v2 c0 c1 hpne hpb
   obtain⟨w0,hw0⟩:∃w0,w0=V.drew:=⟨_,rfl⟩
   refine wp_region_held_drew (S:=fun w'=>KeepF (fun q=>q=mS) V w') (by kernel_rfl) ((KeepF.refl (F:=fun q=>q=mS) (w:=V)).drew) (fun hHeld=>?_)
   rw[←hw0]
   rw[←hw0]at hHeld
   have hb0:Below V.heap.size V w0:=by rw[hw0];exact(Below.refl _ _).drew
   clear hw0
   refine tkH (i:=0) (oi:=⟨some 37,_,_,_,_,_⟩) (v:=.pointer (some ⟨rb,0,none⟩)) rfl (Or.inl ⟨by rfl,fun W hW=>(by rfl)⟩) (by assumption) ?_
   refine tkH (i:=1) (oi:=⟨some 38,_,_,_,_,_⟩) (v:=.pointer (some ⟨rb,0,none⟩)) rfl (Or.inl ⟨by rfl,fun W hW=>(by go_simp)⟩) (by assumption) ?_
   refine tkH (i:=2) (oi:=⟨some 39,_,_,_,_,_⟩) (v:=.pointer (some ⟨rb,43,none⟩)) rfl (Or.inl ⟨by rfl,fun W hW=>(by go_simp)⟩) (by assumption) ?_
   refine tkH (i:=3) (oi:=⟨some 40,_,_,_,_,_⟩) (v:=.map (some mS)) rfl (Or.inl ⟨by rfl,fun W hW=>(by have:=(HP.out W hW).2.2;go_simp)⟩) (by assumption) ?_
   refine tkH (i:=4) (oi:=⟨some 41,_,_,_,_,_⟩) (v:=.pointer (some ⟨pb,0,none⟩)) rfl (Or.inl ⟨by rfl,fun W hW=>(by go_simp)⟩) (by assumption) ?_
   refine tkH (i:=5) (oi:=⟨some 42,_,_,_,_,_⟩) (v:=.int .u32 x) rfl (Or.inl ⟨by rfl,fun W hW=>(by have:=(HP.out W hW).1;go_simp)⟩) (by assumption) ?_
   refine tkH (i:=6) (oi:=⟨some 43,_,_,_,_,_⟩) (v:=.int .u64 x) rfl (Or.inl ⟨by rfl,fun W hW=>(by go_simp)⟩) (by assumption) ?_
   refine tkH (i:=7) (oi:=⟨some 44,_,_,_,_,_⟩) (v:=.pointer (some ⟨pb,1,none⟩)) rfl (Or.inl ⟨by rfl,fun W hW=>(by go_simp)⟩) (by assumption) ?_
   refine tkH (i:=8) (oi:=⟨some 45,_,_,_,_,_⟩) (v:=.slice PB n pc') rfl (Or.inl ⟨by rfl,fun W hW=>(by have:=(HP.out W hW).2.1;go_simp)⟩) (by assumption) ?_
   refine wpAnyH_ready (rs:=[9]) (by kernel_rfl) (by simp) ?_
   refine AllReadyH.cons (o:=⟨some 46,_,_,_,_,_⟩) rfl (fun K hK=>?_) AllReadyH.nil
   rw[if_pos (by rfl)]
   go_simp
   refine(clone_any PB n pc' zz w0 (by have:=HE1.out;omega) (HRV.out.next hb0)).mono ?_
   rintro en u1 ⟨A2,c2,rfl,hc2,hR2,hF2,hb2⟩
   dsimp only
   have hb1:Below V.heap.size V u1:=hb0.trans (hb2.mono hb0.size)
   have hE1:KeepF (fun q=>q=mS) V u1:=hHeld.trans (KeepF.of_below (F:=fun _=>False) hb2) (fun _ _ h=>h.elim)
   refine hK.out _ _ hE1 (fun hHeld=>?_)
   clear hK K hHeld
   have hTu:=HTV.out.below hb1
   have hFb:∀a,A2=some a→V.heap.size≤a.block:=fun a ha=>Nat.le_trans hb0.size (hF2 a ha)
   have hTr:=hTu.moreR (R':=fun q=>R q∨∃a,A2=some a∧q=a.block) (fun q h=>.inl h) (fun q hw hr=>by
    rcases hr with hr | ⟨a,ha,hr⟩
    ·exact hTu.dis q hw hr
    ·have h1:=hFb a ha
     have h2:=HTV.out.win q hw
     omega) (fun q hr=>by
    rcases hr with hr | ⟨a,ha,hr⟩
    ·exact hTu.rin q hr
    ·obtain⟨b,o,hab,hbl,_⟩:=hR2 (by have:=HE1.out;omega)
     rw[ha]at hab
     cases hab
     rw[hr]
     exact hbl)
   have hpk:Pkt u1 (fun q=>R q∨∃a,A2=some a∧q=a.block) A2 n c2 zz:=⟨by have:=HE1.out;omega,by have:=HE1.out;omega,hc2,HBY.out,hR2,fun a ha=>.inr ⟨a,ha,rfl⟩⟩
   have hnone:findS x l=none:=findS_none_iff.2 (fun e he h=>by
    have h1:e.v∈l.map (·.v):=List.mem_map.2 ⟨e,he,rfl⟩
    rw[HTV.out.lv]at h1
    have:=HE2.out e.v h1
    omega)
   obtain⟨w9,hput,hm9,hk9⟩:=smap_put hTr.st ⟨⟨x,n,zz⟩,A2,c2⟩ hx0 (by show x < _;omega) hnone hTr.few
   have hput2:(Instr.mapUpdate 78 (.map (some mS)) (.int .u64 x) (.slice A2 n c2)).run Tryz.prog u1=.ok () w9:=hput
   have hT9:=hTr.setMap (s':=rresS cf X d nx (svTo ct pn z (k+1))) hk9 hm9 (insS_rising hTr.ris hnone) (by
    rw[insV_map,hTr.lv]
    show _=(⟨cf,0,d,nx,insV ⟨x,n,zz⟩ (svTo ct pn z k),false,0,0,[kArr cf.key],X,0⟩:RS)
    rw[insV_end _ _ HE2.out,svTo_succ,HSV.out]
    rfl) (fun e he=>by
    rcases (insS_mem _ l e).1 he with rfl | he
    ·have:=HE1.out
     exact⟨by show d≤x;omega,by show x < nx;omega⟩
    ·exact hTr.rng e he) (fun e he=>by
    rcases (insS_mem _ l e).1 he with rfl | he
    ·exact hpk
    ·exact hTr.pk e he)
   have HT9:=zh hT9
   have HK9:=zh (hE1.trans hk9 (fun _ _ h=>h))
   have HFB:=zh hFb
   clear hT9 hTr hpk hnone hm9 hk9 hput hTu hR2 hF2 hb2
   try simp only[Act.put,List.setIfInBounds_toArray,List.set_cons_zero,List.set_cons_succ]
   refine wpAnyH_ready (rs:=[10]) (by kernel_rfl) (by simp) ?_
   refine AllReadyH.cons (o:=⟨none,_,_,_,_,_⟩) rfl (fun K hK=>?_) AllReadyH.nil
   rw[if_pos (by rfl)]
   go_simp
   refine hK.out _ _ HK9.out (fun hHeld=>?_)
   clear hK K hHeld
   try simp only[Act.put]
   refine wpAnyH_done (by kernel_rfl) ?_ _
   clear hE1 hb1 hb0 hput2 hFb
   go_wp2
   go_roundw
   case rel=>exact⟨k+1,_,_,HKM.out,by go_num,HT9.out,fun q hq=>by
    have h1:=HK.out.1.size
    have h2:=HVB.out.size
    rcases hq with h | ⟨a,ha,h⟩
    ·exact HRR.out q h
    ·have:=HFB.out a ha;omega,(HK.out.1.trans (KeepF.of_below (F:=fun _=>False) HVB.out) (fun _ _ h=>h.elim)).trans HK9.out (fun _ _ h=>h)⟩
   case measure=>have:=HKM.out;simp[intOf];omega
end Go.Proofs.YtnadmdadcpemnaaGreat
