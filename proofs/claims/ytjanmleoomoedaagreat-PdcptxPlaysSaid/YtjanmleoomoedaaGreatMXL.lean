import Derived.Test.YtjanmleoomoedaaGreatMXK
import Derived.Test.YtjanmleoomoedaaGreatMUC
import Derived.BigQuiet
namespace Go.Proofs.YtjanmleoomoedaaGreat
open Go.RowKit
set_option linter.unusedVariables false
set_option linter.unusedSimpArgs false
attribute [local go_sem ↓] Go.wp_at_zero Go.wp_at_succ
private theorem zh {p:Prop} (h:p):Hid p:=h
def pOk2 (ac:Bool) (N:Int) (ct:Nat→Int) (pn:Nat→Nat) (k:Nat):Prop:=ac=true∧1≤pn k∧pn k≤9000∧ct k < N∧N-ct k≤2048∧(0 < k→ct (k-1) < ct k)
theorem fok_all {ac:Bool} {nx:Int} {us:Bool} {m:Nat} {ct:Nat→Int} {pn:Nat→Nat} {mq:Nat} {qn:Nat→Nat} (h:FOk ac nx us m ct pn mq qn):∀k,k < m→pOk2 ac (nextOf nx us) ct pn k:=fun k hk=>by
 obtain⟨h1,h2,h3⟩:=h.elem k hk
 have hf:=(fits_iff _).1 h1
 have hw:=h.window (by omega)
 refine⟨h.acked (by omega),hf.1,hf.2,h2,?_,h3⟩
 rcases (by omega:k=0∨0 < k)with rfl | h0
 ·exact hw
 ·have:=ct_mono (ct:=ct) (m:=m) (fun k hk h0=>(h.elem k hk).2.2 h0) k hk 0 h0
  omega
theorem fok_of {ac:Bool} {nx:Int} {us:Bool} {m:Nat} {ct:Nat→Int} {pn:Nat→Nat} {mq:Nat} {qn:Nat→Nat} (h1:us=true→nx=0) (h2:∀k,k < m→pOk2 ac (nextOf nx us) ct pn k) (h3:∀k,k < mq→1≤qn k∧qn k≤9000):FOk ac nx us m ct pn mq qn:=
 ⟨h1,fun h0=>(h2 0 h0).1,fun k hk=>⟨(fits_iff _).2 ⟨(h2 k hk).2.1,(h2 k hk).2.2.1⟩,(h2 k hk).2.2.2.1,(h2 k hk).2.2.2.2.2⟩,fun h0=>(h2 0 h0).2.2.2.2.1,fun k hk=>(fits_iff _).2 (h3 k hk)⟩
set_option maxRecDepth 100000 in
set_option maxHeartbeats 6400000 in
theorem ustate_ok (cf:Cfg) (A A2:Option Addr) (m c1 mq c2:Nat) (nx:Int) (us:Bool) (ct:Nat→Int) (PA:Nat→Option Addr) (pn pc:Nat→Nat) (z:Nat→Nat→Int) (QA:Nat→Option Addr) (qn qc:Nat→Nat) (y:Nat→Nat→Int) (w:World) (hnx:0≤nx∧nx < 4294967296) (hm:m≤maxLen) (hmq:mq≤maxLen)
  (h:Cnts w A m ct PA pn pc z) (hq:BRows w A2 mq QA qn qc y) (r:Bool) (hr:r=true↔FOk cf.ac nx us m ct pn mq qn) :
  Calls Tryz.prog 10 #[.agg cf.arr,.agg #[.int .u32 nx,.bool us,.slice A m c1,.slice A2 mq c2]] w fun e w'=>e=.returned (.bool r)∧Below w.heap.size w w':=by
 unfold maxLen at hm hmq
 have HC:=zh h
 have HQ:=zh hq
 have HNX:=zh (fun(W:World)=>unext_ok nx us (.slice A m c1) (.slice A2 mq c2) W hnx)
 have HNo:=zh (fun(hn:¬FOk cf.ac nx us m ct pn mq qn)=>(show Ending.returned (.bool false)=Ending.returned (.bool r)from ret_bool (by
  rcases Bool.eq_false_or_eq_true r with h | h
  ·exact absurd (hr.1 h) hn
  ·exact h.symm)))
 have HYes:=zh (fun(hn:FOk cf.ac nx us m ct pn mq qn)=>(show Ending.returned (.bool true)=Ending.returned (.bool r)from ret_bool (hr.2 hn).symm))
 have h36:cf.arr[36]? = some (.bool cf.ac):=cf.arr_at (by decide)
 obtain⟨Z,hZ⟩:∃Z,Z=cf.arr:=⟨_,rfl⟩
 obtain⟨ac,hac⟩:∃ac,ac=cf.ac:=⟨_,rfl⟩
 obtain⟨N,hN⟩:∃N,N=nextOf nx us:=⟨_,rfl⟩
 have N0:0≤N∧N≤4294967296:=by rw[hN];unfold nextOf;split<;>omega
 rw[←hZ,←hac]at h36
 rw[←hac]at HNo HYes
 rw[←hZ]
 rw[←hN]at HNX
 have HN:=zh hN
 have hnx0:=hnx.1
 have m0:(0:Int)≤(m:Int):=by omega
 have m1:(m:Int)≤9223372036854775807:=by omega
 have mq0:(0:Int)≤(mq:Int):=by omega
 have mq1:(mq:Int)≤9223372036854775807:=by omega
 clear h hq hr hZ hac hN hnx
 go_enter Tryz.func10,Tryz.ntmps10
 go_upto_region 1 with (fail)
 refine wp_let (fun W=>Blk W w.heap.size 25 Z∧Blk W (w.heap.size+1) 30 #[.int .u32 nx,.bool us,.slice A m c1,.slice A2 mq c2]∧Below w.heap.size w W) ⟨(Blk.new _ _ _).alloc _,blk_atZ _ _ _ _ (by simp),((Below.refl _ w).alloc (Nat.le_refl _) _).alloc (by simp) _⟩ ?_
 rintro W1 ⟨b1,b2,b3⟩
 obtain⟨zb,hzb⟩:∃zb,zb=w.heap.size:=⟨_,rfl⟩
 rw[←hzb]at b1 b2 ⊢
 have HZB:=zh hzb
 have f0:=b2.cell 0
 have f1:=b2.cell 1
 have f2:=b2.cell 2
 have f3:=b2.cell 3
 simp at f0 f1 f2 f3
 have B1:=zh b1
 have B2:=zh b2
 have B3:=zh (show Below w.heap.size w W1 from by exact b3)
 clear b1 b2 b3 hzb
 go_upto_region 2 with (go_at_call 23;refine(HNX.out _).mono ?_;rintro e w2 ⟨rfl,hB⟩;have E2:=zh hB;clear hB)
 have D1:=zh (B1.out.below E2.out B1.out.lt)
 have D2:=zh (B2.out.below E2.out B2.out.lt)
 have D3:=zh (B3.out.trans (E2.out.mono B3.out.size))
 have x36:=(D1.out.cell 36).trans h36
 clear f0 f1 f2 f3
 have f0:=D2.out.cell 0
 have f1:=D2.out.cell 1
 have f2:=D2.out.cell 2
 have f3:=D2.out.cell 3
 simp at f0 f1 f2 f3
 clear h36
 by_cases hun:us=true∧nx ≠ 0
 ·obtain⟨rfl,hn0⟩:=hun
  have d0:(nx != 0)=true:=by simpa using hn0
  have HF:=zh (HNo.out fun h=>hn0 (h.used rfl))
  clear hn0
  go_wp2
  go_ret
  exact⟨HF.out,D3.out⟩
 have HUN:=zh (show us=true→nx=0 from fun h=>by
  rcases Classical.em (nx=0)with e | e
  ·exact e
  ·exact absurd ⟨h,e⟩ hun)
 clear hun
 go_cut [17]from 9 to 17 (fun v17 wx=>v17=.bool false∧wx=w2)
 case first=>
  cases us
  ·go_wp2
   go_meet
   exact⟨rfl,rfl⟩
  ·obtain rfl:=HUN.out rfl
   go_wp2
   go_meet
   exact⟨rfl,rfl⟩
 case rest=>
  obtain⟨rfl,rfl⟩:=hcut
  have hzl:zb < wc.heap.size:=D1.out.lt
  have hfl:zb+1 < wc.heap.size:=D2.out.lt
  go_wp2
  go_loopw [6] (fun v6 wr=>∃k:Nat,k≤m∧v6=.int .i64 k∧(∀j,j < k→pOk2 ac N ct pn j)∧Below wc.heap.size wc wr) (fun v6 _=>m+1-(intOf v6).toNat)
  case atStart=>exact⟨0,by omega,rfl,fun j hj=>absurd hj (by omega),Below.refl _ _⟩
  case round=>
   obtain⟨k,hk,rfl,hall,hBr⟩:=hrel
   have HALL:=zh hall
   have BR:=zh hBr
   have y36:wr.cell? ⟨zb,36,none⟩=some (.bool ac):=(hBr.cell (p:=⟨zb,36,none⟩) hzl).trans x36
   have y2:wr.cell? ⟨zb+1,2,none⟩=some (.slice A m c1):=(hBr.cell (p:=⟨zb+1,2,none⟩) hfl).trans f2
   have hzr:zb < wr.heap.size:=by have:=hBr.size;omega
   have hzr1:zb+1 < wr.heap.size:=by have:=hBr.size;omega
   have HCr:=zh (HC.out.below (below_step D3.out hBr))
   have k0:(0:Int)≤(k:Int):=by omega
   clear hall hBr
   by_cases hlt:k < m
   ·obtain⟨lb,lo,rfl,hlb,hlc⟩:=HCr.out.at_ (by omega)
    obtain⟨c0,c1'⟩:=hlc k hlt
    have HPREV:=zh (fun(h0:0 < k)=>(hlc (k-1) (by omega)).1)
    obtain⟨r0,r1⟩:=HC.out.rng k hlt
    have HEK:=zh (show pOk2 ac N ct pn k↔ac=true∧1≤pn k∧pn k≤9000∧ct k < N∧N-ct k≤2048∧(0 < k→ct (k-1) < ct k)from Iff.rfl)
    have HLE:=zh (HC.out.len k hlt)
    have HBAD:=zh (fun(hb:¬pOk2 ac N ct pn k)=>HNo.out fun hf=>hb (by have:=fok_all hf k hlt;rwa [←HN.out]at this))
    obtain⟨x,hx⟩:∃x,x=ct k:=⟨_,rfl⟩
    obtain⟨pl,hpl⟩:∃pl,pl=pn k:=⟨_,rfl⟩
    rw[←hx]at r0 r1 c0 HEK
    rw[←hpl]at c1' HEK HLE
    have hle:=HLE.out
    have hple:(pl:Int)≤9223372036854775807:=by omega
    have p0:(0:Int)≤(pl:Int):=by omega
    have tw:IntKind.u64.wrap x=x:=by rw[IntKind.wrap_u64];omega
    have k1:(k:Int) < (m:Int):=by omega
    have HRG:=zh (show wr.rangeAt lb (lo+k*2) [.int .u32 x,.slice (PA k) pl (pc k)]from fun j v hv=>by
     have hj:j < 2:=(List.getElem?_eq_some_iff.1 hv).1
     rcases (by omega:j=0∨j=1)with rfl | rfl
     ·exact c0.trans (by simpa using hv)
     ·exact c1'.trans (by simpa using hv))
    have HX:=zh hx
    clear hx hlc hpl c0 c1' hle
    go_upto_region 8 with (first
     | (refine wpList_load_mid rfl _ _ rfl lb (lo+k*2) rfl [.int .u32 x,.slice (PA k) pl (pc k)] _ HRG.out Tryz.underlying52 rfl (by kernel_rfl) ?_)
     | (refine wpList_store_row rfl _ _ _ rfl wr.heap.size #[.int .u32 x,.slice (PA k) pl (pc k)] rfl rfl 52 #[.int .u32 0,.slice none 0 0] (Blk.new _ _ _) (by kernel_rfl) rfl rfl ?_))
    try simp only[Act.put]
    refine wp_let (fun V=>Blk V wr.heap.size 52 #[.int .u32 x,.slice (PA k) pl (pc k)]∧Below wr.heap.size wr V) ⟨by first | exact Blk.new wr _ _ | exact setRow_heap _ _ _ _ 52 (0,0) (Blk.new _ _ _),by first | exact(Below.refl _ _).alloc (Nat.le_refl _) _ | exact belowRow ((Below.refl _ _).alloc (Nat.le_refl _) _) (Nat.le_refl _) _⟩ ?_
    rintro V ⟨v1,v2⟩
    obtain⟨xb,hxb⟩:∃xb,xb=wr.heap.size:=⟨_,rfl⟩
    rw[←hxb]at v1 ⊢
    have HBW:=zh (show Below wc.heap.size wc V from BR.out.trans (v2.mono BR.out.size))
    have HBV:=zh (D3.out.trans (HBW.out.mono D3.out.size))
    have e0:=v1.cell 0
    have e1:=v1.cell 1
    simp at e0 e1
    have z36:V.cell? ⟨zb,36,none⟩=some (.bool ac):=(v2.cell (p:=⟨zb,36,none⟩) hzr).trans y36
    have z2:V.cell? ⟨zb+1,2,none⟩=some (.slice (some ⟨lb,lo,none⟩) m c1):=(v2.cell (p:=⟨zb+1,2,none⟩) hzr1).trans y2
    have HPV:=zh (fun(h0:0 < k)=>(v2.cell (p:=⟨lb,lo+(k-1)*2,none⟩) hlb).trans (HPREV.out h0))
    clear v1 v2 hxb y36 y2
    cases ac
    ·have HF:=zh (HBAD.out fun h=>by have:=(HEK.out.1 h).1;cases this)
     go_wp2
     go_ret
     exact⟨HF.out,HBV.out⟩
    by_cases q1:pl < 1
    ·have HF:=zh (HBAD.out fun h=>by have:=(HEK.out.1 h).2.1;omega)
     have d1:decide ((pl:Int) < 1)=true:=decide_eq_true (by omega)
     go_wp2
     go_ret
     exact⟨HF.out,HBV.out⟩
    have d1:decide ((pl:Int) < 1)=false:=decide_eq_false (by omega)
    by_cases q2:9000 < pl
    ·have HF:=zh (HBAD.out fun h=>by have:=(HEK.out.1 h).2.2.1;omega)
     have d2:decide (9000 < (pl:Int))=true:=decide_eq_true (by omega)
     clear q1 q2
     go_wp2
     go_ret
     exact⟨HF.out,HBV.out⟩
    have d2:decide (9000 < (pl:Int))=false:=decide_eq_false (by omega)
    by_cases q3:N≤x
    ·have HF:=zh (HBAD.out fun h=>by have:=(HEK.out.1 h).2.2.2.1;omega)
     have d3:decide (N≤x)=true:=decide_eq_true q3
     clear q1 q2 q3
     go_wp2
     go_ret
     exact⟨HF.out,HBV.out⟩
    have d3:decide (N≤x)=false:=decide_eq_false q3
    have ww:IntKind.u64.wrap (N-x)=N-x:=by rw[IntKind.wrap_u64];omega
    by_cases q4:2048 < N-x
    ·have HF:=zh (HBAD.out fun h=>by have:=(HEK.out.1 h).2.2.2.2.1;omega)
     have d4:decide (2048 < N-x)=true:=decide_eq_true q4
     clear q1 q2 q3 q4
     go_wp2
     go_ret
     exact⟨HF.out,HBV.out⟩
    have d4:decide (2048 < N-x)=false:=decide_eq_false q4
    have HQS:=zh (And.intro (show 1≤pl by omega) (And.intro (show pl≤9000 by omega) (And.intro (show x < N by omega) (show N-x≤2048 by omega))))
    clear q1 q2 q3 q4
    by_cases hk0:k=0
    ·have HOKK:=zh (HEK.out.2 ⟨rfl,HQS.out.1,HQS.out.2.1,HQS.out.2.2.1,HQS.out.2.2.2,fun h=>absurd h (by omega)⟩)
     have HAL2:=zh (show ∀j,j < k+1→pOk2 true N ct pn j from fun j hj=>by
      by_cases e:j=k
      ·subst e;exact HOKK.out
      ·exact HALL.out j (by omega))
     have dkb:decide (0 < k)=false:=decide_eq_false (by omega)
     clear hk0
     go_upto_region 10 with (fail)
     go_quiet (fail)
     go_wp2
     go_roundw
     case rel=>exact⟨k+1,by omega,by go_num,HAL2.out,below_drewN HBW.out _⟩
     case measure=>simp[intOf];omega
    have dkb:decide (0 < k)=true:=decide_eq_true (by omega)
    have wk:IntKind.i64.wrap ((k:Int)-1)=((k-1:Nat):Int):=by rw[IntWalk.i64_in _ (by omega)];omega
    have kk0:(0:Int)≤((k-1:Nat):Int):=by omega
    have kk1:((k-1:Nat):Int) < (m:Int):=by omega
    have u6:=HPV.out (by omega)
    obtain⟨q,hq⟩:∃q,q=k-1:=⟨_,rfl⟩
    rw[←hq]at wk kk0 kk1 u6 HEK
    obtain⟨x',hx'⟩:∃x',x'=ct q:=⟨_,rfl⟩
    rw[←hx']at u6 HEK
    have hkp:0 < k:=by omega
    have HKP:=zh hkp
    clear hq hx' hk0 hkp
    by_cases q5:x≤x'
    ·have HF:=zh (HBAD.out fun h=>by have:=(HEK.out.1 h).2.2.2.2.2 HKP.out;omega)
     have d5:decide (x≤x')=true:=decide_eq_true q5
     clear q5
     go_upto_region 10 with (fail)
     go_quiet (fail)
     go_wp2
     go_ret
     exact⟨HF.out,below_drewN HBV.out _⟩
    have d5:decide (x≤x')=false:=decide_eq_false q5
    have HOKK:=zh (HEK.out.2 ⟨rfl,HQS.out.1,HQS.out.2.1,HQS.out.2.2.1,HQS.out.2.2.2,fun h=>by omega⟩)
    have HAL2:=zh (show ∀j,j < k+1→pOk2 true N ct pn j from fun j hj=>by
     by_cases e:j=k
     ·subst e;exact HOKK.out
     ·exact HALL.out j (by omega))
    clear q5
    go_upto_region 10 with (fail)
    go_quiet (fail)
    go_wp2
    go_roundw
    case rel=>exact⟨k+1,by omega,by go_num,HAL2.out,below_drewN HBW.out _⟩
    case measure=>simp[intOf];omega
   ·obtain rfl:m=k:=by omega
    have k1:¬(m:Int) < (m:Int):=by omega
    have HBc:=zh (D3.out.trans (BR.out.mono D3.out.size))
    clear hlt hk
    go_upto_region 12 with (fail)
    clear y36 y2 x36
    have hzw:zb+1 < wr.heap.size:=hzr1
    have y3:wr.cell? ⟨zb+1,3,none⟩=some (.slice A2 mq c2):=(BR.out.cell (p:=⟨zb+1,3,none⟩) hfl).trans f3
    clear f0 f1 f2 f3
    obtain⟨V,hV⟩:∃V,V=wr:=⟨_,rfl⟩
    rw[←hV]at y3 HBc hzw ⊢
    clear hV
    go_wp2
    go_loopw [8] (fun v8 wr=>∃k:Nat,k≤mq∧v8=.int .i64 k∧(∀j,j < k→1≤qn j∧qn j≤9000)∧Below V.heap.size V wr) (fun v8 _=>mq+1-(intOf v8).toNat)
    case atStart=>exact⟨0,by omega,rfl,fun j hj=>absurd hj (by omega),Below.refl _ _⟩
    case round=>
     obtain⟨k,hk,rfl,hall2,hBr⟩:=hrel
     have HALL2:=zh hall2
     have BR2:=zh hBr
     have z3:wr.cell? ⟨zb+1,3,none⟩=some (.slice A2 mq c2):=(hBr.cell (p:=⟨zb+1,3,none⟩) hzw).trans y3
     have HQr:=zh (HQ.out.below (HBc.out.trans (hBr.mono HBc.out.size)))
     have HEND:=zh (HBc.out.trans (hBr.mono HBc.out.size))
     have k0':(0:Int)≤(k:Int):=by omega
     clear hall2 hBr
     by_cases hlt:k < mq
     ·obtain⟨lb,lo,rfl,hlb,hlc⟩:=HQr.out.at_ (by omega)
      have c0:=hlc k hlt
      have HLE:=zh (HQ.out.len k hlt)
      have HBAD:=zh (fun(hb:¬(1≤qn k∧qn k≤9000))=>HNo.out fun hf=>hb ((fits_iff _).1 (hf.queue k hlt)))
      obtain⟨pl,hpl⟩:∃pl,pl=qn k:=⟨_,rfl⟩
      rw[←hpl]at c0 HLE HBAD
      have hle:=HLE.out
      have hple:(pl:Int)≤9223372036854775807:=by omega
      have p0:(0:Int)≤(pl:Int):=by omega
      have k1':(k:Int) < (mq:Int):=by omega
      have HPL:=zh hpl
      clear hlc hpl hle
      by_cases q1:pl < 1
      ·have HF:=zh (HBAD.out (by omega))
       have d1:decide ((pl:Int) < 1)=true:=decide_eq_true (by omega)
       clear q1
       go_wp2
       go_ret
       exact⟨HF.out,HEND.out⟩
      have d1:decide ((pl:Int) < 1)=false:=decide_eq_false (by omega)
      by_cases q2:9000 < pl
      ·have HF:=zh (HBAD.out (by omega))
       have d2:decide (9000 < (pl:Int))=true:=decide_eq_true (by omega)
       clear q1 q2
       go_wp2
       go_ret
       exact⟨HF.out,HEND.out⟩
      have d2:decide (9000 < (pl:Int))=false:=decide_eq_false (by omega)
      have HAL2:=zh (show ∀j,j < k+1→1≤qn j∧qn j≤9000 from fun j hj=>by
       by_cases e:j=k
       ·subst e
        rw[←HPL.out]
        omega
       ·exact HALL2.out j (by omega))
      clear q1 q2
      go_wp2
      go_roundw
      case rel=>exact⟨k+1,by omega,by go_num,HAL2.out,BR2.out⟩
      case measure=>simp[intOf];omega
     ·obtain rfl:mq=k:=by omega
      have k1':¬(mq:Int) < (mq:Int):=by omega
      have HF:=zh (HYes.out (fok_of HUN.out (fun j hj=>by rw[←HN.out];exact HALL.out j hj) HALL2.out))
      clear hlt hk
      go_wp2
      go_ret
      exact⟨HF.out,HEND.out⟩
end Go.Proofs.YtjanmleoomoedaaGreat
