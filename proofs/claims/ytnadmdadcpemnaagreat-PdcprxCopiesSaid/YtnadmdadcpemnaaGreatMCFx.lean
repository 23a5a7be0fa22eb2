import Derived.Test.YtnadmdadcpemnaaGreatMDQx
import Derived.Test.YtnadmdadcpemnaaGreatMTBx
import Derived.Test.YtnadmdadcpemnaaGreatMYAx
namespace Go.Proofs.YtnadmdadcpemnaaGreat
open Go.RowKit
attribute [local go_sem ↓] Go.wp_at_zero Go.wp_at_succ
private theorem zh {p:Prop} (h:p):Go.RowKit.Hid p:=h
private theorem tkL {P:Program} {ops:Array Oper} {Q:Exit→Act→World→Prop} {md:Region.Mode} {S:World→Prop} {L i:Nat} {oi:Oper} {v:Value} {fuel:Nat} {listed l':Array Bool} {a a':Act} {w:World} (hi:ops[i]? = some oi) (hy:YieldsIf P ops S oi v a) (hS:S w)
  (h:wpAnyL P md ops Q S L fuel l' a' w) (hl:listed.setIfInBounds i true=l':=by(try simp only[List.setIfInBounds_toArray,List.set_cons_zero,List.set_cons_succ]);rfl) (ha:a.put oi.dst v=a':=by(try simp only[Act.put,List.setIfInBounds_toArray,List.set_cons_zero,List.set_cons_succ]);rfl) (hL:waitsFor md ops L i=true:=by kernel_rfl) (hs:Region.noSelect ops=true:=by kernel_rfl) (hf:Region.free md ops listed i=true:=by kernel_rfl) (hr:(Region.ready md ops listed).contains i=true:=by kernel_rfl)
  (hQ:∀c a w,Q (.panic c) (a.put oi.dst v) w→Q (.panic c) a w:=by exact fun _ _ _ h=>h):wpAnyL P md ops Q S L (fuel+1) listed a w:=by subst hl;subst ha;exact wpAnyL_take hi hL hs hf hr hQ hy hS h
def lastOf (d:Int) (ct:Nat→Int) (k:Nat):Int:=if k=0 then d else ct (k-1)
theorem lastOf_succ (d:Int) (ct:Nat→Int) (k:Nat):lastOf d ct (k+1)=ct k:=rfl
def elemOk (d nx:Int) (ct:Nat→Int) (pn:Nat→Nat) (k:Nat):Prop:=lastOf d ct k < ct k∧ct k < nx∧1≤pn k∧pn k≤9000
def headOk (d nx:Int):Prop:=d≤nx∧nx≤4294967296∧nx-d≤2048
def tailOk (d nx:Int) (m:Nat) (ct:Nat→Int):Prop:=nx=d∨(lastOf d ct m=nx-1∧d < lastOf d ct m)
def Whole (d nx:Int) (m:Nat) (ct:Nat→Int) (pn:Nat→Nat):Prop:=headOk d nx∧(∀k,k < m→elemOk d nx ct pn k)∧tailOk d nx m ct
theorem whole_head (A:Option Addr) (m c:Nat) (d nx:Int) (w:World) (hd:0≤d) (hnx:0≤nx∧nx < 18446744073709551616) (hd2:d < 18446744073709551616) (hw:¬headOk d nx) :
  Calls Tryz.prog 39 #[.agg #[.int .u64 d,.int .u64 nx,.slice A m c]] w fun e w'=>e=.returned (.bool false)∧Below w.heap.size w w':=by
 obtain⟨n0,n1⟩:=hnx
 by_cases t1:nx < d
 ·clear hw
  go_enter Tryz.func39,Tryz.ntmps39
  go_upto_region 1 with (fail)
  refine wp_let (fun W=>Blk W w.heap.size 46 #[.int .u64 d,.int .u64 nx,.slice A m c]∧Below w.heap.size w W) ⟨Blk.new _ _ _,(Below.refl _ w).alloc (Nat.le_refl _) _⟩ ?_
  rintro W1 ⟨b1,b2⟩
  obtain⟨xb,hxb⟩:∃xb,xb=w.heap.size:=⟨_,rfl⟩
  rw[←hxb]at b1 ⊢
  have HX:=zh hxb
  have x0:=b1.cell 0
  have x1:=b1.cell 1
  have x2:=b1.cell 2
  simp at x0 x1 x2
  have HB:=zh b1
  have HBB:=zh (show Below w.heap.size w W1 from by exact b2)
  clear b1 b2 hxb
  go_wp2
  go_ret
  exact⟨rfl,HBB.out⟩
 by_cases t2:(4294967296:Int) < nx
 ·clear hw
  go_enter Tryz.func39,Tryz.ntmps39
  go_upto_region 1 with (fail)
  refine wp_let (fun W=>Blk W w.heap.size 46 #[.int .u64 d,.int .u64 nx,.slice A m c]∧Below w.heap.size w W) ⟨Blk.new _ _ _,(Below.refl _ w).alloc (Nat.le_refl _) _⟩ ?_
  rintro W1 ⟨b1,b2⟩
  obtain⟨xb,hxb⟩:∃xb,xb=w.heap.size:=⟨_,rfl⟩
  rw[←hxb]at b1 ⊢
  have HX:=zh hxb
  have x0:=b1.cell 0
  have x1:=b1.cell 1
  have x2:=b1.cell 2
  simp at x0 x1 x2
  have HB:=zh b1
  have HBB:=zh (show Below w.heap.size w W1 from by exact b2)
  clear b1 b2 hxb
  go_wp2
  go_ret
  exact⟨rfl,HBB.out⟩
 have t3:(2048:Int) < nx-d:=by
  unfold headOk at hw
  omega
 have t0:0≤nx-d:=by omega
 have tw:IntKind.u64.wrap (nx-d)=nx-d:=by simp[IntKind.wrap_u64];omega
 clear hw
 go_enter Tryz.func39,Tryz.ntmps39
 go_upto_region 1 with (fail)
 refine wp_let (fun W=>Blk W w.heap.size 46 #[.int .u64 d,.int .u64 nx,.slice A m c]∧Below w.heap.size w W) ⟨Blk.new _ _ _,(Below.refl _ w).alloc (Nat.le_refl _) _⟩ ?_
 rintro W1 ⟨b1,b2⟩
 obtain⟨xb,hxb⟩:∃xb,xb=w.heap.size:=⟨_,rfl⟩
 rw[←hxb]at b1 ⊢
 have HX:=zh hxb
 have x0:=b1.cell 0
 have x1:=b1.cell 1
 have x2:=b1.cell 2
 simp at x0 x1 x2
 have HB:=zh b1
 have HBB:=zh (show Below w.heap.size w W1 from by exact b2)
 clear b1 b2 hxb
 go_wp2
 go_ret
 exact⟨rfl,HBB.out⟩
set_option maxRecDepth 100000 in
set_option maxHeartbeats 6400000 in
theorem whole_no (A:Option Addr) (m c:Nat) (d nx:Int) (ct:Nat→Int) (PA:Nat→Option Addr) (pn pc:Nat→Nat) (z:Nat→Nat→Int) (w:World) (hd:0≤d) (hnx:0≤nx∧nx < 18446744073709551616) (hd2:d < 18446744073709551616) (hm:m≤maxLen) (h:Cnts w A m ct PA pn pc z) (hw:¬Whole d nx m ct pn) :
  Calls Tryz.prog 39 #[.agg #[.int .u64 d,.int .u64 nx,.slice A m c]] w fun e w'=>e=.returned (.bool false)∧Below w.heap.size w w':=by
 by_cases hh:headOk d nx
 rotate_left
 ·exact whole_head A m c d nx w hd hnx hd2 hh
 unfold maxLen at hm
 have HNW:=zh (show ¬((∀k,k < m→elemOk d nx ct pn k)∧tailOk d nx m ct)from fun h=>hw ⟨hh,h⟩)
 obtain⟨h1,h2,h3⟩:=hh
 have HC:=zh h
 have t1:¬nx < d:=by omega
 have t2:¬(4294967296:Int) < nx:=by omega
 have t3:¬(2048:Int) < nx-d:=by omega
 have t0:0≤nx-d:=by omega
 have tw:IntKind.u64.wrap (nx-d)=nx-d:=by simp[IntKind.wrap_u64];omega
 clear h hw
 go_enter Tryz.func39,Tryz.ntmps39
 go_upto_region 1 with (fail)
 refine wp_let (fun W=>Blk W w.heap.size 46 #[.int .u64 d,.int .u64 nx,.slice A m c]∧Below w.heap.size w W) ⟨Blk.new _ _ _,(Below.refl _ w).alloc (Nat.le_refl _) _⟩ ?_
 rintro W1 ⟨b1,b2⟩
 obtain⟨xb,hxb⟩:∃xb,xb=w.heap.size:=⟨_,rfl⟩
 rw[←hxb]at b1 ⊢
 have HX:=zh hxb
 have x0:=b1.cell 0
 have x1:=b1.cell 1
 have x2:=b1.cell 2
 simp at x0 x1 x2
 have HB:=zh b1
 have HBB:=zh (show Below w.heap.size w W1 from by exact b2)
 clear b1 b2 hxb
 go_wp2
 go_loopw [3,30] (fun v3 v30 wr=>∃k:Nat,k≤m∧v30=.int .i64 k∧v3=.int .u64 (lastOf d ct k)∧(∀j,j < k→elemOk d nx ct pn j)∧Below W1.heap.size W1 wr) (fun _ v30 _=>m-(intOf v30).toNat)
 case atStart=>exact⟨0,by omega,rfl,rfl,fun j hj=>by omega,Below.refl _ _⟩
 case round=>
  obtain⟨k,hk,rfl,rfl,hall,hBr⟩:=hrel
  have HALL:=zh hall
  clear hall
  have BR:=zh hBr
  have XR:=HB.out.below hBr HB.out.lt
  have y0:=XR.cell 0
  have y1:=XR.cell 1
  simp at y0 y1
  have hxl:xb < wr.heap.size:=XR.lt
  have hxn:¬xb=wr.heap.size:=by omega
  clear hBr XR
  by_cases hlt:k < m
  ·have HEK:=zh (show elemOk d nx ct pn k↔lastOf d ct k < ct k∧ct k < nx∧1≤pn k∧pn k≤9000 from Iff.rfl)
   obtain⟨lb,lo,rfl,hlb,hlc⟩:=HC.out.at_ (by omega)
   obtain⟨c0,c1⟩:=hlc k hlt
   have q0:wr.cell? ⟨lb,lo+k*2,none⟩=some (.int .u32 (ct k)):=(BR.out.cell (p:=⟨lb,lo+k*2,none⟩) (Nat.lt_of_lt_of_le hlb HBB.out.size)).trans ((HBB.out.cell (p:=⟨lb,lo+k*2,none⟩) hlb).trans c0)
   have q1:wr.cell? ⟨lb,lo+k*2+1,none⟩=some (.slice (PA k) (pn k) (pc k)):=(BR.out.cell (p:=⟨lb,lo+k*2+1,none⟩) (Nat.lt_of_lt_of_le hlb HBB.out.size)).trans ((HBB.out.cell (p:=⟨lb,lo+k*2+1,none⟩) hlb).trans c1)
   obtain⟨r0,r1⟩:=HC.out.rng k hlt
   have hpn:=HC.out.len k hlt
   have HLS:=zh (lastOf_succ d ct k)
   obtain⟨x,hx⟩:∃x,x=ct k:=⟨_,rfl⟩
   obtain⟨q,hq⟩:∃q,q=pn k:=⟨_,rfl⟩
   obtain⟨la,hla⟩:∃la,la=lastOf d ct k:=⟨_,rfl⟩
   have k0:(0:Int)≤(k:Int):=by omega
   have k1:(k:Int) < (m:Int):=by omega
   rw[←hx]at r0 r1 q0 HLS HEK
   rw[←hq]at q1 hpn HEK
   rw[←hla]at HEK ⊢
   clear hx hq hla hlc c0 c1
   by_cases s1:x≤la
   ·have sd1:decide (x≤la)=true:=by simpa using s1
    go_wp2
    go_ret
    exact⟨rfl,HBB.out.trans ((BR.out.alloc BR.out.size _).mono HBB.out.size)⟩
   have sd1:decide (x≤la)=false:=by simpa using s1
   by_cases s2:nx≤x
   ·have sd2:decide (nx≤x)=true:=by simpa using s2
    go_wp2
    go_ret
    exact⟨rfl,HBB.out.trans ((BR.out.alloc BR.out.size _).mono HBB.out.size)⟩
   have sd2:decide (nx≤x)=false:=by simpa using s2
   by_cases s3:(q:Int) < 1
   ·have sd3:decide ((q:Int) < 1)=true:=by simpa using s3
    go_wp2
    go_ret
    exact⟨rfl,HBB.out.trans ((BR.out.alloc BR.out.size _).mono HBB.out.size)⟩
   by_cases s4:(9000:Int) < (q:Int)
   ·go_wp2
    go_ret
    exact⟨rfl,HBB.out.trans ((BR.out.alloc BR.out.size _).mono HBB.out.size)⟩
   have HEK2:=zh (show elemOk d nx ct pn k from HEK.out.2 ⟨by omega,by omega,by omega,by omega⟩)
   have s5:la < x:=by omega
   have B2:=zh (fun o:Obj=>BR.out.alloc BR.out.size o)
   have HAL2:=zh (show ∀j,j < k+1→elemOk d nx ct pn j from fun j hj=>by
    by_cases e:j=k
    ·subst e;exact HEK2.out
    ·exact HALL.out j (by omega))
   go_wp2
   go_roundw
   case rel=>first | exact⟨k+1,by omega,by go_num,by rw[HLS.out],HAL2.out,B2.out _⟩ | ((repeat apply Exists.intro);exact⟨⟨k+1,by omega,by go_num,by rw[HLS.out],HAL2.out,B2.out _⟩,rfl⟩)
   case measure=>simp[intOf];omega
  ·obtain rfl:k=m:=by omega
   have HTT:¬tailOk d nx k ct:=fun h=>HNW.out ⟨HALL.out,h⟩
   unfold tailOk at HTT
   obtain⟨la,hla⟩:∃la,la=lastOf d ct k:=⟨_,rfl⟩
   rw[←hla]at HTT ⊢
   clear hla
   have s3:(nx == d)=false:=by
    have:nx ≠ d:=fun e=>HTT (.inl e)
    simpa using this
   have s4:IntKind.u64.wrap (nx-1)=nx-1:=by
    have:nx ≠ d:=fun e=>HTT (.inl e)
    simp[IntKind.wrap_u64];omega
   by_cases s5:la=nx-1
   ·have s6:(la == nx-1)=true:=by simpa using s5
    have s7:¬d < la:=fun e=>HTT (.inr ⟨s5,e⟩)
    clear HTT s5
    go_wp2
    go_ret
    exact⟨rfl,HBB.out.trans (BR.out.mono HBB.out.size)⟩
   ·have s6:(la == nx-1)=false:=by simpa using s5
    clear HTT s5
    go_wp2
    go_ret
    exact⟨rfl,HBB.out.trans (BR.out.mono HBB.out.size)⟩
end Go.Proofs.YtnadmdadcpemnaaGreat
namespace Go.Proofs.YtnadmdadcpemnaaGreat
open Go.RowKit
set_option linter.unusedVariables false
set_option linter.unusedSimpArgs false
attribute [local go_sem ↓] Go.wp_at_zero Go.wp_at_succ
def SE.cc (e:SE):List Value:=[.int .u32 e.v.ct,.slice e.A e.v.n e.c]
theorem SE.cclen (e:SE):e.cc.length=2:=rfl
def SV.bytes (v:SV):List Value:=(List.range v.n).map fun j=>.int .u8 (v.z j)
def XPk (w:World) (B:Nat) (x:SE):Prop:=SL w 5 1 x.A x.v.n x.c x.v.bytes∧∀a,x.A=some a→B≤a.block
theorem XPk.keepF {w w':World} {B:Nat} {x:SE} {F:Nat→Prop} (h:XPk w B x) (hk:KeepF F w w') (hF:∀a,x.A=some a→¬F a.block):XPk w' B x:=⟨h.1.keepF hk hF,h.2⟩
def SortedOK (l:List SE):Prop:=∀(sb bx:Nat) (w:World),SM w sb l→Blk w bx 78 #[.map (some sb)]→Rising l→
  Calls Tryz.prog 44 #[.func (.func 72) #[] #[.pointer (some ⟨bx,0,none⟩)]] w (KeysO l w)
theorem sortedOK_small {l:List SE} (hl:l.length≤250):SortedOK l:=fun sb bx w hS hB hr=>usorted_ok sb l bx w hS hB hr hl
theorem find_at {l:List SE} (hr:Rising l) {e:SE} (he:e∈l):findS e.v.ct l=some e:=by
 cases hf:findS e.v.ct l with
 | none=>exact absurd rfl (findS_none_iff.1 hf e he)
 | some x=>
  obtain⟨h1,h2⟩:=findS_some hf
  have hu:∀(l:List SE),Rising l→∀a b,a∈l→b∈l→a.v.ct=b.v.ct→a=b:=by
   intro l
   induction l with
   | nil=>intro _ a b ha;cases ha
   | cons y r ih=>
    intro hr a b ha hb hab
    obtain⟨h3,h4⟩:=List.pairwise_cons.1 hr
    rcases List.mem_cons.1 ha with ha2 | ha2
    ·rcases List.mem_cons.1 hb with hb2 | hb2
     ·rw[ha2,hb2]
     ·have h5:=h3 b hb2
      rw[ha2]at hab
      omega
    ·rcases List.mem_cons.1 hb with hb2 | hb2
     ·have h5:=h3 a ha2
      rw[hb2]at hab
      omega
     ·exact ih h4 a b ha2 hb2 hab
  rw[hu l hr x e h1 he h2]
def RExpO (s:RS) (l:List SE) (w:World) (e:Ending) (w':World):Prop:=
 ∃(A:Option Addr) (c:Nat) (lx:List SE),e=.returned (.agg #[.int .u64 s.deliver,.int .u64 s.next,.slice A l.length c])∧lx.map (·.v)=l.map (·.v)∧SL w' 77 2 A l.length c (lx.flatMap SE.cc)∧(∀a,A=some a→w.heap.size≤a.block)∧(∀x,x∈lx→XPk w' w.heap.size x)∧Below w.heap.size w w'
def RExpI (s:RS) (l:List SE) (ob:Nat) (V3:World) (k:Nat) (V:World):Prop:=
 ∃(A:Option Addr) (c:Nat) (lx:List SE),Blk V ob 46 #[.int .u64 s.deliver,.int .u64 s.next,.slice A k c]∧lx.map (·.v)=(l.take k).map (·.v)∧SL V 77 2 A k c (lx.flatMap SE.cc)∧(∀a,A=some a→V3.heap.size≤a.block)∧(∀x,x∈lx→XPk V V3.heap.size x)∧KeepF (fun q=>q=ob) V3 V
set_option maxRecDepth 100000 in
set_option maxHeartbeats 6400000 in
theorem rexport_ok (g:Nat) (s:RS) (W R:Nat→Prop) (sb:Nat) (l:List SE) (ub eb:Nat) (w:World) (h:RxM w g s W R sb l ub eb) (hso:SortedOK l) (hl:l.length≤1000) :
  Calls Tryz.prog 19 #[.pointer (some ⟨g,0,none⟩)] w (RExpO s l w):=by
 have HT:=zh h
 have HSO:=zh hso
 have HLL:=zh hl
 have HRI:=zh h.ris
 have HW:=zh (And.intro h.win h.rin)
 have HWG:=zh (And.intro h.wg h.ws)
 clear h hso hl
 go_enter Tryz.func19,Tryz.ntmps19
 go_upto_region 1 with (fail)
 obtain⟨ob,hob⟩:∃ob,ob=w.heap.size:=⟨_,rfl⟩
 have HOB:=zh hob
 refine wp_let (fun V=>Blk V ob 46 #[.int .u64 0,.int .u64 0,.slice none 0 0]∧Below w.heap.size w V) ⟨by rw[hob];exact Blk.new _ _ _,(Below.refl _ w).alloc (Nat.le_refl _) _⟩ ?_
 rintro V ⟨v1,v2⟩
 have hT:=HT.out.below v2
 have HMD:=zh (rxmade_ok g V hT.made)
 have cd:=hT.cdeliver
 have cx:=hT.cnext
 have o0:=v1.frozen 0
 have o1:=v1.frozen 1
 have hgo:ob ≠ g:=by rw[hob];have:=HT.out.blk.lt;omega
 have HV:=zh (And.intro v1 (And.intro v2 hT))
 rw[←hob]
 clear v1 v2 hT hob
 go_upto_region 3 with (go_at_call 43;refine(HMD.out).mono ?_;rintro e w2 ⟨rfl,hw2⟩;subst hw2)
 have c0:=HV.out.1.cell 0
 have c1:=HV.out.1.cell 1
 simp at c0 c1
 go_region
 have hB5:Blk ((V.setCell ⟨ob,0,none⟩ (.int .u64 s.deliver)).setCell ⟨ob,1,none⟩ (.int .u64 s.next)).drew ob 46 #[.int .u64 s.deliver,.int .u64 s.next,.slice none 0 0]:=by
  have h5:=(HV.out.1.set_ 0 (.int .u64 s.deliver)).set_ 1 (.int .u64 s.next)
  exact(by simpa using h5:Blk _ _ _ _).drew
 have hb5:Below w.heap.size w ((V.setCell ⟨ob,0,none⟩ (.int .u64 s.deliver)).setCell ⟨ob,1,none⟩ (.int .u64 s.next)).drew:=((HV.out.2.1.setCell (p:=⟨ob,0,none⟩) (Nat.le_of_eq HOB.out.symm) _).setCell (p:=⟨ob,1,none⟩) (Nat.le_of_eq HOB.out.symm) _).drew
 have hT5:=HT.out.below hb5
 obtain⟨V5,hV5⟩:∃V5,V5=((V.setCell ⟨ob,0,none⟩ (.int .u64 s.deliver)).setCell ⟨ob,1,none⟩ (.int .u64 s.next)).drew:=⟨_,rfl⟩
 rw[←hV5]at hB5 hb5 hT5
 rw[←hV5]
 obtain⟨V2,hV2⟩:∃V2,V2=V5.alloc (.cells #[.map (some sb)] 78):=⟨_,rfl⟩
 have hB2:Below V5.heap.size V5 V2:=by rw[hV2];exact(Below.refl _ V5).alloc (Nat.le_refl _) _
 have hBX:Blk V2 V5.heap.size 78 #[.map (some sb)]:=by rw[hV2];exact Blk.new _ _ _
 have HSR:=zh (HSO.out sb V5.heap.size V2 (hT5.st.below hB2 hT5.st.lt) hBX HRI.out)
 have HKM:=zh (keys_made sb V5)
 rw[←hV2]at HKM
 have x1:=hT5.cs
 have HB5:=zh (And.intro hB5 (And.intro hb5 hT5))
 have HB2:=zh hB2
 clear hB5 hb5 hT5 hV5 hB2 hBX hV2 c0 c1 cd cx o0 o1 HV HMD
 go_wp2_with (first
  | (go_at_call 45;refine(HKM.out).mono ?_;rintro e w3 ⟨rfl,rfl⟩)
  | (go_at_call 44;refine(HSR.out).mono ?_;rintro e V3 ⟨KA,kc,rfl,hkr,hkf,hkb⟩;have HKR:=zh hkr;have HKF:=zh hkf;have HKB:=zh hkb;clear hkr hkf hkb))
 have HB3:=zh (HB2.out.trans (HKB.out.mono HB2.out.size))
 have HT3:=zh (HB5.out.2.2.below HB3.out)
 have HO3:=zh (HB5.out.1.below HB3.out HB5.out.1.lt)
 have HSZ:=zh (show ob < V3.heap.size∧w.heap.size≤ob from ⟨HO3.out.lt,Nat.le_of_eq HOB.out.symm⟩)
 have HV2:=zh (show ob < V2.heap.size∧V2.heap.size≤V3.heap.size from ⟨Nat.lt_of_lt_of_le HB5.out.1.lt HB2.out.size,HKB.out.size⟩)
 have HL3:=zh (HB5.out.2.1.trans (HB3.out.mono HB5.out.2.1.size))
 clear x1
 go_loopw [4,25] (fun v4 v25 wr=>∃k:Nat,k≤l.length∧v25=.int .i64 k∧RExpI s l ob V3 k wr) (fun _ v25 _=>l.length-(intOf v25).toNat)
 case atStart=>exact⟨0,by omega,rfl,none,0,[],HO3.out,rfl,SL.nil _ _ _,fun a h=>(by cases h),fun x h=>(by cases h),KeepF.refl⟩
 case round=>
  obtain⟨k,hk,rfl,A,c,lx,hO,hlx,hS,hA,hX,hKV⟩:=hrel
  have HO:=zh hO
  have HLX:=zh hlx
  have HS:=zh hS
  have HA:=zh hA
  have HX:=zh hX
  have HKV:=zh hKV
  clear hO hlx hS hA hX hKV
  by_cases hkl:k < l.length
  rotate_left
  ·have hke:k=l.length:=by omega
   have k1:¬(k:Int) < (l.length:Int):=by omega
   have HKE:=zh hke
   have x0:=HO.out.cell 0
   have x1:=HO.out.cell 1
   have x2:=HO.out.cell 2
   simp only[List.getElem?_toArray,List.getElem?_cons_zero,List.getElem?_cons_succ]at x0 x1 x2
   have f0:=HO.out.frozen 0
   have f1:=HO.out.frozen 1
   have f2:=HO.out.frozen 2
   have hne:∀a,A=some a→ob ≠ a.block:=fun a ha=>by have:=HA.out a ha;have:=HSZ.out;omega
   have HNE:=zh hne
   clear hke hkl hk hne
   go_wp2
   have hB:=(((HO.out.set_ 0 (.int .u64 s.deliver)).set_ 1 (.int .u64 s.next)).set_ 2 (.slice A k c))
   have hB':Blk (((wr.setCell ⟨ob,0,none⟩ (.int .u64 s.deliver)).setCell ⟨ob,1,none⟩ (.int .u64 s.next)).setCell ⟨ob,2,none⟩ (.slice A k c)) ob 46 #[.int .u64 s.deliver,.int .u64 s.next,.slice A k c]:=by simpa using hB
   have hkp:KeepF (fun q=>q=ob) wr (((wr.setCell ⟨ob,0,none⟩ (.int .u64 s.deliver)).setCell ⟨ob,1,none⟩ (.int .u64 s.next)).setCell ⟨ob,2,none⟩ (.slice A k c)):=(((KeepF.refl (F:=fun q=>q=ob) (w:=wr)).setCell (p:=⟨ob,0,none⟩) rfl _).setCell (p:=⟨ob,1,none⟩) rfl _).setCell (p:=⟨ob,2,none⟩) rfl _
   refine bodyPost_ret (v:=.agg #[.int .u64 s.deliver,.int .u64 s.next,.slice A k c]) ?_ ?_ ?_
   case refine_1=>exact results_cell_row (g:=ob) (t:=46) (fr:=(0,0)) Tryz.results19 _ _ _ _ rfl hB' Tryz.underlying46 rfl (by kernel_rfl)
   case refine_2=>rfl
   have hl3:=HL3.out.size
   refine⟨A,c,lx,by rw[HKE.out],by have h1:=HLX.out;rw[HKE.out,List.take_length]at h1;exact h1,?_,fun a ha=>Nat.le_trans hl3 (HA.out a ha),fun x hx=>⟨(HX.out x hx).1.keepF hkp (fun a ha e=>by have:=(HX.out x hx).2 a ha;have:=HSZ.out;omega),fun a ha=>Nat.le_trans hl3 ((HX.out x hx).2 a ha)⟩,?_⟩
   ·have h1:=HS.out.keepF hkp (fun a ha e=>HNE.out a ha e.symm)
    rw[HKE.out]at h1 ⊢
    exact h1
   ·exact KeepF.below (KeepF.below HL3.out HKV.out (fun q hq=>by rw[hq];exact HSZ.out.2) hl3) hkp (fun q hq=>by rw[hq];exact HSZ.out.2) (Nat.le_trans hl3 HKV.out.size)
  obtain⟨kb,ko,rfl,hkb,hkc⟩:=HKR.out (by omega)
  have hkbf:=HKF.out _ rfl
  have hsz:=HSZ.out
  have hv2:=HV2.out
  have hsl:sb < w.heap.size:=HW.out.1 _ HWG.out.2
  obtain⟨key,hkey⟩:∃key,key=(keysE l).getD k 0:=⟨_,rfl⟩
  have ck:wr.cell? ⟨kb,ko+k,none⟩=some (.int .u64 key):=by
   rw[hkey]
   exact(HKV.out.cell (p:=⟨kb,ko+k,none⟩) hkb (by show ¬kb=ob;simp only at hkbf;omega)).trans (hkc k hkl)
  have k0:(0:Int)≤(k:Int):=by omega
  have k1:(k:Int) < (l.length:Int):=by omega
  have hll:(l.length:Int)≤1000:=by have:=HLL.out;omega
  obtain⟨e,he⟩:∃e,l[k]? = some e:=⟨_,List.getElem?_eq_getElem hkl⟩
  have hct:key=e.v.ct:=by rw[hkey];unfold keysE;rw[List.getD_eq_getElem?_getD,List.getElem?_map,he];rfl
  have hel:e∈l:=List.mem_of_getElem? he
  have hfs:findS key l=some e:=by rw[hct];exact find_at HRI.out hel
  have hok:=HT3.out.ok
  have hrg:=HT3.out.rng e hel
  have hk0:0≤key:=by rw[hct];have:=hok.deliver.1;omega
  have hk4:key < 4294967296:=by rw[hct];have:=hok.next;omega
  have hk9:key < 18446744073709551616:=by omega
  have hTr:=HT3.out.keepF HKV.out (fun q hq=>⟨fun hw=>by have:=HW.out.1 _ hw;omega,fun hw=>by have:=HW.out.2 _ hw;omega⟩)
  have HFA:=zh (show ∀W',KeepF (fun q=>∃a,A=some a∧q=a.block) wr W'→RxM W' g s W R sb l ub eb from fun W' hW=>hTr.keepF hW (fun q ⟨a,ha,h⟩=>by
   have h1:=HA.out a ha
   exact⟨fun hw=>by have:=HW.out.1 _ hw;omega,fun hw=>by have:=HW.out.2 _ hw;omega⟩))
  have HOA:=zh (show ∀W',KeepF (fun q=>∃a,A=some a∧q=a.block) wr W'→Blk W' ob 46 #[.int .u64 s.deliver,.int .u64 s.next,.slice A k c]from fun W' hW=>hW.blk HO.out (fun⟨a,ha,h⟩=>by have:=HA.out a ha;omega))
  have HLK:=zh (show ∀W',KeepF (fun q=>∃a,A=some a∧q=a.block) wr W'→(Instr.lookup 78 (.map (some sb)) (.int .u64 key) false).run Tryz.prog W'=.ok (.slice e.A e.v.n e.c) W' from fun W' hW=>smap_at (HFA.out W' hW).st hk0 hk9 hfs)
  have HPK:=zh (show ∀W',KeepF (fun q=>∃a,A=some a∧q=a.block) wr W'→Pkt W' R e.A e.v.n e.c e.v.z from fun W' hW=>(HFA.out W' hW).pk e hel)
  have HCT:=zh hct
  have HE:=zh (And.intro he hel)
  obtain⟨ic,hic,hicz,hics,hicb⟩:=infoCnt
  have wk:IntKind.u32.wrap key=key:=by simp[IntKind.wrap_u32];omega
  have hkk:k < 1000:=by have:=HLL.out;omega
  clear hkc hkb hkey hkbf hct hel hfs hok hrg he hTr hsl
  go_upto_region 7 with (fail)
  refine wp_region_Ln (L:=15) (S:=fun w'=>KeepF (fun q=>∃a,A=some a∧q=a.block) wr w') (by kernel_rfl) (KeepF.refl.drew) (fun hHeld=>?_)
  obtain⟨w0,hw0⟩:∃w0,w0=wr.drew:=⟨_,rfl⟩
  rw[←hw0]
  rw[←hw0]at hHeld
  have hb0:Below wr.heap.size wr w0:=by rw[hw0];exact(Below.refl _ _).drew
  clear hw0
  refine tkL (i:=0) (oi:=⟨some 29,_,_,_,_,_⟩) (v:=.pointer (some ⟨ob,2,none⟩)) rfl (Or.inl ⟨by rfl,fun W hW=>(by go_simp)⟩) (by assumption) ?_
  refine tkL (i:=1) (oi:=⟨some 30,_,_,_,_,_⟩) (v:=.slice A k c) rfl (Or.inl ⟨by rfl,fun W hW=>(by have:=(HOA.out W hW).cell 2;simp at this;go_simp)⟩) (by assumption) ?_
  refine tkL (i:=2) (oi:=⟨some 31,_,_,_,_,_⟩) (v:=.int .u64 key) rfl (Or.inl ⟨by rfl,fun W hW=>(by rfl)⟩) (by assumption) ?_
  refine tkL (i:=3) (oi:=⟨some 32,_,_,_,_,_⟩) (v:=.int .u32 key) rfl (Or.inl ⟨by rfl,fun W hW=>(by go_simp)⟩) (by assumption) ?_
  refine tkL (i:=4) (oi:=⟨some 33,_,_,_,_,_⟩) (v:=.pointer (some ⟨g,0,none⟩)) rfl (Or.inl ⟨by rfl,fun W hW=>(by rfl)⟩) (by assumption) ?_
  refine tkL (i:=5) (oi:=⟨some 34,_,_,_,_,_⟩) (v:=.pointer (some ⟨g,0,none⟩)) rfl (Or.inl ⟨by rfl,fun W hW=>(by go_simp)⟩) (by assumption) ?_
  refine tkL (i:=6) (oi:=⟨some 35,_,_,_,_,_⟩) (v:=.pointer (some ⟨g,43,none⟩)) rfl (Or.inl ⟨by rfl,fun W hW=>(by go_simp)⟩) (by assumption) ?_
  refine tkL (i:=7) (oi:=⟨some 36,_,_,_,_,_⟩) (v:=.map (some sb)) rfl (Or.inl ⟨by rfl,fun W hW=>(by have:=(HFA.out W hW).cs;go_simp)⟩) (by assumption) ?_
  refine tkL (i:=8) (oi:=⟨some 37,_,_,_,_,_⟩) (v:=.int .u64 key) rfl (Or.inl ⟨by rfl,fun W hW=>(by rfl)⟩) (by assumption) ?_
  refine tkL (i:=9) (oi:=⟨some 38,_,_,_,_,_⟩) (v:=.slice e.A e.v.n e.c) rfl (Or.inl ⟨by rfl,fun W hW=>(by have:=HLK.out W hW;go_simp)⟩) (by assumption) ?_
  refine wpAnyL_one (i:=10) (o:=⟨some 39,_,_,_,_,_⟩) (by kernel_rfl) rfl (fun K hK=>?_)
  rw[if_pos (by rfl)]
  go_simp
  refine(clone_own e.A e.v.n e.c e.v.z w0 (by have:=(HPK.out w0 hHeld).max;omega) (HPK.out w0 hHeld).row).mono ?_
  rintro en u1 ⟨A2,c2,rfl,hc2,ho2,hb2⟩
  dsimp only
  obtain⟨A2',c2',hv2',hs2,hf2⟩:=own_sl ho2
  cases hv2'
  have hb1:Below wr.heap.size wr u1:=hb0.trans (hb2.mono hb0.size)
  have hE1:KeepF (fun q=>∃a,A=some a∧q=a.block) wr u1:=hHeld.trans (KeepF.of_below (F:=fun _=>False) hb2) (fun _ _ h=>h.elim)
  have hf2':∀a,A2=some a→wr.heap.size≤a.block:=fun a ha=>Nat.le_trans hb0.size (hf2 a ha)
  refine hK.out _ _ hE1 (fun hHeld=>?_)
  clear hK K ho2 hb2
  try simp only[Act.put,List.setIfInBounds_toArray,List.set_cons_zero,List.set_cons_succ]
  refine tkL (i:=11) (oi:=⟨some 40,_,_,_,_,_⟩) (v:=.agg #[.int .u32 key,.slice A2 e.v.n c2]) rfl (Or.inl ⟨by rfl,fun W hW=>(by go_simp)⟩) (by assumption) ?_
  refine wpAnyL_one (i:=12) (o:=⟨some 41,_,_,_,_,_⟩) (by kernel_rfl) rfl (fun K hK=>?_)
  rw[if_pos (by rfl)]
  go_simp
  obtain⟨u2,hu2⟩:∃X,X=u1.alloc (.cells #[.int .u32 key,.slice A2 e.v.n c2] 77):=⟨_,rfl⟩
  obtain⟨nb,hnb⟩:∃nb,nb=u1.heap.size:=⟨_,rfl⟩
  have hbk:Below u1.heap.size u1 u2:=by rw[hu2];exact(Below.refl _ _).alloc (Nat.le_refl _) _
  have hNB:Blk u2 nb 77 #[.int .u32 key,.slice A2 e.v.n c2]:=by rw[hu2,hnb];exact Blk.new _ _ _
  have hb3:Below wr.heap.size wr u2:=hb1.trans (hbk.mono hb1.size)
  have hE2:KeepF (fun q=>∃a,A=some a∧q=a.block) wr u2:=hE1.trans (KeepF.of_below (F:=fun _=>False) hbk) (fun _ _ h=>h.elim)
  have hs3:=hs2.next hbk
  rw[←hu2,←hnb]
  refine hK.out _ _ hE2 (fun hHeld=>?_)
  clear hK K hu2
  try simp only[Act.put,List.setIfInBounds_toArray,List.set_cons_zero,List.set_cons_succ]
  refine wpAnyL_one (i:=13) (o:=⟨some 42,_,_,_,_,_⟩) (by kernel_rfl) rfl (fun K hK=>?_)
  rw[if_pos (by rfl)]
  refine wp_sl_append _ _ 44 44 rfl u2 77 ic (.agg #[.int .u32 0,.slice none 0 0]) 2 32 Tryz.underlying44 hic hicz hics hicb rfl A k c (lx.flatMap SE.cc) rfl (HS.out.next hb3) (.slice (some ⟨nb,0,none⟩) 1 1) rfl 1 [.int .u32 key,.slice A2 e.v.n c2] (Src.ofSlice _ Tryz.underlying44 ⟨nb,0,none⟩ 1 1 _ rfl (fun j u hu=>by
    have hj:j < 2:=(List.getElem?_eq_some_iff.1 hu).1
    rw[Addr.add_lit,Nat.zero_add,hNB.cell j]
    simpa using hu) (by simp[Value.oneCell'])) (by decide) (by unfold maxLen;omega) (by omega) (fun A9 c9 u3 hs9 hk9 ha9=>?_)
  have hE3:KeepF (fun q=>∃a,A=some a∧q=a.block) wr u3:=hE2.trans hk9 (fun _ _ h=>h)
  have HA9:=zh (show ∀a,A9=some a→V3.heap.size≤a.block from fun a ha=>by
   rcases ha9 a ha with ⟨a',h1,h2⟩ | h2
   ·rw[h2];exact HA.out a' h1
   ·exact Nat.le_trans HKV.out.size (Nat.le_trans hb3.size h2))
  have hnA:∀a,A2=some a→¬∃a',A=some a'∧a.block=a'.block:=fun a ha ⟨a',h1,h2⟩=>by
   have h3:=hf2' a ha
   have h4:=HS.out.lt h1
   omega
  have hs4:=hs3.keepF hk9 hnA
  have hXn:XPk u3 V3.heap.size (⟨e.v,A2,c2⟩:SE):=⟨hs4,fun a ha=>Nat.le_trans HKV.out.size (hf2' a ha)⟩
  have hXo:∀x,x∈lx→XPk u3 V3.heap.size x:=fun x hx=>by
   have h1:=HX.out x hx
   refine⟨(h1.1.next hb3).keepF hk9 (fun a ha ⟨a',h2,h3⟩=>?_),h1.2⟩
   obtain⟨cu1,hc1⟩:=(h1.1.next hb3).obj ha
   obtain⟨cu2,hc2'⟩:=(HS.out.next hb3).obj h2
   rw[h3,hc2']at hc1
   cases hc1
  have HS9:=zh (show SL u3 77 2 A9 (k+1) c9 ((lx++[(⟨e.v,A2,c2⟩:SE)]).flatMap SE.cc) by
   rw[List.flatMap_append]
   have h1:([(⟨e.v,A2,c2⟩:SE)]).flatMap SE.cc=[.int .u32 key,.slice A2 e.v.n c2]:=by rw[HCT.out];rfl
   rw[h1]
   exact hs9)
  have HX9:=zh (show ∀x,x∈lx++[(⟨e.v,A2,c2⟩:SE)]→XPk u3 V3.heap.size x from fun x hx=>by
   rcases List.mem_append.1 hx with hx | hx
   ·exact hXo x hx
   ·have:x=(⟨e.v,A2,c2⟩:SE):=by simpa using hx
    rw[this]
    exact hXn)
  have HLX9:=zh (show(lx++[(⟨e.v,A2,c2⟩:SE)]).map (·.v)=(l.take (k+1)).map (·.v) by
   rw[List.take_add_one,HE.out.1,List.map_append,List.map_append,HLX.out]
   rfl)
  have HE3:=zh hE3
  refine hK.out _ _ hE3 (fun hHeld=>?_)
  clear hK K hs9 hk9 ha9 hXn hXo hs4 hnA hE1 hE2
  try simp only[Act.put,List.setIfInBounds_toArray,List.set_cons_zero,List.set_cons_succ]
  refine tkL (i:=14) (oi:=⟨some 43,_,_,_,_,_⟩) (v:=.pointer (some ⟨ob,2,none⟩)) rfl (Or.inl ⟨by rfl,fun W hW=>(by go_simp)⟩) (by assumption) ?_
  refine wpAnyL_last (o:=⟨none,_,_,_,_,_⟩) (by kernel_rfl) (by kernel_rfl) rfl (fun K hK=>?_)
  rw[if_pos (by rfl)]
  have co:=(HOA.out u3 HE3.out).cell 2
  have fo:=(HOA.out u3 HE3.out).frozen 2
  simp at co
  go_simp
  clear co fo
  refine hK.out _ _ ?_
  clear hK K hHeld
  try simp only[Act.put]
  have hK7:=keep_set u3 ob 2 (.slice A9 (k+1) c9)
  have hB7:Blk (u3.setCell ⟨ob,2,none⟩ (.slice A9 (k+1) c9)) ob 46 #[.int .u64 s.deliver,.int .u64 s.next,.slice A9 (k+1) c9]:=by
   have h1:=(HOA.out u3 HE3.out).set_ 2 (.slice A9 (k+1) c9)
   simpa using h1
  have hI9:RExpI s l ob V3 (k+1) (u3.setCell ⟨ob,2,none⟩ (.slice A9 (k+1) c9)):=⟨A9,c9,lx++[(⟨e.v,A2,c2⟩:SE)],hB7,HLX9.out,HS9.out.keepF hK7 (fun a ha e=>by have:=HA9.out a ha;omega),HA9.out,fun x hx=>(HX9.out x hx).keepF hK7 (fun a ha e=>by have:=(HX9.out x hx).2 a ha;omega),(HKV.out.trans HE3.out (fun q hq ⟨a,ha,h⟩=>by have:=HA.out a ha;omega)).trans hK7 (fun q _ h=>h)⟩
  clear hK7 hB7
  generalize u3.setCell ⟨ob,2,none⟩ (.slice A9 (k+1) c9)=V9 at hI9 ⊢
  have HI9:=zh hI9
  clear hI9
  go_wp2
  go_roundw
  case rel=>exact⟨k+1,by omega,by go_num,HI9.out⟩
  case measure=>simp[intOf];omega
end Go.Proofs.YtnadmdadcpemnaaGreat
