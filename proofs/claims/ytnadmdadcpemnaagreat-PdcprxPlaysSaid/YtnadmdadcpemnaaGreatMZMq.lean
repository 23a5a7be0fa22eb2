import Derived.Test.YtnadmdadcpemnaaGreatMZAq
import Derived.Test.YtnadmdadcpemnaaGreatMDUq
import Derived.Test.YtnadmdadcpemnaaGreatMDVAq
import Derived.Test.YtnadmdadcpemnaaGreatMRMq
import Derived.Test.YtnadmdadcpemnaaGreatMDQq
import Derived.Test.YtnadmdadcpemnaaGreatMTBq
import Derived.Test.YtnadmdadcpemnaaGreatMYAq
import Derived.Test.YtnadmdadcpemnaaGreatMCFq
import Derived.Lib.SlBytesConst
set_option maxRecDepth 100000
set_option maxHeartbeats 6400000
namespace Go.Proofs.YtnadmdadcpemnaaGreat
set_option linter.unusedVariables false
set_option linter.unusedSimpArgs false
open Go.RowKit
attribute [local go_sem ↓] Go.wp_at_zero Go.wp_at_succ
private theorem tkL {P:Program} {ops:Array Oper} {Q:Exit->Act->World->Prop} {md:Region.Mode} {S:World->Prop} {L i:Nat} {oi:Oper} {v:Value} {fuel:Nat} {listed l':Array Bool} {a a':Act} {w:World} (hi:ops[i]? = some oi) (hy:YieldsIf P ops S oi v a) (hS:S w)
  (h:wpAnyL P md ops Q S L fuel l' a' w) (hl:listed.setIfInBounds i true=l':=by(try simp only[qa,qb,qc]);rfl) (ha:a.put oi.dst v=a':=by(try simp only[Act.put,qa,qb,qc]);rfl) (hL:waitsFor md ops L i=true:=by kernel_rfl) (hs:Region.noSelect ops=true:=by kernel_rfl) (hf:Region.free md ops listed i=true:=by kernel_rfl) (hr:(Region.ready md ops listed).contains i=true:=by kernel_rfl)
  (hQ:∀c a w,Q (.panic c) (a.put oi.dst v) w->Q (.panic c) a w:=by exact fun _ _ _ h=>h):wpAnyL P md ops Q S L (fuel+1) listed a w:=by subst hl;subst ha;exact wpAnyL_take hi hL hs hf hr hQ hy hS h
def CE2 (w:World) (A:Option Addr) (k:Nat) (ct:Int) (n:Nat) (z:Nat->Int):Prop:=
 ∃lb lo PA pc,A=some ⟨lb,lo,none⟩/\lb < w.heap.size/\w.cell? ⟨lb,lo+k*2,none⟩=some (.int .u32 ct)/\w.cell? ⟨lb,lo+k*2+1,none⟩=some (.slice PA n pc)/\Row w w.heap.size PA n (fun j=>.int .u8 (z j))
def BE2 (w:World) (A:Option Addr) (k:Nat) (n:Nat) (z:Nat->Int):Prop:=
 ∃lb lo PA pc,A=some ⟨lb,lo,none⟩/\lb < w.heap.size/\w.cell? ⟨lb,lo+k,none⟩=some (.slice PA n pc)/\Row w w.heap.size PA n (fun j=>.int .u8 (z j))
theorem CE2.below {w w':World} {A:Option Addr} {k:Nat} {ct:Int} {n:Nat} {z:Nat->Int} (h:CE2 w A k ct n z) (hb:Below w.heap.size w w'):CE2 w' A k ct n z:=by
 obtain⟨lb,lo,PA,pc,h1,h2,h3,h4,h5⟩:=h
 exact⟨lb,lo,PA,pc,h1,Nat.lt_of_lt_of_le h2 hb.size,(hb.cell (p:=⟨lb,lo+k*2,none⟩) h2).trans h3,(hb.cell (p:=⟨lb,lo+k*2+1,none⟩) h2).trans h4,h5.next hb⟩
theorem BE2.below {w w':World} {A:Option Addr} {k:Nat} {n:Nat} {z:Nat->Int} (h:BE2 w A k n z) (hb:Below w.heap.size w w'):BE2 w' A k n z:=by
 obtain⟨lb,lo,PA,pc,h1,h2,h3,h5⟩:=h
 exact⟨lb,lo,PA,pc,h1,Nat.lt_of_lt_of_le h2 hb.size,(hb.cell (p:=⟨lb,lo+k,none⟩) h2).trans h3,h5.next hb⟩
def SameC (w:World) (A A':Option Addr) (m:Nat):Prop:=∀k,k < m->∃ct n z z',CE2 w A k ct n z/\CE2 w A' k ct n z'/\∀j,j < n->z j=z' j
def SameB (w:World) (A A':Option Addr) (m:Nat):Prop:=∀k,k < m->∃n z z',BE2 w A k n z/\BE2 w A' k n z'/\∀j,j < n->z j=z' j
theorem SameC.below {w w':World} {A A':Option Addr} {m:Nat} (h:SameC w A A' m) (hb:Below w.heap.size w w'):SameC w' A A' m:=fun k hk=>by
 obtain⟨ct,n,z,z',h1,h2,h3⟩:=h k hk
 exact⟨ct,n,z,z',h1.below hb,h2.below hb,h3⟩
theorem SameB.below {w w':World} {A A':Option Addr} {m:Nat} (h:SameB w A A' m) (hb:Below w.heap.size w w'):SameB w' A A' m:=fun k hk=>by
 obtain⟨n,z,z',h1,h2,h3⟩:=h k hk
 exact⟨n,z,z',h1.below hb,h2.below hb,h3⟩
theorem samec_true (A A':Option Addr) (m c c':Nat) (w:World) (hm:m<=maxLen) (h:SameC w A A' m) :
  Calls Tryz.prog 42 #[.slice A m c,.slice A' m c'] w fun e w'=>e=.returned (.bool true)/\Below w.heap.size w w':=by
 unfold maxLen at hm;have HS:=zh h;have hm':(m:Int)<=9223372036854775807:=by omega
 clear h;go_enter Tryz.func42,Tryz.ntmps42;go_wp2;go_loopw [5] (fun v wr=>∃k:Nat,k<=m/\v=.int .i64 k/\Below w.heap.size w wr) (fun v _=>m-(intOf v).toNat)
 case atStart=>exact⟨0,by omega,rfl,Below.refl _ _⟩
 case round=>
  obtain⟨k,hk,rfl,hb⟩:=hrel;by_cases hlt:k < m
  ·obtain⟨ct,n,z,z',⟨lb,lo,PA,pc,rfl,h2,h3,h4,h5⟩,⟨lb',lo',PA',pc',rfl,k2,k3,k4,k5⟩,he⟩:=(HS.out.below hb) k hlt;have s1:=fun q=>row_string (P:=Tryz.prog) (w:=wr.drewN q) 35 9 5 Tryz.underlying35 Tryz.underlying5 Tryz.underlying9 (show Row (wr.drewN q) wr.heap.size PA n (fun j=>.int .u8 (z j))from h5) pc;have s2:=fun q=>row_string (P:=Tryz.prog) (w:=wr.drewN q) 35 9 5 Tryz.underlying35 Tryz.underlying5 Tryz.underlying9 (show Row (wr.drewN q) wr.heap.size PA' n (fun j=>.int .u8 (z' j))from k5) pc';rw[<-bytesOf_congr he]at s2;have BB:=zh hb;have k0:(0:Int)<=(k:Int):=by omega
   have k1:(k:Int) < (m:Int):=by omega
   clear h5 k5 he hb;go_upto_region 6 with (fail)
   have hg:(ct != ct)=false:=by simp
   go_quiet (fail);go_wp2;go_roundw
   case rel=>exact⟨k+1,by omega,by go_num,below_drewN BB.out _⟩
   case measure=>simp[intOf];omega
  ·obtain rfl:k=m:=by omega
   have BB:=zh hb;clear hb;go_wp2;go_ret
   exact⟨rfl,BB.out⟩
theorem samel_true (A A':Option Addr) (m c c':Nat) (w:World) (hm:m<=maxLen) (h:SameB w A A' m) :
  Calls Tryz.prog 14 #[.slice A m c,.slice A' m c'] w fun e w'=>e=.returned (.bool true)/\Below w.heap.size w w':=by
 unfold maxLen at hm;have HS:=zh h;have hm':(m:Int)<=9223372036854775807:=by omega
 clear h;go_enter Tryz.func14,Tryz.ntmps14;go_wp2;go_loopw [5] (fun v wr=>∃k:Nat,k<=m/\v=.int .i64 k/\Below w.heap.size w wr) (fun v _=>m-(intOf v).toNat)
 case atStart=>exact⟨0,by omega,rfl,Below.refl _ _⟩
 case round=>
  obtain⟨k,hk,rfl,hb⟩:=hrel;by_cases hlt:k < m
  ·obtain⟨n,z,z',⟨lb,lo,PA,pc,rfl,h2,h3,h5⟩,⟨lb',lo',PA',pc',rfl,k2,k3,k5⟩,he⟩:=(HS.out.below hb) k hlt;have s1:=fun q=>row_string (P:=Tryz.prog) (w:=wr.drewN q) 35 9 5 Tryz.underlying35 Tryz.underlying5 Tryz.underlying9 (show Row (wr.drewN q) wr.heap.size PA n (fun j=>.int .u8 (z j))from h5) pc;have s2:=fun q=>row_string (P:=Tryz.prog) (w:=wr.drewN q) 35 9 5 Tryz.underlying35 Tryz.underlying5 Tryz.underlying9 (show Row (wr.drewN q) wr.heap.size PA' n (fun j=>.int .u8 (z' j))from k5) pc';rw[<-bytesOf_congr he]at s2;have BB:=zh hb;have k0:(0:Int)<=(k:Int):=by omega
   have k1:(k:Int) < (m:Int):=by omega
   clear h5 k5 he hb;go_upto_region 6 with (fail)
   go_quiet (fail);go_wp2;go_roundw
   case rel=>exact⟨k+1,by omega,by go_num,below_drewN BB.out _⟩
   case measure=>simp[intOf];omega
  ·obtain rfl:k=m:=by omega
   have BB:=zh hb;clear hb;go_wp2;go_ret
   exact⟨rfl,BB.out⟩
def tot46 (f:Nat->Nat):Nat->Int
 | 0=>0
 | k+1=>wrap64 (tot46 f k+(f k:Int))
def small46 (m:Nat) (pn:Nat->Nat):Bool:=decide (m<=40/\tot46 pn m<=9100)
theorem small46_ok (d nx:Int) (A:Option Addr) (m c1:Nat) (ct:Nat->Int) (PA:Nat->Option Addr) (pn pc:Nat->Nat) (z:Nat->Nat->Int) (w:World) (hm:m<=maxLen) (h:Cnts w A m ct PA pn pc z) :
  Calls Tryz.prog 15 #[.agg #[.int .u64 d,.int .u64 nx,.slice A m c1]] w fun e w'=>e=.returned (.bool (small46 m pn))/\Below w.heap.size w w':=by
 unfold maxLen at hm;have HC:=zh h;clear h;have hm':(m:Int)<=9223372036854775807:=by omega
 go_enter Tryz.func15,Tryz.ntmps15;go_upto_region 1 with (fail)
 refine wp_let (fun V=>Blk V w.heap.size 46 #[.int .u64 d,.int .u64 nx,.slice A m c1]/\Below w.heap.size w V) ⟨Blk.new _ _ _,(Below.refl _ w).alloc (Nat.le_refl _) _⟩ ?_;rintro w1 ⟨b1,b2⟩;obtain⟨fb,hfb⟩:∃fb,fb=w.heap.size:=⟨_,rfl⟩
 rw[<-hfb]at b1;rw[show(Value.pointer (some ⟨w.heap.size,0,none⟩))=.pointer (some ⟨fb,0,none⟩) by rw[hfb]];have x2:=b1.cell 2;simp at x2;have B1:=zh b2;have HC1:=zh (HC.out.below b2);have HFB:=zh hfb;clear b1 b2 hfb;go_wp2;go_loop [3,4] (fun v u=>∃k:Nat,k<=50/\k<=m/\u=.int .i64 k/\v=.int .i64 (tot46 pn k)) (fun _ u=>51-(intOf u).toNat)
 case atStart=>exact⟨0,by omega,by omega,rfl,rfl⟩
 case round=>
  obtain⟨k,hk50,hk,rfl,rfl⟩:=hrel;have HTT:=zh (show tot46 pn (k+1)=wrap64 (tot46 pn k+(pn k:Int))from rfl);obtain⟨t,ht⟩:∃t,t=tot46 pn k:=⟨_,rfl⟩
  rw[<-ht];rw[<-ht]at HTT;have HT0:=zh ht;have k0:(0:Int)<=(k:Int):=by omega
  clear ht;by_cases hlt:k < m/\k < 50
  ·obtain⟨hl1,hl2⟩:=hlt;obtain⟨lb,lo,rfl,hlb,hlc⟩:=HC1.out.at_ (by omega);obtain⟨_,q1⟩:=hlc k hl1;have k1:(k:Int) < (m:Int):=by omega
   have k2:(k:Int) < 50:=by omega
   clear hlc;go_wp2;go_round
   case rel=>exact⟨k+1,by omega,by omega,by go_num,by rw[HTT.out]⟩
   case measure=>simp[intOf];omega
  ·by_cases hlm:k < m
   ·have k1:(k:Int) < (m:Int):=by omega
    have k2:¬(k:Int) < 50:=by omega
    have g1:¬(m:Int)<=40:=by omega
    go_wp2;go_ret
    exact⟨ret_bool (by unfold small46;rw[eq_comm,decide_eq_false_iff_not];omega),B1.out⟩
   ·have hke:k=m:=by omega
    have k1:¬(k:Int) < (m:Int):=by omega
    have HK:=zh hke;clear hke hlt;by_cases g1:(m:Int)<=40
    ·go_wp2;go_ret
     exact⟨ret_bool (by
      unfold small46;rw[<-HK.out,<-HT0.out]
      exact decide_eq_decide.2 ⟨fun h=>⟨by have:=HK.out;omega,h⟩,fun h=>h.2⟩),B1.out⟩
    ·go_wp2;go_ret
     exact⟨ret_bool (by unfold small46;rw[eq_comm,decide_eq_false_iff_not];omega),B1.out⟩
theorem same46_true (d nx:Int) (A A':Option Addr) (m c c':Nat) (w:World) (hm:m<=maxLen) (h:SameC w A A' m):Calls Tryz.prog 18 #[.agg #[.int .u64 d,.int .u64 nx,.slice A m c],.agg #[.int .u64 d,.int .u64 nx,.slice A' m c']] w fun e w'=>e=.returned (.bool true)/\Below w.heap.size w w':=by
 have HC:=zh (fun(V:World) (hb:Below w.heap.size w V)=>samec_true A A' m c c' V hm (h.below hb));clear h hm;go_enter Tryz.func18,Tryz.ntmps18;go_upto_region 1 with (fail)
 refine wp_let (fun V=>Blk V w.heap.size 46 #[.int .u64 d,.int .u64 nx,.slice A m c]/\Blk V (w.heap.size+1) 46 #[.int .u64 d,.int .u64 nx,.slice A' m c']/\Below w.heap.size w V) ⟨(Blk.new _ _ _).alloc _,blk_atZ _ _ _ _ (by simp),((Below.refl _ w).alloc (Nat.le_refl _) _).alloc (by simp) _⟩ ?_;rintro W1 ⟨b1,b2,b3⟩;have B3:=zh b3;have x0:=b1.cell 0;have x1:=b1.cell 1;have x2:=b1.cell 2;have y0:=b2.cell 0;have y1:=b2.cell 1;have y2:=b2.cell 2;simp at x0 x1 x2 y0 y1 y2;clear b1 b2 b3;go_wp2_with (go_at_call 42;refine(HC.out _ B3.out).mono ?_;rintro e w2 ⟨rfl,hb⟩;have B4:=zh (B3.out.trans (hb.mono B3.out.size));clear hb);go_ret
 exact⟨rfl,B4.out⟩
end Go.Proofs.YtnadmdadcpemnaaGreat
namespace Go.Proofs.YtnadmdadcpemnaaGreat
set_option linter.unusedVariables false
set_option linter.unusedSimpArgs false
open Go.RowKit
section
variable {key z z':Nat->Nat} {n:Nat}
end
theorem dataAll_any (g:Nat) (C:Cfg) (W R:Nat->Prop) (sb ub eb:Nat) (A:Option Addr) (n c:Nat) (z:Nat->Nat) (hok:C.Ok) (hv:C.Valid) (hnc:n<=c) (hz:∀j,j < n->z j < 256):DataAll g C W R sb ub eb A n c z:=by
 cases hig:C.ig
 ·exact dataAll_plain g C W R sb ub eb A n c z hok hv hig hnc hz
 ·exact fun s' l' w' hC h hr hn2 ct W' hct hb=>by
   subst hC;have h6:6<=n:=by unfold Cfg.least at hn2;rw[hig]at hn2;simpa using hn2
   by_cases hbig:16384 < n-2
   ·exact data_plain g s' W R sb l' ub eb W' (h.below hb) hok hv ct hct A n c z (by omega) (.inr hbig) hnc hz (hr.next hb)
   ·exact data_ig g s' W R sb l' ub eb W' (h.below hb) hok hv hig ct hct A n c z h6 (by omega) hnc hz (hr.next hb)
end Go.Proofs.YtnadmdadcpemnaaGreat
namespace Go.Proofs.YtnadmdadcpemnaaGreat
set_option linter.unusedVariables false
set_option linter.unusedSimpArgs false
open Go.RowKit
attribute [local go_sem ↓] Go.wp_at_zero Go.wp_at_succ
def SE.cc (e:SE):List Value:=[.int .u32 e.v.ct,.slice e.A e.v.n e.c]
theorem SE.cclen (e:SE):e.cc.length=2:=rfl
def SV.bytes (v:SV):List Value:=(List.range v.n).map fun j=>.int .u8 (v.z j)
def XPk (w:World) (B:Nat) (x:SE):Prop:=SL w 5 1 x.A x.v.n x.c x.v.bytes/\∀a,x.A=some a->B<=a.block
theorem XPk.keepF {w w':World} {B:Nat} {x:SE} {F:Nat->Prop} (h:XPk w B x) (hk:KeepF F w w') (hF:∀a,x.A=some a->¬F a.block):XPk w' B x:=⟨h.1.keepF hk hF,h.2⟩
def SortedOK (l:List SE):Prop:=∀(sb bx:Nat) (w:World),SM w sb l->Blk w bx 78 #[.map (some sb)]->Rising l->
  Calls Tryz.prog 44 #[.func (.func 72) #[] #[.pointer (some ⟨bx,0,none⟩)]] w (KeysO l w)
theorem sortedOK_small {l:List SE} (hl:l.length<=250):SortedOK l:=fun sb bx w hS hB hr=>usorted_ok sb l bx w hS hB hr hl
theorem find_at {l:List SE} (hr:Rising l) {e:SE} (he:e∈l):findS e.v.ct l=some e:=by
 cases hf:findS e.v.ct l with
 | none=>exact absurd rfl (findS_none_iff.1 hf e he)
 | some x=>
  obtain⟨h1,h2⟩:=findS_some hf;have hu:∀(l:List SE),Rising l->∀a b,a∈l->b∈l->a.v.ct=b.v.ct->a=b:=by
   intro l
   induction l with
   | nil=>intro _ a b ha;cases ha
   | cons y r ih=>
    intro hr a b ha hb hab;obtain⟨h3,h4⟩:=List.pairwise_cons.1 hr;rcases List.mem_cons.1 ha with ha2 | ha2
    ·rcases List.mem_cons.1 hb with hb2 | hb2
     ·rw[ha2,hb2]
     ·have h5:=h3 b hb2;rw[ha2]at hab;omega
    ·rcases List.mem_cons.1 hb with hb2 | hb2
     ·have h5:=h3 a ha2;rw[hb2]at hab;omega
     ·exact ih h4 a b ha2 hb2 hab
  rw[hu l hr x e h1 he h2]
def RExpO (s:RS) (l:List SE) (w:World) (e:Ending) (w':World):Prop:=
 ∃(A:Option Addr) (c:Nat) (lx:List SE),e=.returned (.agg #[.int .u64 s.deliver,.int .u64 s.next,.slice A l.length c])/\lx.map (·.v)=l.map (·.v)/\SL w' 77 2 A l.length c (lx.flatMap SE.cc)/\(∀a,A=some a->w.heap.size<=a.block)/\(∀x,x∈lx->XPk w' w.heap.size x)/\Below w.heap.size w w'
def RExpI (s:RS) (l:List SE) (ob:Nat) (V3:World) (k:Nat) (V:World):Prop:=
 ∃(A:Option Addr) (c:Nat) (lx:List SE),Blk V ob 46 #[.int .u64 s.deliver,.int .u64 s.next,.slice A k c]/\lx.map (·.v)=(l.take k).map (·.v)/\SL V 77 2 A k c (lx.flatMap SE.cc)/\(∀a,A=some a->V3.heap.size<=a.block)/\(∀x,x∈lx->XPk V V3.heap.size x)/\KeepF (fun q=>q=ob) V3 V
theorem rexport_ok (g:Nat) (s:RS) (W R:Nat->Prop) (sb:Nat) (l:List SE) (ub eb:Nat) (w:World) (h:RxM w g s W R sb l ub eb) (hso:SortedOK l) (hl:l.length<=1000) :
  Calls Tryz.prog 19 #[.pointer (some ⟨g,0,none⟩)] w (RExpO s l w):=by
 have HT:=zh h;have HSO:=zh hso;have HLL:=zh hl;have HRI:=zh h.ris;have HW:=zh (And.intro h.win h.rin);have HWG:=zh (And.intro h.wg h.ws);clear h hso hl;go_enter Tryz.func19,Tryz.ntmps19;go_upto_region 1 with (fail)
 obtain⟨ob,hob⟩:∃ob,ob=w.heap.size:=⟨_,rfl⟩
 have HOB:=zh hob;refine wp_let (fun V=>Blk V ob 46 #[.int .u64 0,.int .u64 0,.slice none 0 0]/\Below w.heap.size w V) ⟨by rw[hob];exact Blk.new _ _ _,(Below.refl _ w).alloc (Nat.le_refl _) _⟩ ?_;rintro V ⟨v1,v2⟩;have hT:=HT.out.below v2;have HMD:=zh (rxmade_ok g V hT.made);have cd:=hT.cdeliver;have cx:=hT.cnext;have o0:=v1.frozen 0;have o1:=v1.frozen 1;have hgo:ob ≠ g:=by rw[hob];have:=HT.out.blk.lt;omega
 have HV:=zh (And.intro v1 (And.intro v2 hT));rw[<-hob];clear v1 v2 hT hob;go_upto_region 3 with (go_at_call 43;refine(HMD.out).mono ?_;rintro e w2 ⟨rfl,hw2⟩;subst hw2)
 have c0:=HV.out.1.cell 0;have c1:=HV.out.1.cell 1;simp at c0 c1;go_region;have hB5:Blk ((V.setCell ⟨ob,0,none⟩ (.int .u64 s.deliver)).setCell ⟨ob,1,none⟩ (.int .u64 s.next)).drew ob 46 #[.int .u64 s.deliver,.int .u64 s.next,.slice none 0 0]:=by
  have h5:=(HV.out.1.set_ 0 (.int .u64 s.deliver)).set_ 1 (.int .u64 s.next)
  exact(by simpa using h5:Blk _ _ _ _).drew
 have hb5:Below w.heap.size w ((V.setCell ⟨ob,0,none⟩ (.int .u64 s.deliver)).setCell ⟨ob,1,none⟩ (.int .u64 s.next)).drew:=((HV.out.2.1.setCell (p:=⟨ob,0,none⟩) (Nat.le_of_eq HOB.out.symm) _).setCell (p:=⟨ob,1,none⟩) (Nat.le_of_eq HOB.out.symm) _).drew;have hT5:=HT.out.below hb5;obtain⟨V5,hV5⟩:∃V5,V5=((V.setCell ⟨ob,0,none⟩ (.int .u64 s.deliver)).setCell ⟨ob,1,none⟩ (.int .u64 s.next)).drew:=⟨_,rfl⟩
 rw[<-hV5]at hB5 hb5 hT5;rw[<-hV5];obtain⟨V2,hV2⟩:∃V2,V2=V5.alloc (.cells #[.map (some sb)] 78):=⟨_,rfl⟩
 have hB2:Below V5.heap.size V5 V2:=by rw[hV2];exact(Below.refl _ V5).alloc (Nat.le_refl _) _
 have hBX:Blk V2 V5.heap.size 78 #[.map (some sb)]:=by rw[hV2];exact Blk.new _ _ _
 have HSR:=zh (HSO.out sb V5.heap.size V2 (hT5.st.below hB2 hT5.st.lt) hBX HRI.out);have HKM:=zh (keys_made sb V5);rw[<-hV2]at HKM;have x1:=hT5.cs;have HB5:=zh (And.intro hB5 (And.intro hb5 hT5));have HB2:=zh hB2;clear hB5 hb5 hT5 hV5 hB2 hBX hV2 c0 c1 cd cx o0 o1 HV HMD;go_wp2_with (first
  | (go_at_call 45;refine(HKM.out).mono ?_;rintro e w3 ⟨rfl,rfl⟩)
  | (go_at_call 44;refine(HSR.out).mono ?_;rintro e V3 ⟨KA,kc,rfl,hkr,hkf,hkb⟩;have HKR:=zh hkr;have HKF:=zh hkf;have HKB:=zh hkb;clear hkr hkf hkb))
 have HB3:=zh (HB2.out.trans (HKB.out.mono HB2.out.size));have HT3:=zh (HB5.out.2.2.below HB3.out);have HO3:=zh (HB5.out.1.below HB3.out HB5.out.1.lt);have HSZ:=zh (show ob < V3.heap.size/\w.heap.size<=ob from ⟨HO3.out.lt,Nat.le_of_eq HOB.out.symm⟩);have HV2:=zh (show ob < V2.heap.size/\V2.heap.size<=V3.heap.size from ⟨Nat.lt_of_lt_of_le HB5.out.1.lt HB2.out.size,HKB.out.size⟩);have HL3:=zh (HB5.out.2.1.trans (HB3.out.mono HB5.out.2.1.size));clear x1;go_loopw [4,25] (fun v4 v25 wr=>∃k:Nat,k<=l.length/\v25=.int .i64 k/\RExpI s l ob V3 k wr) (fun _ v25 _=>l.length-(intOf v25).toNat)
 case atStart=>exact⟨0,by omega,rfl,none,0,[],HO3.out,rfl,SL.nil _ _ _,fun a h=>(by cases h),fun x h=>(by cases h),KeepF.refl⟩
 case round=>
  obtain⟨k,hk,rfl,A,c,lx,hO,hlx,hS,hA,hX,hKV⟩:=hrel;have HO:=zh hO;have HLX:=zh hlx;have HS:=zh hS;have HA:=zh hA;have HX:=zh hX;have HKV:=zh hKV;clear hO hlx hS hA hX hKV;by_cases hkl:k < l.length;rotate_left
  ·have hke:k=l.length:=by omega
   have k1:¬(k:Int) < (l.length:Int):=by omega
   have HKE:=zh hke;have x0:=HO.out.cell 0;have x1:=HO.out.cell 1;have x2:=HO.out.cell 2;simp only[List.getElem?_toArray,List.getElem?_cons_zero,List.getElem?_cons_succ]at x0 x1 x2;have f0:=HO.out.frozen 0;have f1:=HO.out.frozen 1;have f2:=HO.out.frozen 2;have hne:∀a,A=some a->ob ≠ a.block:=fun a ha=>by have:=HA.out a ha;have:=HSZ.out;omega
   have HNE:=zh hne;clear hke hkl hk hne;go_wp2;have hB:=(((HO.out.set_ 0 (.int .u64 s.deliver)).set_ 1 (.int .u64 s.next)).set_ 2 (.slice A k c))
   have hB':Blk (((wr.setCell ⟨ob,0,none⟩ (.int .u64 s.deliver)).setCell ⟨ob,1,none⟩ (.int .u64 s.next)).setCell ⟨ob,2,none⟩ (.slice A k c)) ob 46 #[.int .u64 s.deliver,.int .u64 s.next,.slice A k c]:=by simpa using hB
   have hkp:KeepF (fun q=>q=ob) wr (((wr.setCell ⟨ob,0,none⟩ (.int .u64 s.deliver)).setCell ⟨ob,1,none⟩ (.int .u64 s.next)).setCell ⟨ob,2,none⟩ (.slice A k c)):=(((KeepF.refl (F:=fun q=>q=ob) (w:=wr)).setCell (p:=⟨ob,0,none⟩) rfl _).setCell (p:=⟨ob,1,none⟩) rfl _).setCell (p:=⟨ob,2,none⟩) rfl _;refine bodyPost_ret (v:=.agg #[.int .u64 s.deliver,.int .u64 s.next,.slice A k c]) ?_ ?_ ?_
   case refine_1=>exact results_cell_row (g:=ob) (t:=46) (fr:=(0,0)) Tryz.results19 _ _ _ _ rfl hB' Tryz.underlying46 rfl (by kernel_rfl)
   case refine_2=>rfl
   have hl3:=HL3.out.size;refine⟨A,c,lx,by rw[HKE.out],by have h1:=HLX.out;rw[HKE.out,List.take_length]at h1;exact h1,?_,fun a ha=>Nat.le_trans hl3 (HA.out a ha),fun x hx=>⟨(HX.out x hx).1.keepF hkp (fun a ha e=>by have:=(HX.out x hx).2 a ha;have:=HSZ.out;omega),fun a ha=>Nat.le_trans hl3 ((HX.out x hx).2 a ha)⟩,?_⟩
   ·have h1:=HS.out.keepF hkp (fun a ha e=>HNE.out a ha e.symm);rw[HKE.out]at h1 ⊢
    exact h1
   ·exact KeepF.below (KeepF.below HL3.out HKV.out (fun q hq=>by rw[hq];exact HSZ.out.2) hl3) hkp (fun q hq=>by rw[hq];exact HSZ.out.2) (Nat.le_trans hl3 HKV.out.size)
  obtain⟨kb,ko,rfl,hkb,hkc⟩:=HKR.out (by omega);have hkbf:=HKF.out _ rfl;have hsz:=HSZ.out;have hv2:=HV2.out;have hsl:sb < w.heap.size:=HW.out.1 _ HWG.out.2;obtain⟨key,hkey⟩:∃key,key=(keysE l).getD k 0:=⟨_,rfl⟩
  have ck:wr.cell? ⟨kb,ko+k,none⟩=some (.int .u64 key):=by
   rw[hkey]
   exact(HKV.out.cell (p:=⟨kb,ko+k,none⟩) hkb (by show ¬kb=ob;simp only at hkbf;omega)).trans (hkc k hkl)
  have k0:(0:Int)<=(k:Int):=by omega
  have k1:(k:Int) < (l.length:Int):=by omega
  have hll:(l.length:Int)<=1000:=by have:=HLL.out;omega
  obtain⟨e,he⟩:∃e,l[k]? = some e:=⟨_,List.getElem?_eq_getElem hkl⟩
  have hct:key=e.v.ct:=by rw[hkey];unfold keysE;rw[List.getD_eq_getElem?_getD,List.getElem?_map,he];rfl
  have hel:e∈l:=List.mem_of_getElem? he;have hfs:findS key l=some e:=by rw[hct];exact find_at HRI.out hel
  have hok:=HT3.out.ok;have hrg:=HT3.out.rng e hel;have hk0:0<=key:=by rw[hct];have:=hok.deliver.1;omega
  have hk4:key < 4294967296:=by rw[hct];have:=hok.next;omega
  have hk9:key < 18446744073709551616:=by omega
  have hTr:=HT3.out.keepF HKV.out (fun q hq=>⟨fun hw=>by have:=HW.out.1 _ hw;omega,fun hw=>by have:=HW.out.2 _ hw;omega⟩);have HFA:=zh (show ∀W',KeepF (fun q=>∃a,A=some a/\q=a.block) wr W'->RxM W' g s W R sb l ub eb from fun W' hW=>hTr.keepF hW (fun q ⟨a,ha,h⟩=>by
   have h1:=HA.out a ha
   exact⟨fun hw=>by have:=HW.out.1 _ hw;omega,fun hw=>by have:=HW.out.2 _ hw;omega⟩))
  have HOA:=zh (show ∀W',KeepF (fun q=>∃a,A=some a/\q=a.block) wr W'->Blk W' ob 46 #[.int .u64 s.deliver,.int .u64 s.next,.slice A k c]from fun W' hW=>hW.blk HO.out (fun⟨a,ha,h⟩=>by have:=HA.out a ha;omega));have HLK:=zh (show ∀W',KeepF (fun q=>∃a,A=some a/\q=a.block) wr W'->(Instr.lookup 78 (.map (some sb)) (.int .u64 key) false).run Tryz.prog W'=.ok (.slice e.A e.v.n e.c) W' from fun W' hW=>smap_at (HFA.out W' hW).st hk0 hk9 hfs);have HPK:=zh (show ∀W',KeepF (fun q=>∃a,A=some a/\q=a.block) wr W'->Pkt W' R e.A e.v.n e.c e.v.z from fun W' hW=>(HFA.out W' hW).pk e hel);have HCT:=zh hct;have HE:=zh (And.intro he hel);obtain⟨ic,hic,hicz,hics,hicb⟩:=infoCnt;have wk:IntKind.u32.wrap key=key:=by simp[IntKind.wrap_u32];omega
  have hkk:k < 1000:=by have:=HLL.out;omega
  clear hkc hkb hkey hkbf hct hel hfs hok hrg he hTr hsl;go_upto_region 7 with (fail)
  refine wp_region_Ln (L:=15) (S:=fun w'=>KeepF (fun q=>∃a,A=some a/\q=a.block) wr w') (by kernel_rfl) (KeepF.refl.drew) (fun hHeld=>?_);obtain⟨w0,hw0⟩:∃w0,w0=wr.drew:=⟨_,rfl⟩
  rw[<-hw0];rw[<-hw0]at hHeld;have hb0:Below wr.heap.size wr w0:=by rw[hw0];exact(Below.refl _ _).drew
  clear hw0;refine tkL (i:=0) (oi:=⟨some 29,_,_,_,_,_⟩) (v:=.pointer (some ⟨ob,2,none⟩)) rfl (Or.inl ⟨by rfl,fun W hW=>(by go_simp)⟩) (by assumption) ?_;refine tkL (i:=1) (oi:=⟨some 30,_,_,_,_,_⟩) (v:=.slice A k c) rfl (Or.inl ⟨by rfl,fun W hW=>(by have:=(HOA.out W hW).cell 2;simp at this;go_simp)⟩) (by assumption) ?_;refine tkL (i:=2) (oi:=⟨some 31,_,_,_,_,_⟩) (v:=.int .u64 key) rfl (Or.inl ⟨by rfl,fun W hW=>(by rfl)⟩) (by assumption) ?_;refine tkL (i:=3) (oi:=⟨some 32,_,_,_,_,_⟩) (v:=.int .u32 key) rfl (Or.inl ⟨by rfl,fun W hW=>(by go_simp)⟩) (by assumption) ?_;refine tkL (i:=4) (oi:=⟨some 33,_,_,_,_,_⟩) (v:=.pointer (some ⟨g,0,none⟩)) rfl (Or.inl ⟨by rfl,fun W hW=>(by rfl)⟩) (by assumption) ?_;refine tkL (i:=5) (oi:=⟨some 34,_,_,_,_,_⟩) (v:=.pointer (some ⟨g,0,none⟩)) rfl (Or.inl ⟨by rfl,fun W hW=>(by go_simp)⟩) (by assumption) ?_;refine tkL (i:=6) (oi:=⟨some 35,_,_,_,_,_⟩) (v:=.pointer (some ⟨g,43,none⟩)) rfl (Or.inl ⟨by rfl,fun W hW=>(by go_simp)⟩) (by assumption) ?_;refine tkL (i:=7) (oi:=⟨some 36,_,_,_,_,_⟩) (v:=.map (some sb)) rfl (Or.inl ⟨by rfl,fun W hW=>(by have:=(HFA.out W hW).cs;go_simp)⟩) (by assumption) ?_;refine tkL (i:=8) (oi:=⟨some 37,_,_,_,_,_⟩) (v:=.int .u64 key) rfl (Or.inl ⟨by rfl,fun W hW=>(by rfl)⟩) (by assumption) ?_;refine tkL (i:=9) (oi:=⟨some 38,_,_,_,_,_⟩) (v:=.slice e.A e.v.n e.c) rfl (Or.inl ⟨by rfl,fun W hW=>(by have:=HLK.out W hW;go_simp)⟩) (by assumption) ?_;refine wpAnyL_one (i:=10) (o:=⟨some 39,_,_,_,_,_⟩) (by kernel_rfl) rfl (fun K hK=>?_);rw[if_pos (by rfl)];go_simp;refine(clone_own e.A e.v.n e.c e.v.z w0 (by have:=(HPK.out w0 hHeld).max;omega) (HPK.out w0 hHeld).row).mono ?_;rintro en u1 ⟨A2,c2,rfl,hc2,ho2,hb2⟩;dsimp only;obtain⟨A2',c2',hv2',hs2,hf2⟩:=own_sl ho2
  cases hv2'
  have hb1:Below wr.heap.size wr u1:=hb0.trans (hb2.mono hb0.size);have hE1:KeepF (fun q=>∃a,A=some a/\q=a.block) wr u1:=hHeld.trans (KeepF.of_below (F:=fun _=>False) hb2) (fun _ _ h=>h.elim);have hf2':∀a,A2=some a->wr.heap.size<=a.block:=fun a ha=>Nat.le_trans hb0.size (hf2 a ha);refine hK.out _ _ hE1 (fun hHeld=>?_);clear hK K ho2 hb2
  try simp only[Act.put,qa,qb,qc]
  refine tkL (i:=11) (oi:=⟨some 40,_,_,_,_,_⟩) (v:=.agg #[.int .u32 key,.slice A2 e.v.n c2]) rfl (Or.inl ⟨by rfl,fun W hW=>(by go_simp)⟩) (by assumption) ?_;refine wpAnyL_one (i:=12) (o:=⟨some 41,_,_,_,_,_⟩) (by kernel_rfl) rfl (fun K hK=>?_);rw[if_pos (by rfl)];go_simp;obtain⟨u2,hu2⟩:∃X,X=u1.alloc (.cells #[.int .u32 key,.slice A2 e.v.n c2] 77):=⟨_,rfl⟩
  obtain⟨nb,hnb⟩:∃nb,nb=u1.heap.size:=⟨_,rfl⟩
  have hbk:Below u1.heap.size u1 u2:=by rw[hu2];exact bnA _
  have hNB:Blk u2 nb 77 #[.int .u32 key,.slice A2 e.v.n c2]:=by rw[hu2,hnb];exact Blk.new _ _ _
  have hb3:Below wr.heap.size wr u2:=hb1.trans (hbk.mono hb1.size);have hE2:KeepF (fun q=>∃a,A=some a/\q=a.block) wr u2:=hE1.trans (KeepF.of_below (F:=fun _=>False) hbk) (fun _ _ h=>h.elim);have hs3:=hs2.next hbk;rw[<-hu2,<-hnb];refine hK.out _ _ hE2 (fun hHeld=>?_);clear hK K hu2
  try simp only[Act.put,qa,qb,qc]
  refine wpAnyL_one (i:=13) (o:=⟨some 42,_,_,_,_,_⟩) (by kernel_rfl) rfl (fun K hK=>?_);rw[if_pos (by rfl)];refine wp_sl_append _ _ 44 44 rfl u2 77 ic (.agg #[.int .u32 0,.slice none 0 0]) 2 32 Tryz.underlying44 hic hicz hics hicb rfl A k c (lx.flatMap SE.cc) rfl (HS.out.next hb3) (.slice (some ⟨nb,0,none⟩) 1 1) rfl 1 [.int .u32 key,.slice A2 e.v.n c2] (Src.ofSlice _ Tryz.underlying44 ⟨nb,0,none⟩ 1 1 _ rfl (fun j u hu=>by
    have hj:j < 2:=(List.getElem?_eq_some_iff.1 hu).1;rw[Addr.add_lit,Nat.zero_add,hNB.cell j];simpa using hu) (by simp[Value.oneCell'])) (by decide) (by unfold maxLen;omega) (by omega) (fun A9 c9 u3 hs9 hk9 ha9=>?_)
  have hE3:KeepF (fun q=>∃a,A=some a/\q=a.block) wr u3:=hE2.trans hk9 (fun _ _ h=>h);have HA9:=zh (show ∀a,A9=some a->V3.heap.size<=a.block from fun a ha=>by
   rcases ha9 a ha with ⟨a',h1,h2⟩ | h2
   ·rw[h2];exact HA.out a' h1
   ·exact Nat.le_trans HKV.out.size (Nat.le_trans hb3.size h2))
  have hnA:∀a,A2=some a->¬∃a',A=some a'/\a.block=a'.block:=fun a ha ⟨a',h1,h2⟩=>by
   have h3:=hf2' a ha;have h4:=HS.out.lt h1;omega
  have hs4:=hs3.keepF hk9 hnA;have hXn:XPk u3 V3.heap.size (⟨e.v,A2,c2⟩:SE):=⟨hs4,fun a ha=>Nat.le_trans HKV.out.size (hf2' a ha)⟩
  have hXo:∀x,x∈lx->XPk u3 V3.heap.size x:=fun x hx=>by
   have h1:=HX.out x hx;refine⟨(h1.1.next hb3).keepF hk9 (fun a ha ⟨a',h2,h3⟩=>?_),h1.2⟩;obtain⟨cu1,hc1⟩:=(h1.1.next hb3).obj ha;obtain⟨cu2,hc2'⟩:=(HS.out.next hb3).obj h2;rw[h3,hc2']at hc1
   cases hc1
  have HS9:=zh (show SL u3 77 2 A9 (k+1) c9 ((lx++[(⟨e.v,A2,c2⟩:SE)]).flatMap SE.cc) by
   rw[List.flatMap_append];have h1:([(⟨e.v,A2,c2⟩:SE)]).flatMap SE.cc=[.int .u32 key,.slice A2 e.v.n c2]:=by rw[HCT.out];rfl
   rw[h1]
   exact hs9)
  have HX9:=zh (show ∀x,x∈lx++[(⟨e.v,A2,c2⟩:SE)]->XPk u3 V3.heap.size x from fun x hx=>by
   rcases List.mem_append.1 hx with hx | hx
   ·exact hXo x hx
   ·have:x=(⟨e.v,A2,c2⟩:SE):=by simpa using hx
    rw[this]
    exact hXn)
  have HLX9:=zh (show(lx++[(⟨e.v,A2,c2⟩:SE)]).map (·.v)=(l.take (k+1)).map (·.v) by
   rw[List.take_add_one,HE.out.1,List.map_append,List.map_append,HLX.out]
   rfl)
  have HE3:=zh hE3;refine hK.out _ _ hE3 (fun hHeld=>?_);clear hK K hs9 hk9 ha9 hXn hXo hs4 hnA hE1 hE2
  try simp only[Act.put,qa,qb,qc]
  refine tkL (i:=14) (oi:=⟨some 43,_,_,_,_,_⟩) (v:=.pointer (some ⟨ob,2,none⟩)) rfl (Or.inl ⟨by rfl,fun W hW=>(by go_simp)⟩) (by assumption) ?_;refine wpAnyL_last (o:=⟨none,_,_,_,_,_⟩) (by kernel_rfl) (by kernel_rfl) rfl (fun K hK=>?_);rw[if_pos (by rfl)];have co:=(HOA.out u3 HE3.out).cell 2;have fo:=(HOA.out u3 HE3.out).frozen 2;simp at co;go_simp;clear co fo;refine hK.out _ _ ?_;clear hK K hHeld
  try simp only[Act.put]
  have hK7:=keep_set u3 ob 2 (.slice A9 (k+1) c9);have hB7:Blk (u3.setCell ⟨ob,2,none⟩ (.slice A9 (k+1) c9)) ob 46 #[.int .u64 s.deliver,.int .u64 s.next,.slice A9 (k+1) c9]:=by
   have h1:=(HOA.out u3 HE3.out).set_ 2 (.slice A9 (k+1) c9);simpa using h1
  have hI9:RExpI s l ob V3 (k+1) (u3.setCell ⟨ob,2,none⟩ (.slice A9 (k+1) c9)):=⟨A9,c9,lx++[(⟨e.v,A2,c2⟩:SE)],hB7,HLX9.out,HS9.out.keepF hK7 (fun a ha e=>by have:=HA9.out a ha;omega),HA9.out,fun x hx=>(HX9.out x hx).keepF hK7 (fun a ha e=>by have:=(HX9.out x hx).2 a ha;omega),(HKV.out.trans HE3.out (fun q hq ⟨a,ha,h⟩=>by have:=HA.out a ha;omega)).trans hK7 (fun q _ h=>h)⟩
  clear hK7 hB7;generalize u3.setCell ⟨ob,2,none⟩ (.slice A9 (k+1) c9)=V9 at hI9 ⊢;have HI9:=zh hI9;clear hI9;go_wp2;go_roundw
  case rel=>exact⟨k+1,by omega,by go_num,HI9.out⟩
  case measure=>simp[intOf];omega
end Go.Proofs.YtnadmdadcpemnaaGreat
namespace Go.Proofs.YtnadmdadcpemnaaGreat
set_option linter.unusedVariables false
set_option linter.unusedSimpArgs false
open Go.RowKit
def CntL (w:World) (A:Option Addr) (vs:List SV):Prop:=∀k v,vs[k]? = some v->CE2 w A k v.ct v.n v.z
theorem CntL.below {w w':World} {A:Option Addr} {vs:List SV} (h:CntL w A vs) (hb:Below w.heap.size w w'):CntL w' A vs:=fun k v hv=>(h k v hv).below hb
theorem cntL_sl {w:World} {A:Option Addr} {n c:Nat} {lx:List SE} (h:SL w 77 2 A n c (lx.flatMap SE.cc)) (hn:n=lx.length) (hp:∀x,x∈lx->SL w 5 1 x.A x.v.n x.c x.v.bytes):CntL w A (lx.map (·.v)):=fun k v hv=>by
 rw[List.getElem?_map]at hv
 cases hx:lx[k]? with
 | none=>rw[hx]at hv;cases hv
 | some x=>
  rw[hx]at hv;obtain rfl:x.v=v:=by simpa using hv
  have hk:k < lx.length:=(List.getElem?_eq_some_iff.1 hx).1;obtain⟨b,o,hA,hb⟩:=h.some_ (by omega);have c0:=h.cell hA (j:=k*2+0) (by omega);have c1:=h.cell hA (j:=k*2+1) (by omega);rw[flat_at SE.cc 2 SE.cclen lx k _ x hx (by omega)]at c0 c1
  exact⟨b,o,x.A,x.c,hA,hb,c0,c1,(hp x (List.mem_of_getElem? hx)).rowOf (fun j hj=>by unfold SV.bytes;rw[List.getElem?_map,List.getElem?_range hj];rfl)⟩
theorem svTo_len (ct:Nat->Int) (pn:Nat->Nat) (z:Nat->Nat->Int) (m:Nat):(svTo ct pn z m).length=m:=by
 unfold svTo;rw[List.length_map,List.length_range]
theorem sameC_L {w:World} {A A':Option Addr} {vs:List SV} (h:CntL w A vs) (h':CntL w A' vs):SameC w A A' vs.length:=fun k hk=>
 have e:vs[k]? = some vs[k]:=List.getElem?_eq_getElem hk
 ⟨_,_,_,_,h k _ e,h' k _ e,fun j hj=>rfl⟩
def SoloR (w0 w:World) (g:Nat) (s:RS) (N:Nat->Prop):Prop:=∃W R sb l ub eb,RxM w g s W R sb l ub eb/\(∀k,W k->w0.heap.size<=k)/\Below w0.heap.size w0 w/\(∀k,N k->w0.heap.size<=k/\k < w.heap.size/\¬W k/\¬R k)
structure RFine (s:RS):Prop where
 ok:s.C.Ok
 val:s.C.Valid
 cm:s.C.cm=false
 few:s.L.length<=250
 dup:s.dup < 4611686018427387903
section
variable {w0 w w':World} {g:Nat} {s s':RS} {N N':Nat->Prop}
theorem SoloR.low (h:SoloR w0 w g s N):Below w0.heap.size w0 w:=by
 obtain⟨W,R,sb,l,ub,eb,h1,h2,h3,h4⟩:=h
 exact h3
theorem SoloR.below (h:SoloR w0 w g s N) (hb:Below w.heap.size w w'):SoloR w0 w' g s N:=by
 obtain⟨W,R,sb,l,ub,eb,h1,h2,h3,h4⟩:=h
 exact⟨W,R,sb,l,ub,eb,h1.below hb,h2,h3.trans (hb.mono h3.size),fun k hk=>⟨(h4 k hk).1,Nat.lt_of_lt_of_le (h4 k hk).2.1 hb.size,(h4 k hk).2.2⟩⟩
theorem SoloR.subN (h:SoloR w0 w g s N) (hN:∀k,N' k->N k):SoloR w0 w g s N':=by
 obtain⟨W,R,sb,l,ub,eb,h1,h2,h3,h4⟩:=h
 exact⟨W,R,sb,l,ub,eb,h1,h2,h3,fun k hk=>h4 k (hN k hk)⟩
theorem SoloR.lt_of (h:SoloR w0 w g s N) {k:Nat} (hk:N k):k < w.heap.size:=by
 obtain⟨W,R,sb,l,ub,eb,h1,h2,h3,h4⟩:=h
 exact(h4 k hk).2.1
theorem SoloR.other (h:SoloR w0 w g s N) (hk:KeepF N w w') (hN:∀k,N' k->(N k\/w.heap.size<=k)/\k < w'.heap.size):SoloR w0 w' g s N':=by
 obtain⟨W,R,sb,l,ub,eb,h1,h2,h3,h4⟩:=h;have hs:=h3.size;refine⟨W,R,sb,l,ub,eb,h1.keepF hk (fun k hn=>(h4 k hn).2.2),h2,KeepF.below h3 hk (fun k hn=>(h4 k hn).1) hs,fun k hn=>?_⟩;obtain⟨h5 | h5,h6⟩:=hN k hn
 ·exact⟨(h4 k h5).1,h6,(h4 k h5).2.2⟩
 ·exact⟨by omega,h6,fun hw=>by have:=h1.win k hw;omega,fun hr=>by have:=h1.rin k hr;omega⟩
def SoO (w0 w:World) (g:Nat) (N:Nat->Prop) (r:List SV×Int×RS) (e:Ending) (w':World):Prop:=
 ∃A c lo,e=.returned (.tuple #[.slice A lo.length c,.int .i64 r.2.1])/\OutM w' w.heap.size A c lo/\lo.map (·.v)=r.1/\(∀x,x∈lo->Pkt w' (fun k=>¬N k) x.A x.v.n x.c x.v.z)/\SoloR w0 w' g r.2.2 N/\KeepF (fun k=>¬N k) w w'
theorem solor_receive (h:SoloR w0 w g s N) (hf:RFine s) (t:Int) (A:Option Addr) (n c:Nat) (z:Nat->Nat) (hn:n<=maxLen) (hnc:n<=c) (hz:∀j,j < n->z j < 256) (hr:Row w w.heap.size A n (fun j=>.int .u8 ((z j:Nat):Int))) (hA:∀a,A=some a->n ≠ 0->a.block < w0.heap.size\/N a.block) :
  Calls Tryz.prog 11 #[.pointer (some ⟨g,0,none⟩),.int .i64 t,.slice A n c] w (SoO w0 w g N (s.receive t n z)):=by
 obtain⟨W,R,sb,l,ub,eb,h1,h2,h3,h4⟩:=h;have hl:l.length=s.L.length:=by rw[<-h1.lv,List.length_map]
 have hs:=h3.size;refine(receive_ok g s W R sb l ub eb w h1 hf.ok hf.cm ⟨hf.val.2.2.2.2.2.1,hf.val.2.2.2.2.2.2⟩ (by have:=hf.few;omega) hf.dup t A n c z hn hnc hz hr (fun a ha hn0 hw=>?_) (dataAll_any g s.C W R sb ub eb A n c z hf.ok hf.val hnc hz)).mono ?_
 ·rcases hA a ha hn0 with h | h
  ·have:=h2 _ hw;omega
  ·exact(h4 _ h).2.2.1 hw
 ·rintro e w' ⟨R',l',A',c',lo,he,hO,hm,hp,hT,hR1,hR2,hK⟩;have hNR:∀k,N k->¬R' k:=fun k hk hr=>by
   rcases hR1 k hr with h | h
   ·exact(h4 k hk).2.2.2 h
   ·have:=(h4 k hk).2.1;omega
  refine⟨A',c',lo,he,hO,hm,fun x hx=>⟨(hp x hx).pos,(hp x hx).max,(hp x hx).cap,(hp x hx).byte,(hp x hx).row,fun a ha hn=>hNR _ hn ((hp x hx).ro a ha)⟩,⟨W,R',sb,l',ub,eb,hT,h2,KeepF.below h3 hK (fun k hk=>h2 k hk) hs,fun k hk=>⟨(h4 k hk).1,Nat.lt_of_lt_of_le (h4 k hk).2.1 hK.size,(h4 k hk).2.2.1,hNR k hk⟩⟩,hK.mono (fun k hk hn=>(h4 k hn).2.2.1 hk)⟩
theorem solor_tick (h:SoloR w0 w g s N) (hf:RFine s) (t:Int) :
  Calls Tryz.prog 13 #[.pointer (some ⟨g,0,none⟩),.int .i64 t] w (SoO w0 w g N (s.tick t)):=by
 obtain⟨W,R,sb,l,ub,eb,h1,h2,h3,h4⟩:=h;have hl:l.length=s.L.length:=by rw[<-h1.lv,List.length_map]
 have hs:=h3.size;refine(tick_ok g s W R sb l ub eb w h1 ⟨hf.val.2.2.2.2.2.1,hf.val.2.2.2.2.2.2⟩ (by have:=hf.few;omega) t).mono ?_;rintro e w' ⟨l',A',c',lo,he,hO,hm,hp,hT,hK⟩
 exact⟨A',c',lo,he,hO,hm,fun x hx=>⟨(hp x hx).pos,(hp x hx).max,(hp x hx).cap,(hp x hx).byte,(hp x hx).row,fun a ha hn=>(h4 _ hn).2.2.2 ((hp x hx).ro a ha)⟩,⟨W,R,sb,l',ub,eb,hT,h2,KeepF.below h3 hK (fun k hk=>h2 k hk) hs,fun k hk=>⟨(h4 k hk).1,Nat.lt_of_lt_of_le (h4 k hk).2.1 hK.size,(h4 k hk).2.2⟩⟩,hK.mono (fun k hk hn=>(h4 k hn).2.2.1 hk)⟩
def SoE (s:RS) (w:World) (e:Ending) (w':World):Prop:=
 ∃(A:Option Addr) (c:Nat),e=.returned (.agg #[.int .u64 s.deliver,.int .u64 s.next,.slice A s.L.length c])/\s.L.length<=c/\CntL w' A s.L/\Below w.heap.size w w'
theorem solor_export (h:SoloR w0 w g s N) (hf:s.L.length<=250):Calls Tryz.prog 19 #[.pointer (some ⟨g,0,none⟩)] w (SoE s w):=by
 obtain⟨W,R,sb,l,ub,eb,h1,h2,h3,h4⟩:=h;have hl:l.length=s.L.length:=by rw[<-h1.lv,List.length_map]
 refine(rexport_ok g s W R sb l ub eb w h1 (sortedOK_small (by omega)) (by omega)).mono ?_;rintro e w' ⟨A,c,lx,he,hv,hS,hA,hp,hB⟩;have hll:lx.length=l.length:=by
  have:=congrArg List.length hv;simpa using this
 rw[hl]at he;refine⟨A,c,he,by have:=hS.le;omega,?_,hB⟩;have:=cntL_sl hS hll.symm (fun x hx=>(hp x hx).1);rw[hv,h1.lv]at this
 exact this
end
theorem same46_L (d nx:Int) (A A':Option Addr) (m c c':Nat) (vs:List SV) (w:World) (hm:m=vs.length) (hl:m<=maxLen) (h:CntL w A vs) (h':CntL w A' vs):Calls Tryz.prog 18 #[.agg #[.int .u64 d,.int .u64 nx,.slice A m c],.agg #[.int .u64 d,.int .u64 nx,.slice A' m c']] w fun e w'=>e=.returned (.bool true)/\Below w.heap.size w w':=
 same46_true d nx A A' m c c' w hl (by rw[hm];exact sameC_L h h')
def Asc (L:List SV):Prop:=L.Pairwise fun a b=>a.ct < b.ct
section
variable {cf:Cfg} {ms:Nat->Bool} {i:Nat} {out:List SV} {s:RS}
end
section
variable {cf:Cfg} {ms:Nat->Bool} {n:Nat} {vs out:List SV} {s:RS}
end
end Go.Proofs.YtnadmdadcpemnaaGreat
namespace Go.Proofs.YtnadmdadcpemnaaGreat
set_option linter.unusedVariables false
set_option linter.unusedSimpArgs false
open Go.RowKit
attribute [local go_sem ↓] Go.wp_at_zero Go.wp_at_succ
theorem rresume_bad (cf:Cfg) (A:Option Addr) (m c:Nat) (d nx:Int) (ct:Nat->Int) (PA:Nat->Option Addr) (pn pc:Nat->Nat) (z:Nat->Nat->Int) (w:World) (hd:0<=d) (hnx:0<=nx/\nx < 18446744073709551616) (hd2:d < 18446744073709551616) (hm:m<=maxLen) (h:Cnts w A m ct PA pn pc z) (hw:¬(cf.Valid/\Whole d nx m ct pn)) :
  Calls Tryz.prog 16 #[.agg cf.arr,.agg #[.int .u64 d,.int .u64 nx,.slice A m c]] w fun e w'=>e=.returned (.tuple #[.pointer none,.int .i64 2])/\Below w.heap.size w w':=by
 have HV:=zh (fun W=>rvalid_ok cf W);have HW:=zh (fun(hnw:¬Whole d nx m ct pn) W (hW:Cnts W A m ct PA pn pc z)=>whole_no A m c d nx ct PA pn pc z W hd hnx hd2 hm hW hnw);have HC:=zh h;have HS:Hid ((Tryz.prog.info? 25).map (·.size)=some cf.arr.size):=zh (by rw[cf.arr_size];exact infoPd);obtain⟨Z,hZ⟩:∃Z,Z=cf.arr:=⟨_,rfl⟩
 rw[<-hZ]at HV HS ⊢;have HU:=zh Tryz.underlying25;clear h hZ;go_enter Tryz.func16,Tryz.ntmps16;go_upto_region 1 with (fail)
 refine wp_let (fun W=>Blk W w.heap.size 25 Z/\Blk W (w.heap.size+1) 46 #[.int .u64 d,.int .u64 nx,.slice A m c]/\Below w.heap.size w W) ⟨(Blk.new _ _ _).alloc _,blk_atZ _ _ _ _ (by simp),((Below.refl _ w).alloc (Nat.le_refl _) _).alloc (by simp) _⟩ ?_;rintro W1 ⟨b1,b2,b3⟩;have B1:=zh b1;have B2:=zh b2;have B3:=zh b3;clear b1 b2 b3;by_cases hv:cf.Valid
 ·rw[decide_eq_true hv]at HV;have HN:=zh (fun W hW=>HW.out (fun h=>hw ⟨hv,h⟩) W hW);clear hv hw;go_wp2_with (first
   | (refine wpList_load_row rfl _ _ rfl w.heap.size rfl 25 Z (0,0) _ B1.out HU.out rfl HS.out ?_)
   | (go_at_call 38;refine(HV.out _).mono ?_;rintro e w2 ⟨rfl,hB⟩;have D2:=zh (B3.out.trans (hB.mono B3.out.size));have x0:=(B2.out.below hB B2.out.lt).cell 0;have x1:=(B2.out.below hB B2.out.lt).cell 1;have x2:=(B2.out.below hB B2.out.lt).cell 2;simp at x0 x1 x2;clear hB)
   | (go_at_call 39;refine(HN.out _ (HC.out.below D2.out)).mono ?_;rintro e w3 ⟨rfl,hB⟩;have D3:=zh (D2.out.trans (hB.mono D2.out.size));clear hB))
  go_ret2
  exact⟨rfl,D3.out⟩
 ·rw[decide_eq_false hv]at HV;clear hv hw;go_wp2_with (first
   | (refine wpList_load_row rfl _ _ rfl w.heap.size rfl 25 Z (0,0) _ B1.out HU.out rfl HS.out ?_)
   | (go_at_call 38;refine(HV.out _).mono ?_;rintro e w2 ⟨rfl,hB⟩;have D2:=zh (B3.out.trans (hB.mono B3.out.size));clear hB))
  go_ret2
  exact⟨rfl,D2.out⟩
end Go.Proofs.YtnadmdadcpemnaaGreat
