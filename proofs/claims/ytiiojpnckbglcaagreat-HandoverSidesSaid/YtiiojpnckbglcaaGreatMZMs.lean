import Derived.Test.YtiiojpnckbglcaaGreatMZAs
import Derived.Test.YtiiojpnckbglcaaGreatDLs
import Derived.Test.YtiiojpnckbglcaaGreatMVMs
import Derived.Test.YtiiojpnckbglcaaGreatMTBs
import Derived.Test.YtiiojpnckbglcaaGreatMYAs
import Derived.Lib.SlBytesConst
import Derived.Laws.Bits64b
import Derived.Lib.MinMax
import Derived.Defers
import Derived.DefersIn
import Derived.Recover
import Derived.RecoverIn
set_option maxRecDepth 100000
set_option maxHeartbeats 6400000
set_option linter.unusedVariables false
set_option linter.unusedSimpArgs false
namespace Go.Proofs.YtiiojpnckbglcaaGreat
open Go.RowKit
attribute [local go_sem ↓] Go.wp_at_zero Go.wp_at_succ
private theorem sS {P:Program} {ops:Array Oper} {Q:Exit->Act->World->Prop} {md:Region.Mode} {S:World->Prop} {L i:Nat} {oi:Oper} {v:Value} {fuel:Nat} {listed l':Array Bool} {a a':Act} {w:World} (hi:ops[i]? = some oi) (hy:YieldsIf P ops S oi v a) (hS:S w)
  (h:dh P md ops Q S L fuel l' a' w) (hl:listed.setIfInBounds i true=l':=by(try simp only[qa,qb,qc]);rfl) (ha:a.put oi.dst v=a':=by(try simp only[Act.put,qa,qb,qc]);rfl) (hL:fZ md ops L i=true:=by kernel_rfl) (hs:Region.noSelect ops=true:=by kernel_rfl) (hf:Region.free md ops listed i=true:=by kernel_rfl) (hr:(Region.ready md ops listed).contains i=true:=by kernel_rfl)
  (hQ:∀c a w,Q (.panic c) (a.put oi.dst v) w->Q (.panic c) a w:=by exact fun _ _ _ h=>h):dh P md ops Q S L (fuel+1) listed a w:=by subst hl;subst ha;exact oq hi hL hs hf hr hQ hy hS h
def xk (w:World) (A:Option Addr) (k:Nat) (ct:Int) (n:Nat) (z:Nat->Int):Prop:=
 ∃lb lo PA pc,A=some ⟨lb,lo,none⟩/\lb < w.heap.size/\w.cell? ⟨lb,lo+k*2,none⟩=some (.int .u32 ct)/\w.cell? ⟨lb,lo+k*2+1,none⟩=some (.slice PA n pc)/\au w w.heap.size PA n (fun j=>.int .u8 (z j))
def xU (w:World) (A:Option Addr) (k:Nat) (n:Nat) (z:Nat->Int):Prop:=
 ∃lb lo PA pc,A=some ⟨lb,lo,none⟩/\lb < w.heap.size/\w.cell? ⟨lb,lo+k,none⟩=some (.slice PA n pc)/\au w w.heap.size PA n (fun j=>.int .u8 (z j))
theorem xk.below {w w':World} {A:Option Addr} {k:Nat} {ct:Int} {n:Nat} {z:Nat->Int} (h:xk w A k ct n z) (hb:Below w.heap.size w w'):xk w' A k ct n z:=by
 obtain⟨lb,lo,PA,pc,h1,h2,h3,h4,h5⟩:=h
 exact⟨lb,lo,PA,pc,h1,bg h2 hb.size,(hb.cell (p:=⟨lb,lo+k*2,none⟩) h2).trans h3,(hb.cell (p:=⟨lb,lo+k*2+1,none⟩) h2).trans h4,h5.next hb⟩
theorem xU.below {w w':World} {A:Option Addr} {k:Nat} {n:Nat} {z:Nat->Int} (h:xU w A k n z) (hb:Below w.heap.size w w'):xU w' A k n z:=by
 obtain⟨lb,lo,PA,pc,h1,h2,h3,h5⟩:=h
 exact⟨lb,lo,PA,pc,h1,bg h2 hb.size,(hb.cell (p:=⟨lb,lo+k,none⟩) h2).trans h3,h5.next hb⟩
def jd (w:World) (A A':Option Addr) (m:Nat):Prop:=∀k,k < m->∃ct n z z',xk w A k ct n z/\xk w A' k ct n z'/\∀j,j < n->z j=z' j
def jo (w:World) (A A':Option Addr) (m:Nat):Prop:=∀k,k < m->∃n z z',xU w A k n z/\xU w A' k n z'/\∀j,j < n->z j=z' j
theorem jd.below {w w':World} {A A':Option Addr} {m:Nat} (h:jd w A A' m) (hb:Below w.heap.size w w'):jd w' A A' m:=fun k hk=>by
 obtain⟨ct,n,z,z',h1,h2,h3⟩:=h k hk
 exact⟨ct,n,z,z',h1.below hb,h2.below hb,h3⟩
theorem jo.below {w w':World} {A A':Option Addr} {m:Nat} (h:jo w A A' m) (hb:Below w.heap.size w w'):jo w' A A' m:=fun k hk=>by
 obtain⟨n,z,z',h1,h2,h3⟩:=h k hk
 exact⟨n,z,z',h1.below hb,h2.below hb,h3⟩
theorem pV (A A':Option Addr) (m c c':Nat) (w:World) (hm:m<=maxLen) (h:jd w A A' m) :
  Calls Tryz.prog 47 #[.slice A m c,.slice A' m c'] w fun e w'=>e=.returned (.bool true)/\Below w.heap.size w w':=by
 unfold maxLen at hm;have HS:=zh h;have hm':(m:Int)<=9223372036854775807:=by omega
 clear h;go_enter Tryz.func47,Tryz.ntmps47;go_wp2;go_loopw [5] (fun v wr=>∃k:Nat,k<=m/\v=.int .i64 k/\Below w.heap.size w wr) (fun v _=>m-(intOf v).toNat)
 case atStart=>exact⟨0,by omega,rfl,Below.refl _ _⟩
 case round=>
  obtain⟨k,hk,rfl,hb⟩:=hrel;by_cases hlt:k < m
  ·obtain⟨ct,n,z,z',⟨lb,lo,PA,pc,rfl,h2,h3,h4,h5⟩,⟨lb',lo',PA',pc',rfl,k2,k3,k4,k5⟩,he⟩:=(HS.out.below hb) k hlt;have s1:=fun q=>bU (P:=Tryz.prog) (w:=wr.drewN q) 44 9 5 Tryz.underlying44 Tryz.underlying5 Tryz.underlying9 (show au (wr.drewN q) wr.heap.size PA n (fun j=>.int .u8 (z j))from h5) pc;have s2:=fun q=>bU (P:=Tryz.prog) (w:=wr.drewN q) 44 9 5 Tryz.underlying44 Tryz.underlying5 Tryz.underlying9 (show au (wr.drewN q) wr.heap.size PA' n (fun j=>.int .u8 (z' j))from k5) pc';rw[<-eD he]at s2;have BB:=zh hb;have k0:(0:Int)<=(k:Int):=by omega
   have k1:(k:Int) < (m:Int):=by omega
   clear h5 k5 he hb;go_upto_region 6 with (fail)
   have hg:(ct != ct)=false:=by simp
   go_quiet (fail);go_wp2;go_roundw
   case rel=>exact⟨k+1,by omega,by go_num,aE BB.out _⟩
   case measure=>simp[intOf];omega
  ·obtain rfl:k=m:=by omega
   have BB:=zh hb;clear hb;go_wp2;go_ret
   exact⟨rfl,BB.out⟩
theorem oH (A A':Option Addr) (m c c':Nat) (w:World) (hm:m<=maxLen) (h:jo w A A' m) :
  Calls Tryz.prog 48 #[.slice A m c,.slice A' m c'] w fun e w'=>e=.returned (.bool true)/\Below w.heap.size w w':=by
 unfold maxLen at hm;have HS:=zh h;have hm':(m:Int)<=9223372036854775807:=by omega
 clear h;go_enter Tryz.func48,Tryz.ntmps48;go_wp2;go_loopw [5] (fun v wr=>∃k:Nat,k<=m/\v=.int .i64 k/\Below w.heap.size w wr) (fun v _=>m-(intOf v).toNat)
 case atStart=>exact⟨0,by omega,rfl,Below.refl _ _⟩
 case round=>
  obtain⟨k,hk,rfl,hb⟩:=hrel;by_cases hlt:k < m
  ·obtain⟨n,z,z',⟨lb,lo,PA,pc,rfl,h2,h3,h5⟩,⟨lb',lo',PA',pc',rfl,k2,k3,k5⟩,he⟩:=(HS.out.below hb) k hlt;have s1:=fun q=>bU (P:=Tryz.prog) (w:=wr.drewN q) 44 9 5 Tryz.underlying44 Tryz.underlying5 Tryz.underlying9 (show au (wr.drewN q) wr.heap.size PA n (fun j=>.int .u8 (z j))from h5) pc;have s2:=fun q=>bU (P:=Tryz.prog) (w:=wr.drewN q) 44 9 5 Tryz.underlying44 Tryz.underlying5 Tryz.underlying9 (show au (wr.drewN q) wr.heap.size PA' n (fun j=>.int .u8 (z' j))from k5) pc';rw[<-eD he]at s2;have BB:=zh hb;have k0:(0:Int)<=(k:Int):=by omega
   have k1:(k:Int) < (m:Int):=by omega
   clear h5 k5 he hb;go_upto_region 6 with (fail)
   go_quiet (fail);go_wp2;go_roundw
   case rel=>exact⟨k+1,by omega,by go_num,aE BB.out _⟩
   case measure=>simp[intOf];omega
  ·obtain rfl:k=m:=by omega
   have BB:=zh hb;clear hb;go_wp2;go_ret
   exact⟨rfl,BB.out⟩
theorem pY (nx:Int) (us:Bool) (A A' C C':Option Addr) (m c c' mq d d':Nat) (w:World) (hm:m<=maxLen) (hmq:mq<=maxLen) (h:jd w A A' m) (h2:jo w C C' mq) :
  Calls Tryz.prog 14 #[.agg #[.int .u32 nx,.bool us,.slice A m c,.slice C mq d],.agg #[.int .u32 nx,.bool us,.slice A' m c',.slice C' mq d']] w fun e w'=>e=.returned (.bool true)/\Below w.heap.size w w':=by
 have HC:=zh (fun(V:World) (hb:Below w.heap.size w V)=>pV A A' m c c' V hm (h.below hb));have HL:=zh (fun(V:World) (hb:Below w.heap.size w V)=>oH C C' mq d d' V hmq (h2.below hb));clear h h2 hm hmq;go_enter Tryz.func14,Tryz.ntmps14;go_upto_region 1 with (fail)
 refine ag (fun V=>ae V w.heap.size 30 #[.int .u32 nx,.bool us,.slice A m c,.slice C mq d]/\ae V (w.heap.size+1) 30 #[.int .u32 nx,.bool us,.slice A' m c',.slice C' mq d']/\Below w.heap.size w V) ⟨(ae.new _ _ _).alloc _,az _ _ _ _ (by simp),((Below.refl _ w).alloc ao _).alloc (by simp) _⟩ ?_;rintro W1 ⟨b1,b2,b3⟩;obtain⟨fa,hfa⟩:=af w.heap.size
 have B1:=zh b1;have B2:=zh b2;have B3:=zh b3;have x0:=b1.cell 0;have x1:=b1.cell 1;have x2:=b1.cell 2;have x3:=b1.cell 3;have y0:=b2.cell 0;have y1:=b2.cell 1;have y2:=b2.cell 2;have y3:=b2.cell 3;simp at x0 x1 x2 x3 y0 y1 y2 y3;clear b1 b2 b3 hfa;go_wp2_with (first
  | (go_at_call 47;refine(HC.out _ B3.out).mono ?_;rintro e w2 ⟨rfl,hb⟩;have B4:=zh (B3.out.trans (hb.mono B3.out.size));have P1:=B1.out.below hb B1.out.lt;have P2:=B2.out.below hb B2.out.lt;have u3:=P1.cell 3;have v3:=P2.cell 3;simp at u3 v3;clear hb P1 P2)
  | (go_at_call 48;refine(HL.out _ B4.out).mono ?_;rintro e w3 ⟨rfl,hb⟩;have B5:=zh (B4.out.trans (hb.mono B4.out.size));clear hb))
 go_ret
 exact⟨rfl,B5.out⟩
def SE.cc (e:SE):List Value:=[.int .u32 e.v.ct,.slice e.A e.v.n e.c]
theorem SE.cclen (e:SE):e.cc.length=2:=rfl
def SV.bytes (v:SV):List Value:=(List.range v.n).map fun j=>.int .u8 (v.z j)
def wT (w:World) (B:Nat) (x:SE):Prop:=SL w 5 1 x.A x.v.n x.c x.v.bytes/\∀a,x.A=some a->B<=a.block
theorem wT.keepF {w w':World} {B:Nat} {x:SE} {F:Nat->Prop} (h:wT w B x) (hk:aa F w w') (hF:∀a,x.A=some a->¬F a.block):wT w' B x:=⟨h.1.keepF hk hF,h.2⟩
def om (l:List SE):Prop:=∀(sb bx:Nat) (w:World),SM w sb l->ae w bx 117 #[.map (some sb)]->bQ l->
  Calls Tryz.prog 79 #[.func (.func 104) #[] #[.pointer (some ⟨bx,0,none⟩)]] w (wN l w)
theorem kk {l:List SE} (hl:l.length<=250):om l:=fun sb bx w hS hB hr=>qk sb l bx w hS hB hr hl
theorem vx {l:List SE} (hr:bQ l) {e:SE} (he:e∈l):cW e.v.ct l=some e:=by
 cases hf:cW e.v.ct l with
 | none=>exact absurd rfl (bn.1 hf e he)
 | some x=>
  obtain⟨h1,h2⟩:=gG hf;have hu:∀(l:List SE),bQ l->∀a b,a∈l->b∈l->a.v.ct=b.v.ct->a=b:=by
   intro l
   induction l with
   | nil=>intro _ a b ha;cases ha
   | cons y r ih=>
    intro hr a b ha hb hab;obtain⟨h3,h4⟩:=List.pairwise_cons.1 hr;rcases List.mem_cons.1 ha with ha2 | ha2
    ·rcases List.mem_cons.1 hb with hb2 | hb2
     ·rw[ha2,hb2]
     ·have h5:=h3 b hb2;rw[ha2]at hab;omega
    ·rcases List.mem_cons.1 hb with hb2 | hb2
     ·have h5:=h3 a ha2;rw[hb2]at hab;omega
     ·exact ih h4 a b ha2 hb2 hab
  rw[hu l hr x e h1 he h2]
def yf (s:RS) (l:List SE) (w:World) (e:Ending) (w':World):Prop:=
 ∃(A:Option Addr) (c:Nat) (lx:List SE),e=.returned (.agg #[.int .u64 s.deliver,.int .u64 s.next,.slice A l.length c])/\lx.map (·.v)=l.map (·.v)/\SL w' 68 2 A l.length c (lx.flatMap SE.cc)/\(∀a,A=some a->w.heap.size<=a.block)/\(∀x,x∈lx->wT w' w.heap.size x)/\Below w.heap.size w w'
def wO (s:RS) (l:List SE) (ob:Nat) (V3:World) (k:Nat) (V:World):Prop:=
 ∃(A:Option Addr) (c:Nat) (lx:List SE),ae V ob 82 #[.int .u64 s.deliver,.int .u64 s.next,.slice A k c]/\lx.map (·.v)=(l.take k).map (·.v)/\SL V 68 2 A k c (lx.flatMap SE.cc)/\(∀a,A=some a->V3.heap.size<=a.block)/\(∀x,x∈lx->wT V V3.heap.size x)/\aa (fun q=>q=ob) V3 V
theorem o7 (g:Nat) (s:RS) (W R:Nat->Prop) (sb:Nat) (l:List SE) (ub eb:Nat) (w:World) (h:eI w g s W R sb l ub eb) (hso:om l) (hl:l.length<=1000) :
  Calls Tryz.prog 41 #[.pointer (some ⟨g,0,none⟩)] w (yf s l w):=by
 have HT:=zh h;have HSO:=zh hso;have HLL:=zh hl;have HRI:=zh h.ris;have HW:=zh (And.intro h.win h.rin);have HWG:=zh (And.intro h.wg h.ws);clear h hso hl;go_enter Tryz.func41,Tryz.ntmps41;go_upto_region 1 with (fail)
 obtain⟨ob,hob⟩:=af w.heap.size
 have HOB:=zh hob;refine ag (fun V=>ae V ob 82 #[.int .u64 0,.int .u64 0,.slice none 0 0]/\Below w.heap.size w V) ⟨by rw[hob];exact ae.new _ _ _,(Below.refl _ w).alloc ao _⟩ ?_;rintro V ⟨v1,v2⟩;have hT:=HT.out.below v2;have HMD:=zh (lz g V hT.made);have cd:=hT.cdeliver;have cx:=hT.cnext;have o0:=v1.frozen 0;have o1:=v1.frozen 1;have hgo:ob ≠ g:=by rw[hob];have:=HT.out.blk.lt;omega
 have HV:=zh (And.intro v1 (And.intro v2 hT));rw[<-hob];clear v1 v2 hT hob;go_upto_region 3 with (go_at_call 63;refine(HMD.out).mono ?_;rintro e w2 ⟨rfl,hw2⟩;subst hw2)
 have c0:=HV.out.1.cell 0;have c1:=HV.out.1.cell 1;simp at c0 c1;go_region;have hB5:ae ((V.setCell ⟨ob,0,none⟩ (.int .u64 s.deliver)).setCell ⟨ob,1,none⟩ (.int .u64 s.next)).drew ob 82 #[.int .u64 s.deliver,.int .u64 s.next,.slice none 0 0]:=by
  have h5:=(HV.out.1.set_ 0 (.int .u64 s.deliver)).set_ 1 (.int .u64 s.next)
  exact(by simpa using h5:ae _ _ _ _).drew
 have hb5:Below w.heap.size w ((V.setCell ⟨ob,0,none⟩ (.int .u64 s.deliver)).setCell ⟨ob,1,none⟩ (.int .u64 s.next)).drew:=((HV.out.2.1.setCell (p:=⟨ob,0,none⟩) (Nat.le_of_eq HOB.out.symm) _).setCell (p:=⟨ob,1,none⟩) (Nat.le_of_eq HOB.out.symm) _).drew;have hT5:=HT.out.below hb5;obtain⟨V5,hV5⟩:=af (((V.setCell ⟨ob,0,none⟩ (.int .u64 s.deliver)).setCell ⟨ob,1,none⟩ (.int .u64 s.next)).drew)
 rw[<-hV5]at hB5 hb5 hT5;rw[<-hV5];obtain⟨V2,hV2⟩:=af (V5.alloc (.cells #[.map (some sb)] 117))
 have hB2:Below V5.heap.size V5 V2:=by rw[hV2];exact(Below.refl _ V5).alloc ao _
 have hBX:ae V2 V5.heap.size 117 #[.map (some sb)]:=by rw[hV2];exact ae.new _ _ _
 have HSR:=zh (HSO.out sb V5.heap.size V2 (hT5.st.below hB2 hT5.st.lt) hBX HRI.out);have HKM:=zh (rR sb V5);rw[<-hV2]at HKM;have x1:=hT5.cs;have HB5:=zh (And.intro hB5 (And.intro hb5 hT5));have HB2:=zh hB2;clear hB5 hb5 hT5 hV5 hB2 hBX hV2 c0 c1 cd cx o0 o1 HV HMD;go_wp2_with (first
  | (go_at_call 80;refine(HKM.out).mono ?_;rintro e w3 ⟨rfl,rfl⟩)
  | (go_at_call 79;refine(HSR.out).mono ?_;rintro e V3 ⟨KA,kc,rfl,hkr,hkf,hkb⟩;have HKR:=zh hkr;have HKF:=zh hkf;have HKB:=zh hkb;clear hkr hkf hkb))
 have HB3:=zh (HB2.out.trans (HKB.out.mono HB2.out.size));have HT3:=zh (HB5.out.2.2.below HB3.out);have HO3:=zh (HB5.out.1.below HB3.out HB5.out.1.lt);have HSZ:=zh (show ob < V3.heap.size/\w.heap.size<=ob from ⟨HO3.out.lt,Nat.le_of_eq HOB.out.symm⟩);have HV2:=zh (show ob < V2.heap.size/\V2.heap.size<=V3.heap.size from ⟨bg HB5.out.1.lt HB2.out.size,HKB.out.size⟩);have HL3:=zh (HB5.out.2.1.trans (HB3.out.mono HB5.out.2.1.size));clear x1;go_loopw [4,25] (fun v4 v25 wr=>∃k:Nat,k<=l.length/\v25=.int .i64 k/\wO s l ob V3 k wr) (fun _ v25 _=>l.length-(intOf v25).toNat)
 case atStart=>exact⟨0,by omega,rfl,none,0,[],HO3.out,rfl,SL.nil _ _ _,fun a h=>(by cases h),fun x h=>(by cases h),aa.refl⟩
 case round=>
  obtain⟨k,hk,rfl,A,c,lx,hO,hlx,hS,hA,hX,hKV⟩:=hrel;have HO:=zh hO;have HLX:=zh hlx;have HS:=zh hS;have HA:=zh hA;have HX:=zh hX;have HKV:=zh hKV;clear hO hlx hS hA hX hKV;by_cases hkl:k < l.length;rotate_left
  ·have hke:k=l.length:=by omega
   have k1:¬(k:Int) < (l.length:Int):=by omega
   have HKE:=zh hke;have x0:=HO.out.cell 0;have x1:=HO.out.cell 1;have x2:=HO.out.cell 2;simp only[List.getElem?_toArray,List.getElem?_cons_zero,List.getElem?_cons_succ]at x0 x1 x2;have f0:=HO.out.frozen 0;have f1:=HO.out.frozen 1;have f2:=HO.out.frozen 2;have hne:∀a,A=some a->ob ≠ a.block:=fun a ha=>by have:=HA.out a ha;have:=HSZ.out;omega
   have HNE:=zh hne;clear hke hkl hk hne;go_wp2;have hB:=(((HO.out.set_ 0 (.int .u64 s.deliver)).set_ 1 (.int .u64 s.next)).set_ 2 (.slice A k c))
   have hB':ae (((wr.setCell ⟨ob,0,none⟩ (.int .u64 s.deliver)).setCell ⟨ob,1,none⟩ (.int .u64 s.next)).setCell ⟨ob,2,none⟩ (.slice A k c)) ob 82 #[.int .u64 s.deliver,.int .u64 s.next,.slice A k c]:=by simpa using hB
   have hkp:aa (fun q=>q=ob) wr (((wr.setCell ⟨ob,0,none⟩ (.int .u64 s.deliver)).setCell ⟨ob,1,none⟩ (.int .u64 s.next)).setCell ⟨ob,2,none⟩ (.slice A k c)):=(((aa.refl (F:=fun q=>q=ob) (w:=wr)).setCell (p:=⟨ob,0,none⟩) rfl _).setCell (p:=⟨ob,1,none⟩) rfl _).setCell (p:=⟨ob,2,none⟩) rfl _;refine bodyPost_ret (v:=.agg #[.int .u64 s.deliver,.int .u64 s.next,.slice A k c]) ?_ ?_ ?_
   case refine_1=>exact results_cell_row (g:=ob) (t:=82) (fr:=(0,0)) Tryz.results41 _ _ _ _ rfl hB' Tryz.underlying82 rfl (by kernel_rfl)
   case refine_2=>rfl
   have hl3:=HL3.out.size;refine⟨A,c,lx,by rw[HKE.out],by have h1:=HLX.out;rw[HKE.out,List.take_length]at h1;exact h1,?_,fun a ha=>ba hl3 (HA.out a ha),fun x hx=>⟨(HX.out x hx).1.keepF hkp (fun a ha e=>by have:=(HX.out x hx).2 a ha;have:=HSZ.out;omega),fun a ha=>ba hl3 ((HX.out x hx).2 a ha)⟩,?_⟩
   ·have h1:=HS.out.keepF hkp (fun a ha e=>HNE.out a ha e.symm);rw[HKE.out]at h1 ⊢
    exact h1
   ·exact aa.below (aa.below HL3.out HKV.out (fun q hq=>by rw[hq];exact HSZ.out.2) hl3) hkp (fun q hq=>by rw[hq];exact HSZ.out.2) (ba hl3 HKV.out.size)
  obtain⟨kb,ko,rfl,hkb,hkc⟩:=HKR.out (by omega);have hkbf:=HKF.out _ rfl;have hsz:=HSZ.out;have hv2:=HV2.out;have hsl:sb < w.heap.size:=HW.out.1 _ HWG.out.2;obtain⟨key,hkey⟩:=af ((eV l).getD k 0)
  have ck:wr.cell? ⟨kb,ko+k,none⟩=some (.int .u64 key):=by
   rw[hkey]
   exact(HKV.out.cell (p:=⟨kb,ko+k,none⟩) hkb (by show ¬kb=ob;simp only at hkbf;omega)).trans (hkc k hkl)
  have k0:(0:Int)<=(k:Int):=by omega
  have k1:(k:Int) < (l.length:Int):=by omega
  have hll:(l.length:Int)<=1000:=by have:=HLL.out;omega
  obtain⟨e,he⟩:∃e,l[k]? = some e:=⟨_,List.getElem?_eq_getElem hkl⟩
  have hct:key=e.v.ct:=by rw[hkey];unfold eV;rw[List.getD_eq_getElem?_getD,List.getElem?_map,he];rfl
  have hel:e∈l:=List.mem_of_getElem? he;have hfs:cW key l=some e:=by rw[hct];exact vx HRI.out hel
  have hok:=HT3.out.ok;have hrg:=HT3.out.rng e hel;have hk0:0<=key:=by rw[hct];have:=hok.deliver.1;omega
  have hk4:key < 4294967296:=by rw[hct];have:=hok.next;omega
  have hk9:key < 18446744073709551616:=by omega
  have hTr:=HT3.out.keepF HKV.out (fun q hq=>⟨fun hw=>by have:=HW.out.1 _ hw;omega,fun hw=>by have:=HW.out.2 _ hw;omega⟩);have HFA:=zh (show ∀W',aa (fun q=>∃a,A=some a/\q=a.block) wr W'->eI W' g s W R sb l ub eb from fun W' hW=>hTr.keepF hW (fun q ⟨a,ha,h⟩=>by
   have h1:=HA.out a ha
   exact⟨fun hw=>by have:=HW.out.1 _ hw;omega,fun hw=>by have:=HW.out.2 _ hw;omega⟩))
  have HOA:=zh (show ∀W',aa (fun q=>∃a,A=some a/\q=a.block) wr W'->ae W' ob 82 #[.int .u64 s.deliver,.int .u64 s.next,.slice A k c]from fun W' hW=>hW.blk HO.out (fun⟨a,ha,h⟩=>by have:=HA.out a ha;omega));have HLK:=zh (show ∀W',aa (fun q=>∃a,A=some a/\q=a.block) wr W'->(Instr.lookup 117 (.map (some sb)) (.int .u64 key) false).run Tryz.prog W'=.ok (.slice e.A e.v.n e.c) W' from fun W' hW=>vd (HFA.out W' hW).st hk0 hk9 hfs);have HPK:=zh (show ∀W',aa (fun q=>∃a,A=some a/\q=a.block) wr W'->ci W' R e.A e.v.n e.c e.v.z from fun W' hW=>(HFA.out W' hW).pk e hel);have HCT:=zh hct;have HE:=zh (And.intro he hel);obtain⟨ic,hic,hicz,hics,hicb⟩:=qC;have wk:IntKind.u32.wrap key=key:=by simp[IntKind.wrap_u32];omega
  have hkk:k < 1000:=by have:=HLL.out;omega
  clear hkc hkb hkey hkbf hct hel hfs hok hrg he hTr hsl;go_upto_region 7 with (fail)
  refine mH (L:=15) (S:=fun w'=>aa (fun q=>∃a,A=some a/\q=a.block) wr w') (by kernel_rfl) (aa.refl.drew) (fun hHeld=>?_);obtain⟨w0,hw0⟩:=af wr.drew
  rw[<-hw0];rw[<-hw0]at hHeld;have hb0:Below wr.heap.size wr w0:=by rw[hw0];exact(Below.refl _ _).drew
  clear hw0;refine sS (i:=0) (oi:=⟨some 29,_,_,_,_,_⟩) (v:=.pointer (some ⟨ob,2,none⟩)) rfl (Or.inl ⟨by rfl,fun W hW=>(by go_simp)⟩) (by assumption) ?_;refine sS (i:=1) (oi:=⟨some 30,_,_,_,_,_⟩) (v:=.slice A k c) rfl (Or.inl ⟨by rfl,fun W hW=>(by have:=(HOA.out W hW).cell 2;simp at this;go_simp)⟩) (by assumption) ?_;refine sS (i:=2) (oi:=⟨some 31,_,_,_,_,_⟩) (v:=.int .u64 key) rfl (Or.inl ⟨by rfl,fun W hW=>(by rfl)⟩) (by assumption) ?_;refine sS (i:=3) (oi:=⟨some 32,_,_,_,_,_⟩) (v:=.int .u32 key) rfl (Or.inl ⟨by rfl,fun W hW=>(by go_simp)⟩) (by assumption) ?_;refine sS (i:=4) (oi:=⟨some 33,_,_,_,_,_⟩) (v:=.pointer (some ⟨g,0,none⟩)) rfl (Or.inl ⟨by rfl,fun W hW=>(by rfl)⟩) (by assumption) ?_;refine sS (i:=5) (oi:=⟨some 34,_,_,_,_,_⟩) (v:=.pointer (some ⟨g,0,none⟩)) rfl (Or.inl ⟨by rfl,fun W hW=>(by go_simp)⟩) (by assumption) ?_;refine sS (i:=6) (oi:=⟨some 35,_,_,_,_,_⟩) (v:=.pointer (some ⟨g,43,none⟩)) rfl (Or.inl ⟨by rfl,fun W hW=>(by go_simp)⟩) (by assumption) ?_;refine sS (i:=7) (oi:=⟨some 36,_,_,_,_,_⟩) (v:=.map (some sb)) rfl (Or.inl ⟨by rfl,fun W hW=>(by have:=(HFA.out W hW).cs;go_simp)⟩) (by assumption) ?_;refine sS (i:=8) (oi:=⟨some 37,_,_,_,_,_⟩) (v:=.int .u64 key) rfl (Or.inl ⟨by rfl,fun W hW=>(by rfl)⟩) (by assumption) ?_;refine sS (i:=9) (oi:=⟨some 38,_,_,_,_,_⟩) (v:=.slice e.A e.v.n e.c) rfl (Or.inl ⟨by rfl,fun W hW=>(by have:=HLK.out W hW;go_simp)⟩) (by assumption) ?_;refine gT (i:=10) (o:=⟨some 39,_,_,_,_,_⟩) (by kernel_rfl) rfl (fun K hK=>?_);rw[if_pos (by rfl)];go_simp;refine(dc e.A e.v.n e.c e.v.z w0 (by have:=(HPK.out w0 hHeld).max;omega) (HPK.out w0 hHeld).row).mono ?_;rintro en u1 ⟨A2,c2,rfl,hc2,ho2,hb2⟩;dsimp only;obtain⟨A2',c2',hv2',hs2,hf2⟩:=py ho2
  cases hv2'
  have hb1:Below wr.heap.size wr u1:=hb0.trans (hb2.mono hb0.size);have hE1:aa (fun q=>∃a,A=some a/\q=a.block) wr u1:=hHeld.trans (aa.of_below (F:=fun _=>False) hb2) (fun _ _ h=>h.elim);have hf2':∀a,A2=some a->wr.heap.size<=a.block:=fun a ha=>ba hb0.size (hf2 a ha);refine hK.out _ _ hE1 (fun hHeld=>?_);clear hK K ho2 hb2
  try simp only[Act.put,qa,qb,qc]
  refine sS (i:=11) (oi:=⟨some 40,_,_,_,_,_⟩) (v:=.agg #[.int .u32 key,.slice A2 e.v.n c2]) rfl (Or.inl ⟨by rfl,fun W hW=>(by go_simp)⟩) (by assumption) ?_;refine gT (i:=12) (o:=⟨some 41,_,_,_,_,_⟩) (by kernel_rfl) rfl (fun K hK=>?_);rw[if_pos (by rfl)];go_simp;obtain⟨u2,hu2⟩:∃X,X=u1.alloc (.cells #[.int .u32 key,.slice A2 e.v.n c2] 68):=⟨_,rfl⟩
  obtain⟨nb,hnb⟩:=af u1.heap.size
  have hbk:Below u1.heap.size u1 u2:=by rw[hu2];exact bM _
  have hNB:ae u2 nb 68 #[.int .u32 key,.slice A2 e.v.n c2]:=by rw[hu2,hnb];exact ae.new _ _ _
  have hb3:Below wr.heap.size wr u2:=hb1.trans (hbk.mono hb1.size);have hE2:aa (fun q=>∃a,A=some a/\q=a.block) wr u2:=hE1.trans (aa.of_below (F:=fun _=>False) hbk) (fun _ _ h=>h.elim);have hs3:=hs2.next hbk;rw[<-hu2,<-hnb];refine hK.out _ _ hE2 (fun hHeld=>?_);clear hK K hu2
  try simp only[Act.put,qa,qb,qc]
  refine gT (i:=13) (o:=⟨some 42,_,_,_,_,_⟩) (by kernel_rfl) rfl (fun K hK=>?_);rw[if_pos (by rfl)];refine bB _ _ 27 27 rfl u2 68 ic (.agg #[.int .u32 0,.slice none 0 0]) 2 32 Tryz.underlying27 hic hicz hics hicb rfl A k c (lx.flatMap SE.cc) rfl (HS.out.next hb3) (.slice (some ⟨nb,0,none⟩) 1 1) rfl 1 [.int .u32 key,.slice A2 e.v.n c2] (Src.ofSlice _ Tryz.underlying27 ⟨nb,0,none⟩ 1 1 _ rfl (fun j u hu=>by
    have hj:j < 2:=(List.getElem?_eq_some_iff.1 hu).1;rw[Addr.add_lit,Nat.zero_add,hNB.cell j];simpa using hu) (by simp[Value.oneCell'])) (by decide) (by unfold maxLen;omega) (by omega) (fun A9 c9 u3 hs9 hk9 ha9=>?_)
  have hE3:aa (fun q=>∃a,A=some a/\q=a.block) wr u3:=hE2.trans hk9 (fun _ _ h=>h);have HA9:=zh (show ∀a,A9=some a->V3.heap.size<=a.block from fun a ha=>by
   rcases ha9 a ha with ⟨a',h1,h2⟩ | h2
   ·rw[h2];exact HA.out a' h1
   ·exact ba HKV.out.size (ba hb3.size h2))
  have hnA:∀a,A2=some a->¬∃a',A=some a'/\a.block=a'.block:=fun a ha ⟨a',h1,h2⟩=>by
   have h3:=hf2' a ha;have h4:=HS.out.lt h1;omega
  have hs4:=hs3.keepF hk9 hnA;have hXn:wT u3 V3.heap.size (⟨e.v,A2,c2⟩:SE):=⟨hs4,fun a ha=>ba HKV.out.size (hf2' a ha)⟩
  have hXo:∀x,x∈lx->wT u3 V3.heap.size x:=fun x hx=>by
   have h1:=HX.out x hx;refine⟨(h1.1.next hb3).keepF hk9 (fun a ha ⟨a',h2,h3⟩=>?_),h1.2⟩;obtain⟨cu1,hc1⟩:=(h1.1.next hb3).obj ha;obtain⟨cu2,hc2'⟩:=(HS.out.next hb3).obj h2;rw[h3,hc2']at hc1
   cases hc1
  have HS9:=zh (show SL u3 68 2 A9 (k+1) c9 ((lx++[(⟨e.v,A2,c2⟩:SE)]).flatMap SE.cc) by
   rw[List.flatMap_append];have h1:([(⟨e.v,A2,c2⟩:SE)]).flatMap SE.cc=[.int .u32 key,.slice A2 e.v.n c2]:=by rw[HCT.out];rfl
   rw[h1]
   exact hs9)
  have HX9:=zh (show ∀x,x∈lx++[(⟨e.v,A2,c2⟩:SE)]->wT u3 V3.heap.size x from fun x hx=>by
   rcases List.mem_append.1 hx with hx | hx
   ·exact hXo x hx
   ·have:x=(⟨e.v,A2,c2⟩:SE):=by simpa using hx
    rw[this]
    exact hXn)
  have HLX9:=zh (show(lx++[(⟨e.v,A2,c2⟩:SE)]).map (·.v)=(l.take (k+1)).map (·.v) by
   rw[List.take_add_one,HE.out.1,List.map_append,List.map_append,HLX.out]
   rfl)
  have HE3:=zh hE3;refine hK.out _ _ hE3 (fun hHeld=>?_);clear hK K hs9 hk9 ha9 hXn hXo hs4 hnA hE1 hE2
  try simp only[Act.put,qa,qb,qc]
  refine sS (i:=14) (oi:=⟨some 43,_,_,_,_,_⟩) (v:=.pointer (some ⟨ob,2,none⟩)) rfl (Or.inl ⟨by rfl,fun W hW=>(by go_simp)⟩) (by assumption) ?_;refine oa (o:=⟨none,_,_,_,_,_⟩) (by kernel_rfl) (by kernel_rfl) rfl (fun K hK=>?_);rw[if_pos (by rfl)];have co:=(HOA.out u3 HE3.out).cell 2;have fo:=(HOA.out u3 HE3.out).frozen 2;simp at co;go_simp;clear co fo;refine hK.out _ _ ?_;clear hK K hHeld
  try simp only[Act.put]
  have hK7:=uy u3 ob 2 (.slice A9 (k+1) c9);have hB7:ae (u3.setCell ⟨ob,2,none⟩ (.slice A9 (k+1) c9)) ob 82 #[.int .u64 s.deliver,.int .u64 s.next,.slice A9 (k+1) c9]:=by
   have h1:=(HOA.out u3 HE3.out).set_ 2 (.slice A9 (k+1) c9);simpa using h1
  have hI9:wO s l ob V3 (k+1) (u3.setCell ⟨ob,2,none⟩ (.slice A9 (k+1) c9)):=⟨A9,c9,lx++[(⟨e.v,A2,c2⟩:SE)],hB7,HLX9.out,HS9.out.keepF hK7 (fun a ha e=>by have:=HA9.out a ha;omega),HA9.out,fun x hx=>(HX9.out x hx).keepF hK7 (fun a ha e=>by have:=(HX9.out x hx).2 a ha;omega),(HKV.out.trans HE3.out (fun q hq ⟨a,ha,h⟩=>by have:=HA.out a ha;omega)).trans hK7 (fun q _ h=>h)⟩
  clear hK7 hB7;generalize u3.setCell ⟨ob,2,none⟩ (.slice A9 (k+1) c9)=V9 at hI9 ⊢;have HI9:=zh hI9;clear hI9;go_wp2;go_roundw
  case rel=>exact⟨k+1,by omega,by go_num,HI9.out⟩
  case measure=>simp[intOf];omega
end Go.Proofs.YtiiojpnckbglcaaGreat
