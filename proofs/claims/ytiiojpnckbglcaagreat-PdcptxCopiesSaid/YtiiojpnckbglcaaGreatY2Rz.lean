import Derived.Test.YtiiojpnckbglcaaGreatY2Bz
import Derived.Test.YtiiojpnckbglcaaGreatMY2Az
import Derived.Test.YtiiojpnckbglcaaGreatMZNz
set_option maxRecDepth 100000
set_option maxHeartbeats 6400000
set_option linter.unusedVariables false
set_option linter.unusedSimpArgs false
namespace Go.Proofs.YtiiojpnckbglcaaGreat
open Go.RowKit
attribute [local go_sem ↓] Go.wp_at_zero Go.wp_at_succ
theorem lF (g:Nat) (s:TS) (W R:Nat->Prop) (w:World) (h:bC w g s W R) (hf:s.Fine) (hql:s.Q.length<=1000000) (t:Int) (ht1:-9223372036854775808<=t) (ht2:t<=9223372036854775807) (A:Option Addr) (n c:Nat) (z:Nat->Int) (ha:kC w W A n z) (hn9:n<=maxLen) :
  Calls Tryz.prog 12 #[.pointer (some ⟨g,0,none⟩),.int .i64 t,.slice A n c] w fun e w'=>e=.returned (.int .i64 (s.submit t n z).1)/\cV W R w w' g (s.submit t n z).2:=by
 by_cases h9:n<=1000000
 ·exact oq g s W R w h hf hql t ht1 ht2 A n c z ha h9
 ·exact j8 g s W R w h hf t ht1 ht2 A n c z ha (.inr (.inr (by omega))) hn9
theorem kE (g:Nat) (s:TS) (W R:Nat->Prop) (w:World) (h:bC w g s W R) (x:Int) :
  Calls Tryz.prog 24 #[.pointer (some ⟨g,0,none⟩),.int .u32 x] w fun e w'=>e=.returned (.int .i64 (s.confirmed x).1)/\cV W R w w' g (s.confirmed x).2:=by
 unfold TS.confirmed
 cases hx:cN x s.P with
 | none=>exact(gJ g s W R w h x (fT hx)).mono fun e w' ⟨he,hB⟩=>⟨he,cV.same h hB⟩
 | some i=>
  obtain⟨e0,he,hct,hno⟩:=fR hx
  exact lT g s W R w h x i e0 he hct hno
theorem mD (g:Nat) (s:TS) (W R:Nat->Prop) (w:World) (h:bC w g s W R) (U:List (Nat->Int)) (hU:s.used=U.map aq) (hco:jh s.comp) (hpl:s.P.length<=1000000) (f c:Nat->Int) :
  Calls Tryz.prog 25 #[.pointer (some ⟨g,0,none⟩),.agg (aq f),.agg (aq c)] w fun e w'=>e=.returned (.int .i64 (s.rekey U f c).1)/\cV W R w w' g (s.rekey U f c).2:=by
 unfold TS.rekey;by_cases hk:du f U=true
 ·rw[if_pos hk]
  exact(lG g s W R w h U hU f c hk).mono fun e w' ⟨he,hB⟩=>⟨he,cV.same h hB⟩
 ·rw[if_neg hk]
  exact mY g s W R w h U hU hco hpl f c (by simpa using hk)
structure R5 where
 r:NX
 U:List (Nat->Int)
noncomputable def TS.call5 (s:TS) (U:List (Nat->Int)) (x:SV):R5:=
 if x.kind=1 then ⟨⟨0,zB,0,(s.submit x.now x.n x.z).1,(s.submit x.now x.n x.z).2⟩,U⟩
 else if x.kind=2 then ⟨s.sendK x.now,U⟩
 else if x.kind=3 then ⟨⟨0,zB,0,(s.confirmed x.cnt).1,(s.confirmed x.cnt).2⟩,U⟩
 else if x.kind=4 then ⟨⟨0,zB,0,(s.rekey U x.key x.code).1,(s.rekey U x.key x.code).2⟩,if du x.key U=true then U else U++[x.key]⟩
 else ⟨⟨0,zB,0,0,s⟩,U⟩
structure RT (k:Nat) (s:TS) (U:List (Nat->Int)):Prop where
 fine:s.Fine
 used:s.used=U.map aq
 comp:bN s.comp k
 ql:s.Q.length<=k
 pl:s.P.length<=k
 now0:0<=s.now
theorem RT.more {k k':Nat} {s:TS} {U:List (Nat->Int)} (h:RT k s U) (hk:k<=k'):RT k' s U:=⟨h.fine,h.used,h.comp.mono (by omega),bj h.ql hk,bj h.pl hk,h.now0⟩
theorem lI (s:TS) (t:Int) (h:0<=s.now):0<=(s.tick t).now:=by
 show 0<=max s.now t;omega
theorem oy (s:TS) (t:Int) (h:0<=s.now):0<=(s.sendK t).s.now:=by
 have ht:=lI s t h;unfold TS.sendK TS.sendF
 split
 ·exact h
 ·split
  ·exact ht
  ·split
   ·exact ht
   ·split
    ·exact ht
    ·split
     ·exact ht
     ·exact ht
theorem kR (s:TS) (t:Int) (n:Nat) (z:Nat->Int) (h:0<=s.now):(s.submit t n z).2.used=s.used/\(s.submit t n z).2.comp=s.comp/\(s.submit t n z).2.Q.length<=s.Q.length+1/\(s.submit t n z).2.P=s.P/\0<=(s.submit t n z).2.now:=by
 have ht:=lI s t h;have hl:=s.tick_len t;unfold TS.submit
 split
 ·exact⟨rfl,rfl,by show s.Q.length<=_;omega,rfl,h⟩
 ·split
  ·exact⟨rfl,rfl,by show(s.tick t).Q.length<=_;omega,rfl,ht⟩
  ·split
   ·exact⟨rfl,rfl,by show(s.tick t).Q.length<=_;omega,rfl,ht⟩
   ·refine⟨rfl,rfl,?_,rfl,ht⟩;show((s.tick t).Q++[_]).length<=_;rw[List.length_append];simp;omega
theorem RT.call {k:Nat} {s:TS} {U:List (Nat->Int)} (h:RT k s U) {w:World} {x:SV} (hx:iC w x):RT (k+1) (s.call5 U x).r.s (s.call5 U x).U:=by
 have hq:=h.ql;have hp:=h.pl;unfold TS.call5
 split
 ·obtain⟨a1,a2,a3,a4,a5⟩:=kR s x.now x.n x.z h.now0
  exact⟨h.fine.submit h.now0 _ _ _,a1.trans h.used,by rw[a2];exact h.comp.mono (by omega),by dsimp only;omega,by dsimp only;rw[a4];omega,a5⟩
 split
 ·obtain⟨a1,a2,a3,a4⟩:=s.sendK_len x.now
  exact⟨h.fine.sendK _,a4.trans h.used,(h.comp.sendK _).mono (by omega),by dsimp only;omega,by dsimp only;omega,oy s _ h.now0⟩
 split
 ·unfold TS.confirmed
  split
  ·exact⟨⟨h.fine.ok,h.fine.val,h.fine.at_⟩,h.used,h.comp.mono (by omega),by show s.Q.length<=_;omega,by show(s.P.eraseIdx _).length<=_;have:=List.length_eraseIdx_le s.P ‹Nat›;omega,h.now0⟩
  ·exact h.more (Nat.le_succ _)
 split
 ·unfold TS.rekey
  split
  ·exact h.more (Nat.le_succ _)
  ·exact⟨⟨⟨hx.key,hx.code⟩,h.fine.val,h.fine.at_⟩,by show s.used++[aq x.key] = (U++[x.key]).map aq;rw[h.used,List.map_append];rfl,pU _ (by omega),by show s.Q.length<=_;omega,by show(s.P.map PV.again).length<=_;rw[List.length_map];omega,h.now0⟩
 ·exact h.more (Nat.le_succ _)
theorem iD.from_ {W R:Nat->Prop} {w V:World} {g:Nat} {r:NX} {e:Ending} {w':World} (hb:Below w.heap.size w V) (h:iD W R V g r e w'):iD W R w g r e w':=by
 obtain⟨A,c,W',R',h1,h2,h3,h4,h5,h6,h7,h8⟩:=h;have hs:=hb.size
 exact⟨A,c,W',R',h1,h2,h3,h4,fun k hk=>(h5 k hk).imp id (fun h=>bj hs h),fun k hk=>(h6 k hk).imp id (fun h=>bj hs h),(aa.of_below (F:=W) hb).trans h7 (fun _ _ h=>h),fun a ha=>⟨bj hs (h8 a ha).1,(h8 a ha).2⟩⟩
theorem cV.from_ {W R:Nat->Prop} {w V w':World} {g:Nat} {s:TS} (hb:Below w.heap.size w V) (h:cV W R V w' g s):cV W R w w' g s:=
 cV.comp (fun _ h=>.inl h) (fun _ h=>.inl h) (aa.of_below (F:=W) hb) h
theorem kz:(Tryz.prog.info? 56).map (·.size)=some 36:=by kernel_rfl
theorem pP (g:Nat) (s:TS) (U:List (Nat->Int)) (W R:Nat->Prop) (w:World) (h:bC w g s W R) (k:Nat) (hi:RT k s U) (hk:k<=1000) (x:SV) (hx:iC w x) (hA:∀a,x.A=some a->x.n ≠ 0->¬W a.block) (XC:Array Value) (hXs:XC.size=36) (hX:∀j,j < 36->XC[j]? = some (x.cell j)) :
  Calls Tryz.prog 20 #[.pointer (some ⟨g,0,none⟩),.agg XC] w (iD W R w g (s.call5 U x).r):=by
 have HT:=Lib.hid h;have HXC:=Lib.hid hX;have HUK:=Lib.hid Tryz.underlying23;have HSK1:=Lib.hid (gw x.key);have HSK2:=Lib.hid (gw x.code);obtain⟨r,hr⟩:=af ((s.call5 U x).r)
 have HR:=Lib.hid hr;rw[<-hr];obtain⟨kd,hkd⟩:∃k,k=x.kind:=⟨_,rfl⟩
 obtain⟨nw,hnw⟩:∃k,k=x.now:=⟨_,rfl⟩
 obtain⟨cx,hcx⟩:∃k,k=x.cnt:=⟨_,rfl⟩
 obtain⟨A,hA2⟩:∃k,k=x.A:=⟨_,rfl⟩
 obtain⟨n,hn⟩:∃k,k=x.n:=⟨_,rfl⟩
 obtain⟨c,hc⟩:∃k,k=x.c:=⟨_,rfl⟩
 have HKD:=Lib.hid hkd;have HE0:=Lib.hid (show x.cell 0=.int .i64 kd/\x.cell 1=.int .i64 nw/\x.cell 2=.int .u32 cx/\x.cell 3=.slice A n c from ⟨by rw[hkd];rfl,by rw[hnw];rfl,by rw[hcx];rfl,by rw[hA2,hn,hc];rfl⟩);have HE1:=Lib.hid (show(∀j,j < 16->x.cell (4+j)=.int .u8 (x.key j))/\∀j,j < 16->x.cell (20+j)=.int .u8 (x.code j)from ⟨fun j hj=>by
  unfold SV.cell;rw[if_neg (by omega),if_neg (by omega),if_neg (by omega),if_neg (by omega),if_pos (by omega),show 4+j-4=j by omega],fun j hj=>by
  unfold SV.cell;rw[if_neg (by omega),if_neg (by omega),if_neg (by omega),if_neg (by omega),if_neg (by omega),show 20+j-20=j by omega]⟩)
 obtain⟨xb,hxb⟩:=af w.heap.size
 have hq:=hi.ql;have hp:=hi.pl;have HSU:=Lib.hid (fun V (hb:Below w.heap.size w V)=>lF g s W R V (h.below hb) hi.fine (by omega) x.now hx.now.1 hx.now.2 x.A x.n x.c x.z ⟨(hx.below hb).row,hx.byte,hA⟩ hx.mx);have HNX:=Lib.hid (fun V (hb:Below w.heap.size w V)=>qQ g s W R V (h.below hb) hi.fine x.now hx.now.1 hx.now.2 (la g s.C hi.fine.ok hi.fine.val) k (by omega) hi.comp (by omega));have HCF:=Lib.hid (fun V (hb:Below w.heap.size w V)=>kE g s W R V (h.below hb) x.cnt);have HKY:=Lib.hid (fun V (hb:Below w.heap.size w V)=>mD g s W R V (h.below hb) U hi.used hi.comp.ok (by omega) x.key x.code);rw[<-hnw]at HNX;rw[<-hnw,<-hA2,<-hn,<-hc]at HSU;rw[<-hcx]at HCF;obtain⟨KF,hKF⟩:=af (aq x.key)
 obtain⟨KC,hKC⟩:=af (aq x.code)
 have HKF:=Lib.hid hKF;have HKC:=Lib.hid hKC;rw[<-hKF]at HSK1;rw[<-hKC]at HSK2;rw[<-hKF,<-hKC]at HKY;have HNW:=Lib.hid (And.intro hnw (And.intro hcx hn));have HI:=Lib.hid hi;clear h hi hx hA hX hkd hnw hcx hA2 hn hc hr hKF hKC hq hp;go_enter Tryz.func20,Tryz.ntmps20;go_upto_region 1 with (fail)
 refine ah (fun V=>ae V xb 56 XC/\Below w.heap.size w V) ⟨by rw[hxb];exact ae.new _ _ _,(Below.refl _ w).alloc aB _⟩ ?_;rintro V ⟨b1,b2⟩;rw[<-hxb];have HB:=Lib.hid b1;have HBW:=Lib.hid b2;have HRG1:=Lib.hid (show V.rangeAt xb 4 KF.toList from fun j y hy=>by
  have hj:j < 16:=by have:=(List.getElem?_eq_some_iff.1 hy).1;rw[HKF.out]at this;exact this
  rw[b1.cell,HXC.out _ (by omega),HE1.out.1 j hj,<-hy,Array.getElem?_toList,HKF.out,eP _ j hj])
 have HRG2:=Lib.hid (show V.rangeAt xb 20 KC.toList from fun j y hy=>by
  have hj:j < 16:=by have:=(List.getElem?_eq_some_iff.1 hy).1;rw[HKC.out]at this;exact this
  rw[b1.cell,HXC.out _ (by omega),HE1.out.2 j hj,<-hy,Array.getElem?_toList,HKC.out,eP _ j hj])
 have x0:V.cell? ⟨xb,0,none⟩=some (.int .i64 kd):=(b1.cell 0).trans ((HXC.out 0 (by decide)).trans (by rw[HE0.out.1]));have x1:V.cell? ⟨xb,1,none⟩=some (.int .i64 nw):=(b1.cell 1).trans ((HXC.out 1 (by decide)).trans (by rw[HE0.out.2.1]));have x2:V.cell? ⟨xb,2,none⟩=some (.int .u32 cx):=(b1.cell 2).trans ((HXC.out 2 (by decide)).trans (by rw[HE0.out.2.2.1]));have x3:V.cell? ⟨xb,3,none⟩=some (.slice A n c):=(b1.cell 3).trans ((HXC.out 3 (by decide)).trans (by rw[HE0.out.2.2.2]));clear b1 b2 hxb hXs;by_cases q1:kd=1
 ·subst q1;have hrr:r=⟨0,zB,0,(s.submit nw n x.z).1,(s.submit nw n x.z).2⟩:=by rw[HR.out,HNW.out.1,HNW.out.2.2];unfold TS.call5;rw[if_pos HKD.out.symm]
  have HRR:=Lib.hid hrr;clear hrr;go_wp2_with (go_at_call 12;refine(HSU.out _ HBW.out).mono ?_;rintro e w2 ⟨rfl,hO⟩;have HO:=Lib.hid hO;clear hO);go_ret3;rw[HRR.out]
  exact cT (HO.out.from_ HBW.out) _
 have t1:(kd == 1)=false:=by simpa using q1
 by_cases q2:kd=2
 ·subst q2;have hrr:r=s.sendK nw:=by rw[HR.out,HNW.out.1];unfold TS.call5;rw[if_neg (by rw[<-HKD.out];decide),if_pos HKD.out.symm]
  have HRR:=Lib.hid hrr;clear hrr q1 t1;go_wp2_with (go_at_call 13;refine(HNX.out _ HBW.out).mono ?_;rintro e w2 ⟨A5,c5,W5,R5,rfl,hO⟩;have HO:=Lib.hid hO;clear hO);go_ret3;rw[HRR.out]
  exact iD.from_ HBW.out ⟨A5,c5,W5,R5,rfl,HO.out⟩
 have t2:(kd == 2)=false:=by simpa using q2
 by_cases q3:kd=3
 ·subst q3;have hrr:r=⟨0,zB,0,(s.confirmed cx).1,(s.confirmed cx).2⟩:=by rw[HR.out,HNW.out.2.1];unfold TS.call5;rw[if_neg (by rw[<-HKD.out];decide),if_neg (by rw[<-HKD.out];decide),if_pos HKD.out.symm]
  have HRR:=Lib.hid hrr;clear hrr q1 q2 t1 t2;go_wp2_with (go_at_call 24;refine(HCF.out _ HBW.out).mono ?_;rintro e w2 ⟨rfl,hO⟩;have HO:=Lib.hid hO;clear hO);go_ret3;rw[HRR.out]
  exact cT (HO.out.from_ HBW.out) _
 have t3:(kd == 3)=false:=by simpa using q3
 by_cases q4:kd=4
 ·subst q4;have hrr:r=⟨0,zB,0,(s.rekey U x.key x.code).1,(s.rekey U x.key x.code).2⟩:=by rw[HR.out];unfold TS.call5;rw[if_neg (by rw[<-HKD.out];decide),if_neg (by rw[<-HKD.out];decide),if_neg (by rw[<-HKD.out];decide),if_pos HKD.out.symm]
  have HRR:=Lib.hid hrr;clear hrr q1 q2 q3 t1 t2 t3;go_wp2_with (first
   | (refine wpList_load_mid rfl _ _ rfl xb 4 rfl KF.toList _ HRG1.out HUK.out rfl HSK1.out ?_)
   | (refine wpList_load_mid rfl _ _ rfl xb 20 rfl KC.toList _ HRG2.out HUK.out rfl HSK2.out ?_)
   | (go_at_call 25;refine(HKY.out _ HBW.out).mono ?_;rintro e w2 ⟨rfl,hO⟩;have HO:=Lib.hid hO;clear hO))
  go_ret3;rw[HRR.out]
  exact cT (HO.out.from_ HBW.out) _
 have t4:(kd == 4)=false:=by simpa using q4
 have hrr:r=⟨0,zB,0,0,s⟩:=by rw[HR.out];unfold TS.call5;rw[if_neg (by rw[<-HKD.out];exact q1),if_neg (by rw[<-HKD.out];exact q2),if_neg (by rw[<-HKD.out];exact q3),if_neg (by rw[<-HKD.out];exact q4)]
 have HRR:=Lib.hid hrr;clear hrr q1 q2 q3 q4;go_wp2;go_ret3;rw[HRR.out]
 exact cT (cV.same HT.out HBW.out) _
end Go.Proofs.YtiiojpnckbglcaaGreat
