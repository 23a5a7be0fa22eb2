import Derived.Test.YtbfpdnnphdagjaaGreatSEy
import Derived.Test.YtbfpdnnphdagjaaGreatMZMy
import Derived.Test.YtbfpdnnphdagjaaGreatMYHy
import Derived.Test.YtbfpdnnphdagjaaGreatMYAy
import Derived.Test.YtbfpdnnphdagjaaGreatMZOy
import Derived.Test.YtbfpdnnphdagjaaGreatMZAy
import Derived.Test.YtbfpdnnphdagjaaGreatMLPy
import Derived.Test.YtbfpdnnphdagjaaGreatMSDy
import Derived.BigQuiet
import Derived.Lib.SlBytesConst
set_option linter.unusedVariables false
set_option linter.unusedSimpArgs false
namespace Go.Proofs.YtbfpdnnphdagjaaGreat
open Go.RowKit
attribute [local go_sem ↓] Go.wp_at_zero Go.wp_at_succ
private theorem bq7 {P:Program} {ops:Array Oper} {Q:Exit->Act->World->Prop} {md:Region.Mode} {S:World->Prop} {i:Nat} {oi:Oper} {v:Value} {fuel:Nat} {listed l':Array Bool} {a a':Act} {w:World} (hi:ops[i]? = some oi) (hy:YieldsIf P ops S oi v a) (hS:S w)
  (h:wpAnyH P md ops Q S fuel l' a' w) (hl:listed.setIfInBounds i true=l':=by(try simp only[List.setIfInBounds_toArray,List.set_cons_zero,List.set_cons_succ]);rfl) (ha:a.put oi.dst v=a':=by(try simp only[Act.put,List.setIfInBounds_toArray,List.set_cons_zero,List.set_cons_succ]);rfl) (hs:Region.noSelect ops=true:=by kernel_rfl) (hf:Region.free md ops listed i=true:=by kernel_rfl) (hr:(Region.ready md ops listed).contains i=true:=by kernel_rfl)
  (hQ:∀c a w,Q (.panic c) (a.put oi.dst v) w->Q (.panic c) a w:=by exact fun _ _ _ h=>h):wpAnyH P md ops Q S (fuel+1) listed a w:=by subst hl;subst ha;exact wpAnyH_take hi hs hf hr hQ hy hS h
set_option maxRecDepth 100000 in
set_option maxHeartbeats 3200000 in
theorem uD (g:Nat) (s:TS) (W R:Nat->Prop) (w:World) (h:eS w g s W R) (U:List (Nat->Int)) (hU:s.used=U.map aj) (f:Nat->Int) :
  Calls Tryz.prog 31 #[.pointer (some ⟨g,0,none⟩),.agg (aj f)] w fun e w'=>e=.returned (.bool (!de f U))/\Below w.heap.size w w':=by
 have HNO:=zh (fun(V:World) (hb:Below w.heap.size w V)=>fj g s W R V (h.below hb))
 obtain⟨qA,qc,lq,pA,pc,lp,ub,cb,hT⟩:=h
 have HT:=zh hT
 have HLK:=zh (fun(V:World) (hb:Below w.heap.size w V)=>iI V ub U f (by rw[<-hU];exact(hT.below hb).u))
 have HSK:=zh (cU f)
 have HUK:=zh Tryz.underlying23
 obtain⟨KF,hKF⟩:=af (aj f)
 rw[<-hKF]at HLK HSK ⊢
 obtain⟨q,hq⟩:=af (de f U)
 rw[<-hq]at HLK ⊢
 clear hT hKF hU hq
 go_enter Tryz.func31,Tryz.ntmps31
 go_upto_region 1 with (fail)
 obtain⟨kb,hkb⟩:=af w.heap.size
 refine ah (fun V=>ae V kb 23 KF/\Below w.heap.size w V) ⟨by rw[hkb];exact ae.new _ _ _,(Below.refl _ w).alloc ay _⟩ ?_
 rintro W1 ⟨b1,b3⟩
 have B1:=zh b1
 have B3:=zh b3
 rw[<-hkb]
 clear b1 b3 hkb
 have HKR:=zh (show ∀W',Below W1.heap.size W1 W'->W'.rangeAt kb 0 KF.toList from fun W' hW=>(B1.out.below hW B1.out.lt).range _ (by simp))
 have HC44:=zh (show ∀W',Below W1.heap.size W1 W'->W'.cell? ⟨g,44,none⟩=some (.map (some ub))from fun W' hW=>(HT.out.below (B3.out.trans (hW.mono B3.out.size))).cu)
 have HL2:=zh (show ∀W',Below W1.heap.size W1 W'->(Instr.lookup 75 (.map (some ub)) (.agg KF) false).run Tryz.prog W'=.ok (.bool q) W' from fun W' hW=>HLK.out W' (B3.out.trans (hW.mono B3.out.size)))
 refine wp_region_held_drew (S:=fun w'=>Below W1.heap.size W1 w') (by kernel_rfl) ((Below.refl _ W1).drew) (fun hHeld=>?_)
 obtain⟨w0,hw0⟩:=af W1.drew
 rw[<-hw0]
 rw[<-hw0]at hHeld
 clear hw0
 refine bq7 (i:=0) (oi:=⟨some 5,_,_,_,_,_⟩) (v:=.pointer (some ⟨g,0,none⟩)) rfl (Or.inl ⟨by rfl,fun W hW=>(by rfl)⟩) (by assumption) ?_
 refine wpAnyH_ready (rs:=[1]) (by kernel_rfl) (by simp) ?_
 refine AllReadyH.cons (o:=⟨some 6,_,_,_,_,_⟩) rfl (fun K hK=>?_) AllReadyH.nil
 rw[if_pos (by rfl)]
 go_simp
 refine(HNO.out w0 (B3.out.trans (hHeld.mono B3.out.size))).mono ?_
 rintro e w1' ⟨rfl,rfl⟩
 dsimp only
 refine hK.out _ _ hHeld (fun hHeld=>?_)
 clear hK K
 try simp only[Act.put,List.setIfInBounds_toArray,List.set_cons_zero,List.set_cons_succ]
 refine bq7 (i:=2) (oi:=⟨some 7,_,_,_,_,_⟩) (v:=.bool true) rfl (Or.inl ⟨by rfl,fun W hW=>(by go_simp)⟩) (by assumption) ?_
 refine bq7 (i:=3) (oi:=⟨some 8,_,_,_,_,_⟩) (v:=.bool true) rfl (Or.inl ⟨by rfl,fun W hW=>(by rfl)⟩) (by assumption) ?_
 refine bq7 (i:=4) (oi:=⟨some 9,_,_,_,_,_⟩) (v:=.pointer (some ⟨g,0,none⟩)) rfl (Or.inl ⟨by rfl,fun W hW=>(by rfl)⟩) (by assumption) ?_
 refine bq7 (i:=5) (oi:=⟨some 10,_,_,_,_,_⟩) (v:=.pointer (some ⟨g,0,none⟩)) rfl (Or.inl ⟨by rfl,fun W hW=>(by go_simp)⟩) (by assumption) ?_
 refine bq7 (i:=6) (oi:=⟨some 11,_,_,_,_,_⟩) (v:=.pointer (some ⟨g,44,none⟩)) rfl (Or.inl ⟨by rfl,fun W hW=>(by go_simp)⟩) (by assumption) ?_
 refine bq7 (i:=7) (oi:=⟨some 12,_,_,_,_,_⟩) (v:=.map (some ub)) rfl (Or.inl ⟨by rfl,fun W hW=>(by have:=HC44.out W hW;go_simp)⟩) (by assumption) ?_
 refine' bq7 (i:=8) (oi:=⟨some 13,_,_,_,_,_⟩) (v:=_) rfl (yieldsIf_load_mid (by rfl) _ _ rfl kb 0 rfl KF.toList _ (fun w h=>HKR.out w h) HUK.out rfl HSK.out) (by assumption) ?_
 refine bq7 (i:=9) (oi:=⟨some 14,_,_,_,_,_⟩) (v:=.bool q) rfl (Or.inl ⟨by rfl,fun W hW=>(by have:=HL2.out W hW;go_simp)⟩) (by assumption) ?_
 refine bq7 (i:=10) (oi:=⟨some 15,_,_,_,_,_⟩) (v:=.bool (!q)) rfl (Or.inl ⟨by rfl,fun W hW=>(by cases q<;>go_simp)⟩) (by assumption) ?_
 refine bq7 (i:=11) (oi:=⟨some 16,_,_,_,_,_⟩) (v:=.bool (!q)) rfl (Or.inl ⟨by rfl,fun W hW=>(by go_simp)⟩) (by assumption) ?_
 refine bq7 (i:=12) (oi:=⟨some 4,_,_,_,_,_⟩) (v:=.bool (!q)) rfl (Or.inl ⟨by rfl,fun W hW=>(by rfl)⟩) (by assumption) ?_
 refine wpAnyH_done (by kernel_rfl) ?_ _
 have H2:=zh hHeld
 clear hHeld
 go_wp2
 go_ret
 exact⟨rfl,B3.out.trans (H2.out.mono B3.out.size)⟩
end Go.Proofs.YtbfpdnnphdagjaaGreat
namespace Go.Proofs.YtbfpdnnphdagjaaGreat
open Go.RowKit
attribute [local go_sem] Oper.semAt_some
set_option maxRecDepth 100000 in
set_option maxHeartbeats 6400000 in
theorem oP (g:Nat) (s:RS) (W R:Nat->Prop) (sb:Nat) (l:List SE) (ub eb:Nat) (w:World) (h:aN w g s W R sb l ub eb) (hok:s.C.Ok) (hcm:s.C.cm=false) (hro:0<=s.C.ro/\s.C.ro<=1073741824) (hl:l.length<=100) (hrun:s.run=false) (hdup:s.dup < 4611686018427387903) (t:Int)
  (A:Option Addr) (n c:Nat) (z:Nat->Nat) (hn:n<=9223372036854775807) (hnc:n<=c) (hz:∀j,j < n->z j < 256) (hr:aD w w.heap.size A n (fun j=>.int .u8 ((z j:Nat):Int))) (hA:∀a,A=some a->¬W a.block) (hD:nU g s.C W R sb ub eb A n c z) :
  Calls Tryz.prog 27 #[.pointer (some ⟨g,0,none⟩),.int .i64 t,.slice A n c] w (zr g s W R sb ub eb t n z w):=by
 have hmf:∀(fn:Fn) (first cap:Array Value) (w:World),(Instr.makeFunc fn first cap).run Tryz.prog w=.ok (.func fn first cap) w:=fun _ _ _ _=>rfl
 obtain⟨ob,hob⟩:=af w.heap.size
 obtain⟨W1,hW1⟩:=af ((w.alloc (.cells #[.slice none 0 0] 36)).alloc (.cells #[.int .i64 0] 30))
 have hB1:Below w.heap.size w W1:=by rw[hW1];exact((Below.refl _ w).alloc ay _).alloc (by simp) _
 have hO:ae W1 ob 36 #[.slice none 0 0]:=by rw[hW1,hob];exact(ae.new _ _ _).alloc _
 have hE:ae W1 (ob+1) 30 #[.int .i64 0]:=by rw[hW1,hob];exact ar _ _ _ _ (by simp)
 have hT:=h.below hB1
 have HAT:=zh (z6 g s W R sb l ub eb W1 hT t)
 have HW:=zh (And.intro h.win h.rin)
 have HWG:=zh (And.intro h.wg h.ws)
 have HDIS:=zh h.dis
 have hgo:g < ob/\sb < ob:=by have:=h.win _ h.wg;have:=h.win _ h.ws;omega
 have HP:=zh (And.intro hok (And.intro hcm (And.intro hro (And.intro hl (And.intro hdup (And.intro hnc (And.intro hz (And.intro hr (And.intro hA (And.intro hD h.lv))))))))))
 have HO:=zh hO
 have HE:=zh hE
 have HB1:=zh hB1
 have HWW:=zh hW1
 have HOB:=zh hob
 have HRUN:=zh hrun
 clear hrun h hok hcm hro hl hdup hnc hz hr hA hD hO hE hB1 hW1 hT
 refine(callsIn_wide (n:=9)).1 ?_
 refine callsIn_of_wp_marks Tryz.func27 rfl trivial ?_ rfl
 simp only[Tryz.ntmps27,List.size_toArray,List.length_cons,List.length_nil,Nat.reduceAdd,Nat.reduceSub,Array.replicate_succ,Array.replicate_zero,List.push_toArray,List.append_toArray,List.nil_append,List.cons_append]
 refine wpIn_wide.2 ?_
 go_upto_region 1 with (fail)
 rw[<-HWW.out,<-HOB.out]
 clear hob
 by_cases hbt:1073741824<=t
 ·have HX:=zh (show s.receive t n z=([],2,s) by unfold RS.receive;rw[if_pos hbt])
  go_wp2_with (go_at_call 48;refine(HAT.out).mono ?_;rintro e w2 ⟨he,hT2,hk2⟩;rw[if_pos hbt]at he hT2;subst he;have HT2:=zh hT2;have HK2:=zh hk2;have f1:=(hk2.blk HO.out (by omega)).frozen 0;have f2:=(hk2.blk HE.out (by omega)).frozen 0;have o1:=(hk2.blk HO.out (by omega)).cell 0;have o2:=(hk2.blk HE.out (by omega)).cell 0;clear hT2 hk2)
  have ho2:ae w2 ob 36 #[.slice none 0 0]:=HK2.out.blk HO.out (by omega)
  have he2:ae w2 (ob+1) 30 #[.int .i64 0]:=HK2.out.blk HE.out (by omega)
  have k3:=aC w2 ob 0 (.slice none 0 0)
  have k4:=aC (w2.setCell ⟨ob,0,none⟩ (.slice none 0 0)) (ob+1) 0 (.int .i64 2)
  have k34:aa (fun k=>k=ob\/k=ob+1) w2 ((w2.setCell ⟨ob,0,none⟩ (.slice none 0 0)).setCell ⟨ob+1,0,none⟩ (.int .i64 2)):=(k3.mono (fun _ h=>.inl h)).trans k4 (fun _ _ h=>.inr h)
  have q1:=(k4.blk (ho2.set_ 0 (.slice none 0 0)) (by omega)).cell 0
  have q2:=((k3.blk he2 (by omega)).set_ 0 (.int .i64 2)).cell 0
  simp at q1 q2
  refine⟨.tuple #[.slice none 0 0,.int .i64 2],by simp[results,Tryz.results27,go_sem,q1,q2],?_⟩
  refine⟨R,l,none,0,[],by rw[HX.out];rfl,⟨SL.nil _ _ _,fun a h=>by cases h⟩,by rw[HX.out];rfl,fun x h=>by simp at h,?_,fun k h=>.inl h,fun k h=>h,?_⟩
  ·rw[HX.out]
   exact zv HT2.out k34 (fun k h=>by have:=HOB.out;omega) HW.out
  ·exact((aa.of_below HB1.out).trans HK2.out (fun k _ e=>by rw[e];exact HWG.out.1)).trans k34 (fun k hk e=>by have:=HOB.out;omega)
 have HX:=zh (show s.receive t n z=(let y:=(s.at_ t).expire.2.take n z;if y.2.1=true then ((s.at_ t).expire.1++y.2.2.deliver_.1,0,y.2.2.deliver_.2.timer) else ((s.at_ t).expire.1,y.1,y.2.2)) by unfold RS.receive;rw[if_neg hbt])
 go_upto_region 4 with (go_at_call 48;refine(HAT.out).mono ?_;rintro e w2 ⟨he,hT2,hk2⟩;rw[if_neg hbt]at he hT2;subst he;have HT2:=zh hT2;have HK2:=zh hk2;have HO2:=zh (hk2.blk HO.out (by omega));have HE2:=zh (hk2.blk HE.out (by omega));clear hT2 hk2)
 have HEXP:=zh (nQ g (s.at_ t) W R sb l ub eb w2 HT2.out (.inl HRUN.out))
 have hWob:¬W ob/\¬W (ob+1)/\¬R ob/\¬R (ob+1):=⟨fun h=>by have:=HW.out.1 _ h;have:=HOB.out;omega,fun h=>by have:=HW.out.1 _ h;have:=HOB.out;omega,fun h=>by have:=HW.out.2 _ h;have:=HOB.out;omega,fun h=>by have:=HW.out.2 _ h;have:=HOB.out;omega⟩
 have HWO:=zh hWob
 clear hWob
 go_upto_region 6 with (go_at_call 49;refine(HEXP.out).mono ?_;rintro e w3 ⟨A1,c1,lo1,l1,rfl,hM1,hm1,hs1,hs2,hT3,hk3⟩;have HM1:=zh (And.intro hM1 (And.intro hm1 (And.intro hs1 hs2)));have HT3:=zh hT3;have HK3:=zh hk3;have HO3:=zh (hk3.blk HO2.out HWO.out.1);have HE3:=zh (hk3.blk HE2.out HWO.out.2.1);have f3:=HO3.out.frozen 0;have o3:w3.cell? ⟨ob,0,none⟩=some (.slice none 0 0):=HO3.out.cell 0;clear hM1 hm1 hs1 hs2 hT3 hk3)
 obtain⟨s5,hs5⟩:∃x,x=(s.at_ t).expire.2:=⟨_,rfl⟩
 obtain⟨x1,hx1⟩:∃x,x=(s.at_ t).expire.1:=⟨_,rfl⟩
 have hkp:=fA (s.at_ t)
 rw[<-hs5,<-hx1]at hkp HX
 rw[<-hs5]at HT3
 rw[<-hx1]at HM1
 have hatC:(s.at_ t).C=s.C/\(s.at_ t).dup=s.dup/\(s.at_ t).L=s.L:=⟨rfl,rfl,rfl⟩
 have hc5:s5.C=s.C:=hkp.1.trans hatC.1
 have hd5:s5.dup=s.dup:=hkp.2.1.trans hatC.2.1
 have hlen5:x1.length+s5.L.length<=100:=by rw[hkp.2.2,hatC.2.2,<-HP.out.2.2.2.2.2.2.2.2.2.2,List.length_map];exact HP.out.2.2.2.1
 have hl1:lo1.length=x1.length:=by rw[<-HM1.out.2.1,List.length_map]
 have hl5:l1.length=s5.L.length:=by rw[<-HT3.out.lv,List.length_map]
 have HLEN:=zh (show lo1.length+l1.length<=100 by omega)
 have HC5:=zh (And.intro hc5 hd5)
 have k4:=aC w3 ob 0 (.slice A1 lo1.length c1)
 have hKW:aa W w (w3.setCell ⟨ob,0,none⟩ (.slice A1 lo1.length c1)):=(((aa.of_below HB1.out).trans HK2.out (fun k _ e=>by rw[e];exact HWG.out.1)).trans HK3.out (fun k _ h=>h)).trans k4 (fun k hk e=>by have:=HOB.out;omega)
 refine ah (fun V=>aN V g s5 W R sb l1 ub eb/\ae V ob 36 #[.slice A1 lo1.length c1]/\ae V (ob+1) 30 #[.int .i64 0]/\ze V w2.heap.size A1 c1 lo1/\aa W w V/\(∀x,x∈lo1->bZ V R x.A x.v.n x.c x.v.z)/\w2.heap.size<=V.heap.size)
  ⟨zv HT3.out k4 (fun k h=>by have:=HOB.out;omega) HW.out,HO3.out.set_ 0 _,k4.blk HE3.out (by omega),⟨HM1.out.1.1.keepF k4 (fun a ha e=>by have:=HM1.out.1.2 a ha;have:=HO2.out.lt;omega),HM1.out.1.2⟩,hKW,fun x hx=>(HT2.out.pk x (HM1.out.2.2.1 x hx)).keep ((HK3.out.mono (G:=fun k=>W k\/k=ob) (fun _ h=>.inl h)).trans k4 (fun k _ h=>.inr h)) (fun k hk hr=>by
   rcases hk with hk | hk
   ·exact HDIS.out k hk hr
   ·rw[hk]at hr;exact HWO.out.2.2.1 hr),a9 HK3.out.size k4.size⟩ ?_
 rintro w4 ⟨t4,o4,e4,m4,kw4,p4,z4⟩
 have HT4:=zh t4
 have HO4:=zh o4
 have HE4:=zh e4
 have HM4:=zh m4
 have HK4:=zh kw4
 have HP4:=zh p4
 have hz24:w.heap.size<=w2.heap.size:=a9 HB1.out.size HK2.out.size
 have HZ4:=zh (And.intro z4 hz24)
 have HR4:Hid (aD w4 w4.heap.size A n (fun j=>.int .u8 ((z j:Nat):Int))):=zh ((HK4.out.row HP.out.2.2.2.2.2.2.2.1 ay (fun a ha _=>HP.out.2.2.2.2.2.2.2.2.1 a ha)).more HK4.out.size)
 have hDA:=HP.out.2.2.2.2.2.2.2.2.2.1 s5 l1 w4 hc5 t4 HR4.out
 rw[<-hc5]at hDA
 have HTK:Hid (Calls Tryz.prog 51 #[.pointer (some ⟨g,0,none⟩),.slice A n c] w4 (mt g s5 W R sb l1 ub eb n z w4)):=zh (by
  have o5:s5.C.Ok:=by rw[hc5];exact HP.out.1
  have c5:s5.C.cm=false:=by rw[hc5];exact HP.out.2.1
  have d5:s5.dup < 4611686018427387903:=by rw[hd5];exact HP.out.2.2.2.2.1
  cases hig:s5.C.ig
  ·exact yb g s5 W R sb l1 ub eb w4 t4 o5 c5 hig d5 A n c z hn HP.out.2.2.2.2.2.1 HP.out.2.2.2.2.2.2.1 HR4.out hDA
  ·exact wR g s5 W R sb l1 ub eb w4 t4 o5 c5 hig d5 A n c z hn HP.out.2.2.2.2.2.1 HP.out.2.2.2.2.2.2.1 HR4.out hDA)
 clear t4 o4 e4 m4 kw4 p4 k4 hKW hDA hkp hl1 hl5 hlen5 hc5 hd5 hatC f3 o3
 obtain⟨ec,nw,s7,htk⟩:∃a b c,s5.take n z=(a,b,c):=⟨_,_,_,rfl⟩
 have hnw:=wU s5 n z
 have hc7:=wN s5 n z
 rw[htk]at hnw HX hc7
 simp only at hnw HX hc7
 have HC7:=zh (hc7.trans HC5.out.1)
 clear hc7
 have HTE:=zh htk
 by_cases hec:ec=0
 rotate_left
 ·have hnf:=hnw hec
  subst hnf
  go_wp2_with (go_at_call 51;refine(HTK.out).mono ?_;rintro e w7 ⟨R',l7,he,hT7,hR1,hR2,hk7,hl7⟩;rw[HTE.out]at he hT7;simp only at he hT7;rw[if_neg hec]at he;subst he;have HT7:=zh hT7;have HR7:=zh (And.intro hR1 hR2);have HK7:=zh hk7;clear hT7 hR1 hR2 hk7 hl7)
  have c7:w7.cell? ⟨ob+1,0,none⟩=some (.int .i64 0):=(HK7.out.blk HE4.out HWO.out.2.1).cell 0
  have f7:=(HK7.out.blk HE4.out HWO.out.2.1).frozen 0
  refine⟨by simp,.inr ⟨fun h=>(by cases h),_,_,50,#[.pointer (some ⟨ob+1,0,none⟩)],rfl,by simp[go_sem],fun g _=>trivial,?_⟩⟩
  refine(n4 ⟨ob+1,0,none⟩ 0 ec [] w7 c7 f7).mono ?_
  rintro en u' w'' ⟨rfl,rfl,hw⟩
  have k9:=aC w7 (ob+1) 0 (.int .i64 ec)
  rw[<-hw]at k9
  have y1:w''.cell? ⟨ob,0,none⟩=some (.slice A1 lo1.length c1):=(k9.blk (HK7.out.blk HO4.out HWO.out.1) (by omega)).cell 0
  have y2:w''.cell? ⟨ob+1,0,none⟩=some (.int .i64 ec):=by rw[hw];exact((HK7.out.blk HE4.out HWO.out.2.1).set_ 0 _).cell 0
  refine⟨.tuple #[.slice A1 lo1.length c1,.int .i64 ec],by simp[results,Tryz.results27,go_sem,y1,y2],?_⟩
  exact oZ HX.out HOB.out HW.out HDIS.out HM1.out.2.1 ⟨HE2.out.lt,HZ4.out.1⟩ HM4.out HP4.out HK4.out HT7.out HR7.out.1 HR7.out.2 HK7.out (k9.mono (fun _ h=>.inr h))
 subst hec
 cases nw
 ·go_wp2_with (go_at_call 51;refine(HTK.out).mono ?_;rintro e w7 ⟨R',l7,he,hT7,hR1,hR2,hk7,hl7⟩;rw[HTE.out]at he hT7;simp only at he hT7;obtain rfl:e=.returned (.bool false):=(by simpa using he);have HT7:=zh hT7;have HR7:=zh (And.intro hR1 hR2);have HK7:=zh hk7;have o7:w7.cell? ⟨ob,0,none⟩=some (.slice A1 lo1.length c1):=(hk7.blk HO4.out HWO.out.1).cell 0;have e7:w7.cell? ⟨ob+1,0,none⟩=some (.int .i64 0):=(hk7.blk HE4.out HWO.out.2.1).cell 0;have fo7:=(hk7.blk HO4.out HWO.out.1).frozen 0;have fe7:=(hk7.blk HE4.out HWO.out.2.1).frozen 0;clear hT7 hR1 hR2 hk7 hl7)
  have k8:=aC w7 ob 0 (.slice A1 lo1.length c1)
  have k9:=aC (w7.setCell ⟨ob,0,none⟩ (.slice A1 lo1.length c1)) (ob+1) 0 (.int .i64 0)
  have k89:aa (fun k=>k=ob\/k=ob+1) w7 ((w7.setCell ⟨ob,0,none⟩ (.slice A1 lo1.length c1)).setCell ⟨ob+1,0,none⟩ (.int .i64 0)):=(k8.mono (fun _ h=>.inl h)).trans k9 (fun _ _ h=>.inr h)
  have y1:((w7.setCell ⟨ob,0,none⟩ (.slice A1 lo1.length c1)).setCell ⟨ob+1,0,none⟩ (.int .i64 0)).cell? ⟨ob,0,none⟩=some (.slice A1 lo1.length c1):=(k9.blk ((HK7.out.blk HO4.out HWO.out.1).set_ 0 _) (by omega)).cell 0
  have y2:((w7.setCell ⟨ob,0,none⟩ (.slice A1 lo1.length c1)).setCell ⟨ob+1,0,none⟩ (.int .i64 0)).cell? ⟨ob+1,0,none⟩=some (.int .i64 0):=((k8.blk (HK7.out.blk HE4.out HWO.out.2.1) (by omega)).set_ 0 _).cell 0
  refine⟨by simp,.inr ⟨fun h=>(by cases h),_,_,50,#[.pointer (some ⟨ob+1,0,none⟩)],rfl,by simp[go_sem],fun g _=>trivial,?_⟩⟩
  refine(kf ⟨ob+1,0,none⟩ _).mono ?_
  rintro en u' w'' ⟨rfl,rfl,rfl⟩
  refine⟨.tuple #[.slice A1 lo1.length c1,.int .i64 0],by simp[results,Tryz.results27,go_sem,y1,y2],?_⟩
  exact oZ HX.out HOB.out HW.out HDIS.out HM1.out.2.1 ⟨HE2.out.lt,HZ4.out.1⟩ HM4.out HP4.out HK4.out HT7.out HR7.out.1 HR7.out.2 HK7.out k89
 have hcd7:=fA (s.at_ t)
 go_upto_region 7 with (go_at_call 51;refine(HTK.out).mono ?_;rintro e w7 ⟨R',l7,he,hT7,hR1,hR2,hk7,hl7⟩;rw[HTE.out]at he hT7;simp only at he hT7;obtain rfl:e=.returned (.bool true):=(by simpa using he);have HT7:=zh hT7;have HR7:=zh (And.intro hR1 hR2);have HK7:=zh hk7;have HL7:=zh hl7;clear hT7 hR1 hR2 hk7 hl7)
 simp only[if_true]at HX
 have HWR':Hid ((∀k,W k->k < w7.heap.size)/\∀k,R' k->k < w7.heap.size):=zh (And.intro HT7.out.win HT7.out.rin)
 have hRob:¬R' ob/\¬R' (ob+1):=by
  have h1:=HE4.out.lt
  refine⟨fun hr=>?_,fun hr=>?_⟩
  ·rcases HR7.out.1 _ hr with h | h
   ·exact HWO.out.2.2.1 h
   ·omega
  ·rcases HR7.out.1 _ hr with h | h
   ·exact HWO.out.2.2.2 h
   ·omega
 have HRO:=zh hRob
 obtain⟨bx,hbx⟩:∃b,b=w7.heap.size:=⟨_,rfl⟩
 obtain⟨V5,hV5⟩:∃v,v=w7.alloc (.cells #[.pointer (some ⟨g,0,none⟩)] 32):=⟨_,rfl⟩
 have hB5:Below w7.heap.size w7 V5:=by rw[hV5];exact(Below.refl _ _).alloc ay _
 have hX5:ae V5 bx 32 #[.pointer (some ⟨g,0,none⟩)]:=by rw[hV5,hbx];exact ae.new _ _ _
 have hz5:V5.heap.size=bx+1:=by rw[hV5,hbx];simp
 have HFM:=zh (tk g w7)
 rw[<-hV5,<-hbx]at HFM
 have hT5:=HT7.out.below hB5
 have hO7:=HK7.out.blk HO4.out HWO.out.1
 have hE7:=HK7.out.blk HE4.out HWO.out.2.1
 have hM7:SL w7 41 1 A1 lo1.length c1 (lo1.map SE.val):=HM4.out.1.keepF HK7.out (fun a ha hw=>by have:=HM4.out.2 a ha;have:=HW.out.1 _ hw;have:=HZ4.out.2;omega)
 have hKW7:aa W w w7:=HK4.out.trans HK7.out (fun _ _ h=>h)
 have h24:=HE2.out.lt
 have hI5:xl w w7 w2.heap.size W R' ob bx lo1 [] V5:=⟨A1,c1,by rw[List.append_nil];exact hO7.below hB5 hO7.lt,by rw[List.append_nil];exact hM7.next hB5,fun a ha=>⟨HM4.out.2 a ha,by have:=hM7.lt ha;omega,fun hr=>by
  have h1:=HM4.out.1.lt ha
  have h2:=HM4.out.2 a ha
  rcases HR7.out.1 _ hr with h | h
  ·have:=HW.out.2 _ h;have:=HZ4.out.2;omega
  ·omega⟩,hKW7.more hB5,hE7.below hB5 hE7.lt,aa.of_below hB5⟩
 have hR5:jv g s7 W R' sb l7 ub eb bx [] V5:=⟨l7,rfl,fun k e h=>by simp at h,by
  have e:=hT5.lv
  have e2:({ s7 with L:=l7.map (·.v),deliver:=s7.deliver+(([]:List SE).length:Nat) }:RS)=s7:=by rw[e];simp
  rw[e2]
  exact hT5,hX5⟩
 have hsz7:w2.heap.size<=w7.heap.size:=a9 HZ4.out.1 HK7.out.size
 have hbx2:w2.heap.size<=bx:=by omega
 have hwl:=HW.out
 have hwl7:∀k,R' k->k < bx:=fun k hk=>by have:=HWR'.out.2 k hk;omega
 have hsl:sb < w2.heap.size/\g < w2.heap.size:=by omega
 have hbg:bx ≠ g/\bx ≠ sb:=by omega
 have hwb:w.heap.size<=bx:=a9 HZ4.out.2 hbx2
 have hobb:ob+1 < bx:=by omega
 have hobw:w.heap.size<=ob:=Nat.le_of_eq HOB.out.symm
 have HHE:=zh (show ae V5 (ob+1) 30 #[.int .i64 0]from hE7.below hB5 hE7.lt)
 have HP7:Hid (∀x,x∈lo1->bZ w7 R' x.A x.v.n x.c x.v.z):=zh (fun x hx=>((HP4.out x hx).keep HK7.out (fun k hw hr=>HDIS.out k hw hr)).mono HR7.out.2)
 have HQ7:=zh (And.intro HT7.out.pk HT7.out.lv)
 have HH:=zh (And.intro hI5 (And.intro hR5 (And.intro hz5 (And.intro hbx HT7.out.lv))))
 have HDS:=zh HT7.out.dis
 have HLN:=zh (show lo1.length+l7.length<=101 by have:=HLEN.out;have:=HL7.out;omega)
 clear hT5 hI5 hR5 hB5 hX5 hV5 hbx hO7 hE7 hM7 hKW7 hRob hcd7
 go_wp2_with (go_at_call 52;refine(HFM.out).mono ?_;rintro e w3 ⟨rfl,rfl⟩)
 refine(wpIn_wide (n:=9)).1 ?_
 refine d6 rfl (by decide) (gf:=77) (lb:=#[.pointer (some ⟨bx,0,none⟩)]) rfl trivial (enters_of Tryz.func77 (by kernel_rfl) rfl)
  (uJ g s7 W R' sb l7 ub eb bx 8 (by decide) hbg.1 hbg.2) (fun _=>rfl) (fun A B k o h hk ho _ _=>h.same ho (by rintro (e | e)<;>omega))
  (xl w w7 w2.heap.size W R' ob bx lo1) (sX _ _ _ _ _ _ _ _ _ (by omega) (fun k hk=>by have:=hwl7 k hk;omega)) (fun pre A B h hk=>tl h hk (fun k e=>by
   rcases e with rfl | rfl
   ·exact⟨by omega,by omega,by omega,HWG.out.1,fun hr=>HDS.out _ HWG.out.1 hr⟩
   ·exact⟨by omega,by omega,by omega,HWG.out.2,fun hr=>HDS.out _ HWG.out.2 hr⟩))
  (fun _=>kN g s7 W R' sb l7 ub eb bx _ (by omega) (fun k hk=>by have:=hwl.1 k hk;omega) (fun k hk=>by have:=hwl7 k hk;omega)) HH.out.1
  (fun u A A' row h hg hr=>kN g s7 W R' sb l7 ub eb bx V5.heap.size (by omega) (fun k hk=>by have:=hwl.1 k hk;omega) (fun k hk=>by have:=hwl7 k hk;omega) [] A A' row h hg hr) HH.out.2.1 ?a1 ?assign ?body ?done
 case assign=>
  intro lp x Wa K hK
  gi_wp2
  simp only[SE.val]
  exact hK
 case body=>
  rintro lp i pre x Wb ⟨A2,c2,hO2,hS2,hA2,hK2,hE2,hJ2⟩ hR2
  have hgs:=hK2.size
  have hlen:(lo1++pre).length<=101:=by
   obtain⟨rest,e1,_⟩:=hR2
   have h1:=HLN.out
   have h2:=congrArg List.length e1
   simp only[List.length_append,List.length_cons,List.length_nil]at h2 ⊢
   omega
  obtain⟨i0,hi0,hz0,hz1,hz2⟩:=info_parts Tryz.infoSl
  obtain⟨n2,hn2⟩:∃n,n=(lo1++pre).length:=⟨_,rfl⟩
  rw[<-hn2]at hO2 hS2 hlen
  have hszb:=hR2.choose_spec.2.2.2.lt
  have HN2:=zh hn2
  have HOB2:=zh hO2
  have HSB:=zh hS2
  have HA2:=zh hA2
  have HKK:=zh hK2
  have HEB:=zh hE2
  have HJB:=zh hJ2
  have HRB:=zh hR2
  have co:=hO2.cell 0
  have co1:Wb.cell? ⟨ob,0,none⟩=some (.slice A2 n2 c2):=co
  clear co hO2 hS2 hA2 hK2 hE2 hJ2 hR2 hn2 HH
  gi_wp2_with (gi_at_builtin;refine g8 rfl _ _ 36 36 rfl _ 41 i0 (.slice none 0 0) 1 24 Tryz.underlying36 hi0 hz0 hz1 hz2 rfl A2 n2 c2 _ rfl (HSB.out.next ((Below.refl _ Wb).alloc ay _)) (.slice (some ⟨Wb.heap.size,0,none⟩) 1 1) rfl 1 [x.val] (nZ Wb x.val rfl) (by omega) (by unfold maxLen;omega) (by omega) ?_;intro A3 c3 w6 hs6 hk6 ho6;have hE6:aa (fun k=>∃a,A2=some a/\k=a.block) Wb w6:=((aa.refl (w:=Wb)).alloc _).trans hk6 (fun k _ h=>h);have hc1:w6.cell? ⟨ob,0,none⟩=some (.slice A2 n2 c2):=(hE6.cell (p:=⟨ob,0,none⟩) HOB2.out.lt (by rintro ⟨a,ha,h⟩;have:=(HA2.out a ha).1;simp only at h;omega)).trans co1;have hf1:w6.frozen? ⟨ob,0,none⟩=false:=(hE6.blk HOB2.out (by rintro ⟨a,ha,h⟩;have:=(HA2.out a ha).1;omega)).frozen 0;have HS6:=zh hs6;have HE6:=zh hE6;have HO6:=zh ho6;clear hs6 hk6 ho6 hE6)
  have hk7:=aC w6 ob 0 (.slice A3 (n2+1) c3)
  have hE7:aa (fun k=>(∃a,A2=some a/\k=a.block)\/k=ob) Wb (w6.setCell ⟨ob,0,none⟩ (.slice A3 (n2+1) c3)):=(HE6.out.mono (fun _ h=>.inl h)).trans hk7 (fun k _ h=>.inr h)
  have hA6:∀a,A3=some a->w2.heap.size<=a.block/\a.block ≠ bx/\¬R' a.block:=fun a ha=>by
   rcases HO6.out a ha with ⟨a',h1,h2⟩ | h2
   ·rw[h2];exact HA2.out a' h1
   ·simp at h2;exact⟨by omega,by omega,fun hr=>by have:=hwl7 _ hr;omega⟩
  have hn3:(lo1++(pre++[x])).length=n2+1:=by rw[<-List.append_assoc,List.length_append,<-HN2.out];rfl
  have hmp:(lo1++(pre++[x])).map SE.val=(lo1++pre).map SE.val++[x.val]:=by rw[<-List.append_assoc,List.map_append];rfl
  refine⟨hE7.from2 _ (fun k o hf hk=>?k1),⟨A3,c3,?k2,?k3,hA6,?k4,?k7,?k8⟩,kU HRB.out hE7 (fun k hf=>?k5) (fun hf=>?k6)⟩
  case k1=>
   rcases hf with ⟨a,ha,rfl⟩ | rfl
   ·obtain⟨cur,hcur⟩:=HSB.out.obj ha
    rw[hcur]at hk;cases hk;rfl
   ·rw[show Wb.heap[k]? = _ from HOB2.out]at hk;cases hk;rfl
  case k2=>
   rw[hn3]
   exact(HE6.out.blk HOB2.out (by rintro ⟨a,ha,h⟩;have:=(HA2.out a ha).1;omega)).set_ 0 _
  case k3=>
   rw[hn3,hmp]
   exact HS6.out.keepF hk7 (fun a ha e=>by have:=(hA6 a ha).1;omega)
  case k4=>
   exact HKK.out.trans hE7 (fun k hk h=>by
    rcases h with ⟨a,ha,rfl⟩ | rfl
    ·have:=(HA2.out a ha).1;omega
    ·omega)
  case k7=>
   exact hE7.blk HEB.out (by
    rintro (⟨a,ha,h⟩ | h)
    ·have:=(HA2.out a ha).1;omega
    ·omega)
  case k8=>
   exact HJB.out.trans hE7 (fun k hk h=>by
    rcases h with ⟨a,ha,rfl⟩ | rfl
    ·exact(HA2.out a ha).2.2
    ·exact HRO.out.1)
  case k5=>
   rcases hf with ⟨a,ha,rfl⟩ | rfl
   ·have:=(HA2.out a ha).1
    exact⟨fun hw=>by have:=hwl.1 _ hw;omega,(HA2.out a ha).2.2⟩
   ·exact⟨fun hw=>by have:=hwl.1 _ hw;omega,HRO.out.1⟩
  case k6=>
   rcases hf with ⟨a,ha,h⟩ | h
   ·exact(HA2.out a ha).2.1 h.symm
   ·omega
 case done=>
  rintro D i xs Wd hD hxs ⟨A2,c2,hO2,hS2,hA2,hK2,hE2,hJ2⟩ hR hDK
  obtain⟨rest,hre,hxm,hTd⟩:=uv hR hxs HQ7.out.2
  have hro2:0<=s7.deliver_.2.C.ro/\s7.deliver_.2.C.ro<=1073741824:=by
   have:s7.deliver_.2.C=s.C:=HC7.out
   rw[this];exact HP.out.2.2.1
  have HTM:=zh (tf g s7.deliver_.2 W R' sb rest ub eb Wd hTd hro2)
  obtain⟨n2,hn2⟩:∃n,n=(lo1++xs).length:=⟨_,rfl⟩
  rw[<-hn2]at hO2 hS2
  have HN2:=zh hn2
  have HOB2:=zh hO2
  have HSB:=zh hS2
  have HA2:=zh hA2
  have HKK:=zh hK2
  have HEB:=zh hE2
  have HJB:=zh hJ2
  have HDK:=zh hDK
  have HRE:=zh (And.intro hre hxm)
  clear hO2 hS2 hA2 hK2 hR hTd hDK hn2 hro2 hre hxm HH hxs hE2 hJ2
  have hgo1:ob ≠ g/\ob+1 ≠ g:=by omega
  go_wp2_with (go_at_call 53;refine(HTM.out).mono ?_;rintro e W6 ⟨rfl,hT6,hk6⟩;have co1:W6.cell? ⟨ob,0,none⟩=some (.slice A2 n2 c2):=(hk6.blk HOB2.out hgo1.1).cell 0;have fo1:=(hk6.blk HOB2.out hgo1.1).frozen 0;have ce1:W6.cell? ⟨ob+1,0,none⟩=some (.int .i64 0):=(hk6.blk HEB.out hgo1.2).cell 0;have fe1:=(hk6.blk HEB.out hgo1.2).frozen 0;have HT6:=zh hT6;have HK6:=zh hk6;clear hT6 hk6)
  obtain⟨Wa,hWa⟩:∃X,X=W6.setCell ⟨ob,0,none⟩ (.slice A2 n2 c2):=⟨_,rfl⟩
  obtain⟨Wb,hWb⟩:∃X,X=Wa.setCell ⟨ob+1,0,none⟩ (.int .i64 0):=⟨_,rfl⟩
  have ka:aa (fun k=>k=ob) W6 Wa:=by rw[hWa];exact aC W6 ob 0 _
  have kb:aa (fun k=>k=ob+1) Wa Wb:=by rw[hWb];exact aC Wa (ob+1) 0 _
  have oa:ae Wa ob 36 #[.slice A2 n2 c2]:=by rw[hWa];exact(HK6.out.blk HOB2.out hgo1.1).set_ 0 _
  have eb1:ae Wb (ob+1) 30 #[.int .i64 0]:=by rw[hWb];exact(ka.blk (HK6.out.blk HEB.out hgo1.2) (by omega)).set_ 0 _
  have ob1:=kb.blk oa (by omega)
  rw[<-hWa,<-hWb]
  have kc:=aa.of_putObj Wb D (.deferred none)
  have hDb:Wb.heap[D]? = some (.deferred (some [])):=kb.same (ka.same (HK6.out.same HDK.out (by omega)) (by omega)) (by omega)
  refine⟨by simp,.inl ⟨_,_,rfl,run_takeDeferred hDb,?_⟩⟩
  refine⟨by simp,.inr ⟨fun h=>(by cases h),_,_,50,#[.pointer (some ⟨ob+1,0,none⟩)],rfl,by simp[go_sem],fun g _=>trivial,?_⟩⟩
  refine(kf ⟨ob+1,0,none⟩ _).mono ?_
  rintro en u' w'' ⟨rfl,rfl,rfl⟩
  have y1:(Wb.putObj D (.deferred none)).cell? ⟨ob,0,none⟩=some (.slice A2 n2 c2):=(kc.blk ob1 (by omega)).cell 0
  have y2:(Wb.putObj D (.deferred none)).cell? ⟨ob+1,0,none⟩=some (.int .i64 0):=(kc.blk eb1 (by omega)).cell 0
  have kall:aa (fun k=>k=ob\/k=ob+1\/k=D) W6 (Wb.putObj D (.deferred none)):=((ka.mono (fun _ h=>.inl h)).trans kb (fun _ _ h=>.inr (.inl h))).trans kc (fun _ _ h=>.inr (.inr h))
  have hDR:∀k,(k=ob\/k=ob+1\/k=D)->¬W k/\¬R' k:=fun k hk=>by
   rcases hk with rfl | rfl | rfl
   ·exact⟨HWO.out.1,HRO.out.1⟩
   ·exact⟨HWO.out.2.1,HRO.out.2⟩
   ·exact⟨fun hw=>by have:=hwl.1 _ hw;omega,fun hr=>by have:=hwl7 _ hr;omega⟩
  have hJ6:aa (fun k=>¬R' k) w7 (Wb.putObj D (.deferred none)):=(HJB.out.trans HK6.out (fun k _ e hr=>by rw[e]at hr;exact HDS.out _ HWG.out.1 hr)).trans kall (fun k _ e hr=>(hDR k e).2 hr)
  refine⟨.tuple #[.slice A2 n2 c2,.int .i64 0],by simp[results,Tryz.results27,go_sem,y1,y2],?_⟩
  refine⟨R',rest,A2,c2,lo1++xs,by rw[HX,HN2.out],⟨?o1,?o2⟩,?o3,?o4,?o5,?o6,HR7.out.2,?o7⟩
  case o1=>
   rw[<-HN2.out]
   refine(HSB.out.keepF HK6.out (fun a ha e=>by have:=(HA2.out a ha).1;omega)).keepF kall (fun a ha e=>?_)
   have h1:=(HA2.out a ha).1
   rcases e with e | e | e
   ·omega
   ·omega
   ·obtain⟨cur,hcur⟩:=HSB.out.obj ha
    rw[e,HDK.out]at hcur;cases hcur
  case o2=>exact fun a ha=>by have:=(HA2.out a ha).1;have:=HZ4.out.2;omega
  case o3=>rw[HX,List.map_append,HRE.out.2,HM1.out.2.1]
  case o4=>
   intro x hx
   rcases List.mem_append.1 hx with h | h
   ·exact(HP7.out x h).keep hJ6 (fun k hk hr=>hk hr)
   ·exact(HQ7.out.1 x (by rw[HRE.out.1];exact List.mem_append.2 (.inl h))).keep hJ6 (fun k hk hr=>hk hr)
  case o5=>
   rw[HX]
   exact HT6.out.keepF kall hDR
  case o6=>
   intro k hr
   rcases HR7.out.1 k hr with h | h
   ·exact .inl h
   ·exact .inr (by have:=HZ4.out.1;have:=HZ4.out.2;omega)
  case o7=>
   exact(HKK.out.trans HK6.out (fun k _ e=>by rw[e];exact HWG.out.1)).trans kall (fun k hk e=>by omega)
end Go.Proofs.YtbfpdnnphdagjaaGreat
namespace Go.Proofs.YtbfpdnnphdagjaaGreat
open Go.RowKit
attribute [local go_sem ↓] Go.wp_at_zero Go.wp_at_succ
theorem qW (g:Nat) (C:ax) (hok:C.Ok) (hv:C.Valid) (hcm:C.cm=false):jV g C:=by
 cases hig:C.ig with
 | false=>exact nz g C hok hv hig hcm
 | true=>
  intro s W R V hC hI ct hct A n c z h1 h9 hr hz
  subst hC
  exact tZ ss g s W R V hI hok hv hig hcm ct hct A n c z h1 h9 hr hz
end Go.Proofs.YtbfpdnnphdagjaaGreat
namespace Go.Proofs.YtbfpdnnphdagjaaGreat
open Go.RowKit
def dg (A:Option Addr) (k:Nat):Prop:=∃a,A=some a/\k=a.block
theorem eS.winr {w:World} {g:Nat} {s:TS} {W R:Nat->Prop} (h:eS w g s W R):(∀k,W k->k < w.heap.size)/\∀k,R k->k < w.heap.size:=by
 obtain⟨qA,qc,lq,pA,pc,lp,ub,cb,h⟩:=h
 exact⟨h.win,h.rin⟩
def fN (g:Nat) (s:TS):Ag where
 P w O:=∃W R,eS w g s W R/\∀k,O k↔(W k\/R k)
 keep:=fun⟨W,R,h1,h2⟩ hk hF=>⟨W,R,h1.keepF hk (fun k hf=>⟨fun hw=>hF k hf ((h2 k).2 (.inl hw)),fun hr=>hF k hf ((h2 k).2 (.inr hr))⟩),h2⟩
 lt:=fun⟨W,R,h1,h2⟩ k hk=>by
  rcases (h2 k).1 hk with h | h
  ·exact h1.winr.1 k h
  ·exact h1.winr.2 k h
def fP (g:Nat) (s:RS) (A:Option Addr) (c:Nat) (vs:List SV):Ag where
 P w O:=∃W R sb l ub eb,aN w g s W R sb l ub eb/\LL w 0 A c vs R/\(∀a,A=some a->¬W a.block)/\∀k,O k↔(W k\/R k\/dg A k)
 keep:=fun⟨W,R,sb,l,ub,eb,h1,h2,h3,h4⟩ hk hF=>⟨W,R,sb,l,ub,eb,h1.keepF hk (fun k hf=>⟨fun hw=>hF k hf ((h4 k).2 (.inl hw)),fun hr=>hF k hf ((h4 k).2 (.inr (.inl hr)))⟩),h2.keep hk (fun k hf hr=>hF k hf ((h4 k).2 (.inr (.inl hr)))) (fun a ha hf=>hF _ hf ((h4 _).2 (.inr (.inr ⟨a,ha,rfl⟩)))),h3,h4⟩
 lt:=fun⟨W,R,sb,l,ub,eb,h1,h2,h3,h4⟩ k hk=>by
  rcases (h4 k).1 hk with h | h | ⟨a,ha,e⟩
  ·exact h1.win k h
  ·exact h1.rin k h
  ·rw[e];exact h2.lt ha
def Bu (g:Nat) (s:RS) (A:Option Addr) (c:Nat) (vs:List SV) (A1:Option Addr) (c1:Nat) (lo:List SE):Ag where
 P w O:=∃W R sb l ub eb,aN w g s W R sb l ub eb/\LL w 0 A c vs R/\(∀a,A=some a->¬W a.block)/\SL w 41 1 A1 lo.length c1 (lo.map SE.val)/\(∀x,x∈lo->bZ w R x.A x.v.n x.c x.v.z)/\(∀a a',A1=some a->A=some a'->a.block ≠ a'.block)/\∀k,O k↔(W k\/R k\/dg A k\/dg A1 k)
 keep:=fun⟨W,R,sb,l,ub,eb,h1,h2,h3,h4,h5,h6,h7⟩ hk hF=>⟨W,R,sb,l,ub,eb,h1.keepF hk (fun k hf=>⟨fun hw=>hF k hf ((h7 k).2 (.inl hw)),fun hr=>hF k hf ((h7 k).2 (.inr (.inl hr)))⟩),h2.keep hk (fun k hf hr=>hF k hf ((h7 k).2 (.inr (.inl hr)))) (fun a ha hf=>hF _ hf ((h7 _).2 (.inr (.inr (.inl ⟨a,ha,rfl⟩))))),h3,h4.keepF hk (fun a ha hf=>hF _ hf ((h7 _).2 (.inr (.inr (.inr ⟨a,ha,rfl⟩))))),fun x hx=>(h5 x hx).keep hk (fun k hf hr=>hF k hf ((h7 k).2 (.inr (.inl hr)))),h6,h7⟩
 lt:=fun⟨W,R,sb,l,ub,eb,h1,h2,h3,h4,h5,h6,h7⟩ k hk=>by
  rcases (h7 k).1 hk with h | h | ⟨a,ha,e⟩ | ⟨a,ha,e⟩
  ·exact h1.win k h
  ·exact h1.rin k h
  ·rw[e];exact h2.lt ha
  ·rw[e];exact h4.lt ha
def uG (A:Option Addr) (c:Nat) (vs:List SV):Ag where
 P w O:=∃R,LL w 0 A c vs R/\(∀k,R k->k < w.heap.size)/\∀k,O k↔(R k\/dg A k)
 keep:=fun⟨R,h1,h2,h3⟩ hk hF=>⟨R,h1.keep hk (fun k hf hr=>hF k hf ((h3 k).2 (.inl hr))) (fun a ha hf=>hF _ hf ((h3 _).2 (.inr ⟨a,ha,rfl⟩))),fun k hr=>bp (h2 k hr) hk.size,h3⟩
 lt:=fun⟨R,h1,h2,h3⟩ k hk=>by
  rcases (h3 k).1 hk with h | ⟨a,ha,e⟩
  ·exact h2 k h
  ·rw[e];exact h1.lt ha
def bX (b:Nat) (t:TypeId) (cs:Array Value):Ag where
 P w O:=ae w b t cs/\∀k,O k↔k=b
 keep:=fun⟨h1,h2⟩ hk hF=>⟨hk.blk h1 (fun hf=>hF b hf ((h2 b).2 rfl)),h2⟩
 lt:=fun⟨h1,h2⟩ k hk=>by rw[(h2 k).1 hk];exact h1.lt
def zx (A:Option Addr) (n:Nat) (z:Nat->Nat):Ag where
 P w O:=aD w w.heap.size A n (fun j=>.int .u8 ((z j:Nat):Int))/\(∀a,A=some a->a.block < w.heap.size)/\∀k,O k↔dg A k
 keep:=fun⟨h1,h2,h3⟩ hk hF=>⟨(hk.row h1 ay (fun a e _ hf=>hF _ hf ((h3 _).2 ⟨a,e,rfl⟩))).more hk.size,fun a ha=>bp (h2 a ha) hk.size,h3⟩
 lt:=fun⟨h1,h2,h3⟩ k hk=>by
  obtain⟨a,ha,e⟩:=(h3 k).1 hk
  rw[e];exact h2 a ha
section
variable {w0 w w' V:World} {n:Nat} {A:Nat->Ag} {i:Nat}
theorem an.tx (h:an w0 w n A) (hi:i < n) {g:Nat} {s:TS} (hA:A i=fN g s):∃W R,eS w g s W R/\(∀k,W k->w0.heap.size<=k)/\∀(w':World) (s':TS),ju W R w w' g s'->an w0 w' n (bW A i (fN g s')):=by
 obtain⟨O,h1,h2,_,h3⟩:=h.at_ hi
 rw[hA]at h1
 obtain⟨W,R,t1,t2⟩:=h1
 refine⟨W,R,t1,fun k hk=>h2 k ((t2 k).2 (.inl hk)),fun w' s' ⟨W',R',o1,o2,o3,o4⟩=>h3 (fN g s') (fun k=>W' k\/R' k) w' ⟨W',R',o1,fun k=>Iff.rfl⟩ (o4.mono (fun k hk=>(t2 k).2 (.inl hk))) (fun k hk=>?_)⟩
 rcases hk with hk | hk
 ·exact(o2 k hk).imp (fun h=>(t2 k).2 (.inl h)) id
 ·exact(o3 k hk).imp (fun h=>(t2 k).2 (.inr h)) id
theorem an.next (h:an w0 w n A) (hi:i < n) {g:Nat} {s:TS} (hA:A i=fN g s) (hf:s.Fine) (hcm:s.C.cm=false) (hpl:s.P.length<=1000000) :
  Calls Tryz.prog 26 #[.pointer (some ⟨g,0,none⟩),.int .i64 0] w fun e w'=>∃B c,e=.returned (.tuple #[.slice B (s.send 0).n c,.int .u32 (s.send 0).ct,.int .i64 (s.send 0).e])/\(s.send 0).n<=c/\an w0 w' (n+1) (bW (bW A i (fN g (s.send 0).s)) n (zx B (s.send 0).n (s.send 0).z)):=by
 obtain⟨O,h1,h2,h3⟩:=h.two hi
 rw[hA]at h1
 obtain⟨W,R,t1,t2⟩:=h1
 refine(wV g s W R w t1 hf 0 (by decide) (by decide) (qW g s.C hf.ok hf.val hcm) hpl).mono ?_
 rintro e w' ⟨B,c,W',R',rfl,hc,hr,o1,o2,o3,o4,o5⟩
 refine⟨B,c,rfl,hc,h3 _ _ (fun k=>W' k\/R' k) (dg B) w' ⟨W',R',o1,fun k=>Iff.rfl⟩ ⟨hr,fun a ha=>?_,fun k=>Iff.rfl⟩ (o4.mono (fun k hk=>(t2 k).2 (.inl hk))) (fun k hk=>?_) (fun k hk=>?_)⟩
 ·obtain⟨_,_,_,cur,t,hx⟩:=o5 a ha
  exact(Array.getElem?_eq_some_iff.1 hx).1
 ·rcases hk with hk | hk
  ·exact(o2 k hk).imp (fun h=>(t2 k).2 (.inl h)) id
  ·exact(o3 k hk).imp (fun h=>(t2 k).2 (.inr h)) id
 ·obtain⟨a,ha,e⟩:=hk
  have h6:=o5 a ha
  rw[e]
  exact⟨h6.1,fun hx=>hx.elim h6.2.1 h6.2.2.1⟩
theorem an.recv (h:an w0 w (n+1) A) (hi:i < n) {g:Nat} {s:RS} {B:Option Addr} {c:Nat} {vs:List SV} (hA:A i=fP g s B c vs) {D:Option Addr} {m:Nat} {z:Nat->Nat} (hD:A n=zx D m z) (cD:Nat) (hok:s.C.Ok) (hv:s.C.Valid) (hcm:s.C.cm=false) (hl:s.L.length<=100) (hrun:s.run=false) (hdup:s.dup < 4611686018427387903) (hm:m<=9000) (hmc:m<=cD) (hz:∀j,j < m->z j < 256) :
  Calls Tryz.prog 27 #[.pointer (some ⟨g,0,none⟩),.int .i64 0,.slice D m cD] w fun e w'=>∃A1 c1 lo,e=.returned (.tuple #[.slice A1 lo.length c1,.int .i64 (s.receive 0 m z).2.1])/\lo.map (·.v)=(s.receive 0 m z).1/\an w0 w' (n+1) (bW A i (Bu g (s.receive 0 m z).2.2 B c vs A1 c1 lo)):=by
 obtain⟨O,h1,h2,h4,h3⟩:=h.at_ (i:=i) (by omega)
 rw[hA]at h1
 obtain⟨W,R,sb,l,ub,eb,t1,t2,t3,t4⟩:=h1
 obtain⟨On,p1,p2⟩:=h4 n (by omega) (by omega)
 rw[hD]at p1
 obtain⟨p3,p4,p5⟩:=p1
 have hll:l.length=s.L.length:=by rw[<-t1.lv,List.length_map]
 refine(oP g s W R sb l ub eb w t1 hok hcm hv.2.2.2.2.2 (by omega) hrun hdup 0 D m cD z (by omega) hmc hz p3 (fun a ha hw=>p2 a.block ((t4 _).2 (.inl hw)) ((p5 _).2 ⟨a,ha,rfl⟩)) (pF g s.C W R sb ub eb D m cD z hok hv hmc hz)).mono ?_
 rintro e w' ⟨R',l',A1,c1,lo,rfl,hO,hm',hp,hT,hR1,hR2,hK⟩
 refine⟨A1,c1,lo,rfl,hm',h3 _ (fun k=>W k\/R' k\/dg B k\/dg A1 k) w' ⟨W,R',sb,l',ub,eb,hT,(t2.keep hK (fun k hw hr=>t1.dis k hw hr) (fun a ha hw=>t3 a ha hw)).more hR2 (fun a ha hr=>?_),t3,hO.1,hp,fun a a' ha ha' e=>?_,fun k=>Iff.rfl⟩ (hK.mono (fun k hw=>(t4 k).2 (.inl hw))) (fun k hk=>?_)⟩
 ·rcases hR1 _ hr with hr | hr
  ·exact(t2.blk a ha).2 hr
  ·have:=t2.lt ha;omega
 ·have h5:=hO.2 a ha
  have h6:=t2.lt ha'
  omega
 ·rcases hk with hk | hk | hk | ⟨a,ha,e⟩
  ·exact .inl ((t4 k).2 (.inl hk))
  ·exact(hR1 k hk).imp (fun h=>(t4 k).2 (.inr (.inl h))) id
  ·exact .inl ((t4 k).2 (.inr (.inr hk)))
  ·have:=hO.2 a ha
   exact .inr (by omega)
theorem an.push (h:an w0 w n A) (hi:i < n) {g:Nat} {s:RS} {B:Option Addr} {c:Nat} {vs:List SV} {A1:Option Addr} {c1:Nat} {lo:List SE} (hA:A i=Bu g s B c vs A1 c1 lo):∃xs:List Value,SL w 41 1 B vs.length c xs/\SL w 41 1 A1 lo.length c1 (lo.map SE.val)/\∀(B':Option Addr) (c':Nat) (w':World),SL w' 41 1 B' (vs.length+lo.length) c' (xs++lo.map SE.val)->aa (fun k=>∃a,B=some a/\k=a.block) w w'->(∀a,B'=some a->(∃a',B=some a'/\a.block=a'.block)\/w.heap.size<=a.block)->an w0 w' n (bW A i (fP g s B' c' (vs++lo.map (·.v)))):=by
 obtain⟨O,h1,h2,_,h3⟩:=h.at_ hi
 rw[hA]at h1
 obtain⟨W,R,sb,l,ub,eb,t1,t2,t3,t4,t5,t6,t7⟩:=h1
 obtain⟨⟨lx,e1,e2,e3⟩,hb⟩:=t2
 have t2:LL w 0 B c vs R:=⟨⟨lx,e1,e2,e3⟩,hb⟩
 refine⟨lx.map SE.val,e2,t4,fun B' c' w' hS hK ha=>?_⟩
 have hL:=t2.push (fun k hr=>t1.rin k hr) (Nat.zero_le _) e1 e3 t5 hS hK ha
 refine h3 _ (fun k=>W k\/R k\/dg B' k) w' ⟨W,R,sb,l,ub,eb,t1.keepF hK (fun k ⟨a,e,hk⟩=>by rw[hk];exact⟨t3 a e,(hb a e).2⟩),hL,fun a e hw=>?_,fun k=>Iff.rfl⟩ (hK.mono (fun k ⟨a,e,hk⟩=>(t7 k).2 (.inr (.inr (.inl ⟨a,e,hk⟩))))) (fun k hk=>?_)
 ·rcases ha a e with ⟨a',e',hb'⟩ | hb'
  ·rw[hb']at hw;exact t3 a' e' hw
  ·have:=t1.win _ hw;omega
 ·rcases hk with hk | hk | ⟨a,e,hk⟩
  ·exact .inl ((t7 k).2 (.inl hk))
  ·exact .inl ((t7 k).2 (.inr (.inl hk)))
  ·rcases ha a e with ⟨a',e',hb'⟩ | hb'
   ·exact .inl ((t7 k).2 (.inr (.inr (.inl ⟨a',e',by rw[hk,hb']⟩))))
   ·exact .inr (by omega)
theorem an.put (h:an w0 w n A) (hi:i < n) {b:Nat} {t:TypeId} {cs:Array Value} (hA:A i=bX b t cs) (o:Nat) (v:Value):an w0 (w.setCell ⟨b,o,none⟩ v) n (bW A i (bX b t (cs.setIfInBounds o v))):=by
 obtain⟨O,h1,h2,_,h3⟩:=h.at_ hi
 rw[hA]at h1
 obtain⟨t1,t2⟩:=h1
 exact h3 _ (fun k=>k=b) _ ⟨t1.set_ o v,fun k=>Iff.rfl⟩ ((aC w b o v).mono (fun k hk=>(t2 k).2 hk)) (fun k hk=>.inl ((t2 k).2 hk))
theorem an.blk (h:an w0 w n A) (hi:i < n) {b:Nat} {t:TypeId} {cs:Array Value} (hA:A i=bX b t cs):ae w b t cs:=by
 obtain⟨O,h1,h2,_,h3⟩:=h.at_ hi
 rw[hA]at h1
 exact h1.1
theorem an.rx (h:an w0 w n A) (hi:i < n) {g:Nat} {s:RS} {B:Option Addr} {c:Nat} {vs:List SV} (hA:A i=fP g s B c vs):∃W R sb l ub eb,aN w g s W R sb l ub eb/\l.length=s.L.length/\∀(w':World) (s':RS),aN w' g s' W R sb l ub eb->aa W w w'->an w0 w' n (bW A i (fP g s' B c vs)):=by
 obtain⟨O,h1,h2,_,h3⟩:=h.at_ hi
 rw[hA]at h1
 obtain⟨W,R,sb,l,ub,eb,t1,t2,t3,t4⟩:=h1
 refine⟨W,R,sb,l,ub,eb,t1,by rw[<-t1.lv,List.length_map],fun w' s' hT hK=>h3 _ O w' ⟨W,R,sb,l,ub,eb,hT,t2.keep hK (fun k hw hr=>t1.dis k hw hr) (fun a ha hw=>t3 a ha hw),t3,t4⟩ (hK.mono (fun k hw=>(t4 k).2 (.inl hw))) (fun k hk=>.inl hk)⟩
end
end Go.Proofs.YtbfpdnnphdagjaaGreat
namespace Go.Proofs.YtbfpdnnphdagjaaGreat
open Go.RowKit
structure cR where
 cf:ax
 N:Nat
 q:Nat
 Pd:Nat->Bool
 Rp:Nat->Bool
 S:Nat->Bool
 d:Nat
 ts:TS
 rs:RS
 vs:List SV
structure lQ (pn:Nat->Nat) (z:Nat->Nat->Int):Prop where
 n:∀k,1<=pn k/\pn k<=60
 b:∀k j,0<=z k j/\z k j < 256
structure aG (pn:Nat->Nat) (z:Nat->Nat->Int) (K:Nat) (x:cR) (M:Nat):Prop where
 ok:x.cf.Ok
 val:x.cf.Valid
 cm:x.cf.cm=false
 ac:x.cf.ac=true
 ds:x.cf.ds=0
 ro:x.cf.ro=0
 t:DT x.cf pn z x.N x.q x.Pd x.Rp x.ts
 r:DR x.cf pn z x.S x.d x.rs
 ol:x.vs.length=x.d
 ov:∀i v,x.vs[i]? = some v->yu pn z i v
 cov:∀k,k < x.N->x.S k=true\/x.Pd k=true
 sub:∀k,x.S k=true->k < x.N
 dup:x.rs.dup<=M
 gt:dB K x.ts.used
 gr:dB K x.rs.used
 co:eo x.ts.comp
 kt:aj x.cf.key∈x.ts.used
 kr:aj x.cf.key∈x.rs.used
def cR.T (x:cR):Nat->Bool:=r5 x.N x.q x.Pd x.Rp
theorem pR (s:TS) (t:Int) (n:Nat) (z:Nat->Int):(s.submit t n z).2.used=s.used/\(s.submit t n z).2.comp=s.comp:=by
 unfold TS.submit
 split
 ·exact⟨rfl,rfl⟩
 split
 ·exact⟨rfl,rfl⟩
 split<;>exact⟨rfl,rfl⟩
theorem m7 (s:TS) (t:Int):(s.send t).s.used=s.used/\(s.send t).s.comp=s.comp:=by
 unfold TS.send
 split
 ·exact⟨rfl,rfl⟩
 split
 ·exact⟨rfl,rfl⟩
 split
 ·exact⟨rfl,rfl⟩
 split
 ·exact⟨rfl,rfl⟩
 split<;>exact⟨rfl,rfl⟩
section
variable {pn:Nat->Nat} {z:Nat->Nat->Int} {x:cR} {K M:Nat}
theorem aG.more (h:aG pn z K x M) {M':Nat} (hm:M<=M'):aG pn z K x M':=⟨h.ok,h.val,h.cm,h.ac,h.ds,h.ro,h.t,h.r,h.ol,h.ov,h.cov,h.sub,by have:=h.dup;omega,h.gt,h.gr,h.co,h.kt,h.kr⟩
theorem aG.next (h:aG pn z K x M) (hN:x.N+x.q<=900) :
  ((∀j,x.T j=false)/\∃s',x.ts.send 0=⟨0,zB,0,10,s'⟩/\aG pn z K { x with ts:=s' } M)\/
  ∃k x',x.ts.send 0=⟨bi x.cf (pn k),bG x.cf k (pn k) (nf (z k)),(k:Int),0,x'.ts⟩/\aG pn z K x' M/\x'.rs=x.rs/\x'.S=x.S/\x'.vs=x.vs/\x'.cf=x.cf/\x'.d=x.d/\x'.N+x'.q=x.N+x.q/\x.N<=x'.N/\k < x'.N/\x.T k=true/\∀j,x'.T j=(x.T j && !decide (j=k)):=by
 rcases h.t.send h.ac h.ds (by omega)with ⟨h1,s',h2,h3⟩ | ⟨k,s',N',q',Pd',Rp',h1,h2,h3,h4,h5,h6,h7,h8,h9⟩
 ·have hk:=m7 x.ts 0
  rw[h2]at hk
  exact .inl ⟨h1,s',h2,⟨h.ok,h.val,h.cm,h.ac,h.ds,h.ro,h3,h.r,h.ol,h.ov,h.cov,h.sub,h.dup,by show dB K s'.used;rw[hk.1];exact h.gt,h.gr,by show eo s'.comp;rw[hk.2];exact h.co,by show aj x.cf.key∈s'.used;rw[hk.1];exact h.kt,h.kr⟩⟩
 ·have hk:=m7 x.ts 0
  rw[h1]at hk
  refine .inr ⟨k,{ x with N:=N',q:=q',Pd:=Pd',Rp:=Rp',ts:=s' },h1,⟨h.ok,h.val,h.cm,h.ac,h.ds,h.ro,h2,h.r,h.ol,h.ov,fun j hj=>?_,fun j hj=>?_,h.dup,by show dB K s'.used;rw[hk.1];exact h.gt,h.gr,by show eo s'.comp;rw[hk.2];exact h.co,by show aj x.cf.key∈s'.used;rw[hk.1];exact h.kt,h.kr⟩,rfl,rfl,rfl,rfl,rfl,h3,h4,h5,h6,h7⟩
  ·by_cases e:j < x.N
   ·rcases h.cov j e with h10 | h10
    ·exact .inl h10
    ·exact .inr ((h8 j e).trans h10)
   ·exact .inr (h9 j (by omega) hj)
  ·have:=h.sub j hj
   show j < N'
   omega
theorem aG.recv (h:aG pn z K x M) (hp:lQ pn z) (hlim:x.rs.limit<=x.rs.next) {k:Nat} (hk:k < x.N) (hN:x.N<=900) :
  ∃x' L,x.rs.receive 0 (bi x.cf (pn k)) (bG x.cf k (pn k) (nf (z k)))=(L,0,x'.rs)/\x'.vs=x.vs++L/\aG pn z K x' (M+1)/\x'.ts=x.ts/\x'.cf=x.cf/\x'.N=x.N/\x'.q=x.q/\x'.T=x.T/\x'.S=(fun j=>x.S j || decide (j=k)):=by
 have hpk:=hp.n k
 obtain⟨d',s',L,h1,h2,h3,h4,h5,h6⟩:=h.r.recv hlim h.ok h.ro k (by omega) ⟨hpk.1,by omega⟩ (fun j _=>hp.b k j)
 have hk2:=(tc x.rs 0 (bi x.cf (pn k)) (bG x.cf k (pn k) (nf (z k)))).2.1
 rw[h2]at hk2
 refine⟨{ x with S:=fun j=>x.S j || decide (j=k),d:=d',rs:=s',vs:=x.vs++L },L,h2,rfl,⟨h.ok,h.val,h.cm,h.ac,h.ds,h.ro,h.t,h5,?_,fun i v hv=>?_,fun j hj=>?_,fun j hj=>?_,?_,h.gt,by show dB K s'.used;rw[hk2];exact h.gr,h.co,h.kt,by show aj x.cf.key∈s'.used;rw[hk2];exact h.kr⟩,rfl,rfl,rfl,rfl,rfl,rfl⟩
 ·show(x.vs++L).length=d'
  rw[List.length_append,h.ol,h3]
  omega
 ·have hv':(x.vs++L)[i]? = some v:=hv
  by_cases e:i < x.vs.length
  ·rw[List.getElem?_append_left e]at hv'
   exact h.ov i v hv'
  ·rw[List.getElem?_append_right (by omega)]at hv'
   have:=h4 _ v hv'
   rw[h.ol]at this e
   rwa [show x.d+(i-x.d)=i by omega]at this
 ·rcases h.cov j hj with h7 | h7
  ·exact .inl (by show(x.S j || decide (j=k))=true;rw[h7];rfl)
  ·exact .inr h7
 ·have hj':(x.S j || decide (j=k))=true:=hj
  by_cases e:x.S j=true
  ·exact h.sub j e
  ·have:j=k:=by simpa[e]using hj'
   show j < x.N
   omega
 ·show s'.dup<=((M+1:Nat):Int)
  have:=h.dup
  omega
theorem aG.submit (h:aG pn z K x M) (hp:lQ pn z):∃s',x.ts.submit 0 (pn (x.N+x.q)) (z (x.N+x.q))=(0,s')/\aG pn z K { x with q:=x.q+1,ts:=s' } M:=by
 have hpk:=hp.n (x.N+x.q)
 obtain⟨s',h1,h2⟩:=h.t.submit h.ds hpk.1 (by omega)
 have hk:=pR x.ts 0 (pn (x.N+x.q)) (z (x.N+x.q))
 rw[h1]at hk
 exact⟨s',h1,⟨h.ok,h.val,h.cm,h.ac,h.ds,h.ro,h2,h.r,h.ol,h.ov,h.cov,h.sub,h.dup,by show dB K s'.used;rw[hk.1];exact h.gt,h.gr,by show eo s'.comp;rw[hk.2];exact h.co,by show aj x.cf.key∈s'.used;rw[hk.1];exact h.kt,h.kr⟩⟩
theorem aG.confirm (h:aG pn z K x M) (c:Int->Bool) (hc:∀k:Nat,c (k:Int)=true->x.S k=true):aG pn z K { x with Pd:=fun k=>x.Pd k && !c (k:Int),ts:={ x.ts with P:=x.ts.P.filter (fun e=>!c e.ct) } } M:=
 ⟨h.ok,h.val,h.cm,h.ac,h.ds,h.ro,h.t.confirm c,h.r,h.ol,h.ov,fun k hk=>by
  rcases h.cov k hk with h1 | h1
  ·exact .inl h1
  ·cases hck:c (k:Int)
   ·exact .inr (by show(x.Pd k && !c (k:Int))=true;rw[h1,hck];rfl)
   ·exact .inl (hc k hck),h.sub,h.dup,h.gt,h.gr,h.co,h.kt,h.kr⟩
theorem aG.rekey (h:aG pn z K x M) {f c:Nat->Int} (hf:∀j,j < 16->0<=f j/\f j < 256) (hc:∀j,j < 16->0<=c j/\c j < 256) {s':TS} {r':RS} (ht:DT (x.cf.keys f c) pn z x.N x.q x.Pd (fun _=>true) s') (hr:DR (x.cf.keys f c) pn z x.S x.d r') (hd:r'.dup<=M) {K':Nat} (hgt:dB K' s'.used) (hgr:dB K' r'.used) (hco:eo s'.comp) (hkt:aj f∈s'.used) (hkr:aj f∈r'.used):aG pn z K' { x with cf:=x.cf.keys f c,Rp:=fun _=>true,ts:=s',rs:=r' } M:=
 ⟨oq hf hc,h.val,h.cm,h.ac,h.ds,h.ro,ht,hr,h.ol,h.ov,h.cov,h.sub,hd,hgt,hgr,hco,hkt,hkr⟩
theorem aG.all (h:aG pn z K x M) (hq:x.q=0) (hN:x.N<=1000) (hs:∀k,k < x.N->x.S k=true):x.vs.length=x.N:=by
 rw[h.ol]
 exact h.r.all hN hs h.sub
theorem sE {cf:ax} (hok:cf.Ok) (hv:cf.Valid) (hcm:cf.cm=false) (hac:cf.ac=true) (hds:cf.ds=0) (hro:cf.ro=0) (hk:cf.key=aY K) (X:Obj):aG pn z K ⟨cf,0,0,fun _=>false,fun _=>false,fun _=>false,0,gm cf,eZ cf X,[]⟩ 0:=
 ⟨hok,hv,hcm,hac,hds,hro,zU hok hv,At X,rfl,fun i v h=>(by cases h),fun k h=>by have:k < 0:=h;omega,fun k h=>(by cases h),Int.le_refl _,by show dB K [aj cf.key];rw[hk];exact mI,by show dB K [aj cf.key];rw[hk];exact mI,nC,by show aj cf.key∈[aj cf.key];simp,by show aj cf.key∈[aj cf.key];simp⟩
def TS.moved (s:TS) (cf:ax):TS:=⟨cf,0,s.next,s.Q.map (fun q=>{ q with at_:=0 }),s.P.map PV.again,[aj cf.key],gi⟩
theorem DT.moved {cf cf':ax} {N q:Nat} {Pd Rp:Nat->Bool} {s:TS} (h:DT cf pn z N q Pd Rp s) (hok:cf'.Ok) (hv:cf'.Valid):DT cf' pn z N q Pd (fun _=>true) (s.moved cf'):=by
 refine⟨rfl,rfl,?_,h.next,?_,⟨hok,hv,fun q hq=>?_⟩⟩
 ·show s.Q.map _=_
  rw[h.Q,List.map_map]
  rfl
 ·show s.P.map PV.again=_
  rw[h.P,List.map_map]
  rfl
 ·have hq':q∈s.Q.map (fun q=>{ q with at_:=0 }):=hq
  obtain⟨p,hp,rfl⟩:=List.mem_map.1 hq'
  exact⟨Int.le_refl _,Int.le_refl _⟩
end
end Go.Proofs.YtbfpdnnphdagjaaGreat
namespace Go.Proofs.YtbfpdnnphdagjaaGreat
open Go.RowKit
structure cY where
 x0:cR
 x1:cR
 t0:Nat
 t1:Nat
 r0:Nat
 r1:Nat
 o0:Option Addr
 co0:Nat
 o1:Option Addr
 co1:Nat
 i0:Option Addr
 ci0:Nat
 v0:List SV
 i1:Option Addr
 ci1:Nat
 v1:List SV
 keys:Nat
def cY.arr (L:cY):Array Value:=#[.pointer (some ⟨L.t0,0,none⟩),.pointer (some ⟨L.r1,0,none⟩),.pointer (some ⟨L.t1,0,none⟩),.pointer (some ⟨L.r0,0,none⟩),.slice L.i0 L.v0.length L.ci0,.slice L.i1 L.v1.length L.ci1,.slice L.o0 L.x0.vs.length L.co0,.slice L.o1 L.x1.vs.length L.co1,.int .i64 (L.keys:Int)]
def cY.ag (L:cY) (b:Nat):Nat->Ag
 | 0=>fN L.t0 L.x0.ts
 | 1=>fN L.t1 L.x1.ts
 | 2=>fP L.r0 L.x0.rs L.o0 L.co0 L.x0.vs
 | 3=>fP L.r1 L.x1.rs L.o1 L.co1 L.x1.vs
 | 4=>uG L.i0 L.ci0 L.v0
 | 5=>uG L.i1 L.ci1 L.v1
 | _=>bX b 39 L.arr
def Lk (w0 w:World) (b:Nat) (L:cY):Prop:=an w0 w 7 (L.ag b)
theorem an.to7 {w0 w:World} {n:Nat} {A:Nat->Ag} (h:an w0 w n A) (hn:7<=n) (A':Nat->Ag) (h0:A' 0=A 0:=by rfl) (h1:A' 1=A 1:=by rfl) (h2:A' 2=A 2:=by rfl) (h3:A' 3=A 3:=by rfl) (h4:A' 4=A 4:=by rfl) (h5:A' 5=A 5:=by rfl) (h6:A' 6=A 6:=by rfl):an w0 w 7 A':=
 (h.less hn).congr (fun j hj=>by
  rcases (by omega:j=0\/j=1\/j=2\/j=3\/j=4\/j=5\/j=6)with rfl | rfl | rfl | rfl | rfl | rfl | rfl
  ·exact h0
  ·exact h1
  ·exact h2
  ·exact h3
  ·exact h4
  ·exact h5
  ·exact h6)
section
variable {w0 w w':World} {b:Nat} {L:cY}
end
end Go.Proofs.YtbfpdnnphdagjaaGreat
