import Derived.Test.YtbfpdnnphdagjaaGreatSEz
import Derived.Test.YtbfpdnnphdagjaaGreatMCGz
import Derived.Test.YtbfpdnnphdagjaaGreatMYHz
import Derived.Test.YtbfpdnnphdagjaaGreatMYAz
import Derived.Test.YtbfpdnnphdagjaaGreatMZOz
import Derived.Test.YtbfpdnnphdagjaaGreatMZAz
import Derived.Test.YtbfpdnnphdagjaaGreatMLPz
import Derived.Test.YtbfpdnnphdagjaaGreatMSDz
import Derived.BigQuiet
import Derived.Lib.SlBytesConst
import Derived.Test.YtbfpdnnphdagjaaGreatB1z
set_option maxRecDepth 100000
set_option maxHeartbeats 6400000
set_option linter.unusedVariables false
set_option linter.unusedSimpArgs false
namespace Go.Proofs.YtbfpdnnphdagjaaGreat
open Go.RowKit
attribute [local go_sem ↓] Go.wp_at_zero Go.wp_at_succ
def eF (l:List PV):Nat:=(l.filter (·.rep)).length
theorem nD {l:List PV} {k:Nat} {p:PV} (h:l[k]? = some p):eF (l.take (k+1))=eF (l.take k)+if p.rep=true then 1 else 0:=by
 unfold eF;rw[List.take_add_one,h,List.filter_append,List.length_append];congr 1
 cases hp:p.rep<;>simp[hp]
theorem sD (l:List PV):eF l<=l.length:=List.length_filter_le _ _
theorem l5 (g:Nat) (s:TS) (W R:Nat->Prop) (w:World) (hI:el w g s W R) (hl:s.P.length<=1000000):Calls Tryz.prog 14 #[.pointer (some ⟨g,0,none⟩)] w fun e w'=>e=.returned (.int .i64 (eF s.P:Nat))/\Below w.heap.size w w':=by
 obtain⟨qA,qc,lq,pA,pc,lp,ub,cb,m⟩:=hI;have HM:=zh m;have HPV:=zh m.pv;obtain⟨n,hn⟩:=ah lp.length
 have hpn:s.P.length=n:=by rw[<-m.pv,List.length_map,hn]
 have HLN:=zh hn;have HPN:=zh hpn;obtain⟨P,hP⟩:=ah s.P
 rw[<-hP]at HPV HPN ⊢;have n0:(0:Int)<=(n:Int):=by omega
 have n9:(n:Int)<=1000000:=by omega
 have cp:w.cell? ⟨g,43,none⟩=some (.slice pA n pc):=by rw[hn];exact m.cp
 clear hP hpn hn hl m;go_enter Tryz.func14,Tryz.ntmps14;go_wp2;go_loopw [3,13] (fun v3 v13 wr=>∃k:Nat,k<=n/\v13=.int .i64 k/\v3=.int .i64 (eF (P.take k):Nat)/\Below w.heap.size w wr) (fun _ v13 _=>n-(intOf v13).toNat)
 case atStart=>exact⟨0,by omega,rfl,rfl,Below.refl _ _⟩
 case round=>
  obtain⟨k,hk,rfl,rfl,hB⟩:=hrel;have HB:=zh hB;have k0:(0:Int)<=(k:Int):=by omega
  have hle:=sD (P.take k);rw[List.length_take]at hle;by_cases hlt:k < n
  ·have k1:(k:Int) < (n:Int):=by omega
   obtain⟨e,he⟩:∃e,lp[k]? = some e:=⟨_,List.getElem?_eq_getElem (by rw[<-HLN.out];exact hlt)⟩
   obtain⟨b,o,hA,hb,c0,c1,c2⟩:=(HM.out.below hB).pcell he;have hPk:P[k]? = some e.v:=by rw[<-HPV.out,List.getElem?_map,he];rfl
   have HS:=zh (nD hPk);obtain⟨rp,hrp⟩:∃r,r=eF (P.take k):=⟨_,rfl⟩
   rw[<-hrp]at HS hle ⊢;obtain⟨rr,hrr⟩:∃r,r=e.v.rep:=⟨_,rfl⟩
   rw[<-hrr]at c2 HS;have HRG:=zh (show wr.rangeAt b (o+k*3) [.int .u32 e.v.ct,.slice e.A e.v.n e.c,.bool rr]from fun j v hv=>by
    have hj:j < 3:=(List.getElem?_eq_some_iff.1 hv).1;rcases (by omega:j=0\/j=1\/j=2)with rfl | rfl | rfl
    ·exact c0.trans (by simpa using hv)
    ·exact c1.trans (by simpa using hv)
    ·exact c2.trans (by simpa using hv))
   have HBL:=zh hb;subst hA;have r0:(0:Int)<=(rp:Int):=by omega
   have r1:(rp:Int)<=1000000:=by omega
   have HLT:=zh hlt;clear he hPk hrp hrr hB hle hlt c0 c1 c2 hb;go_upto_region 6 with (first
    | (refine wpList_load_mid rfl _ _ rfl b (o+k*3) rfl [.int .u32 e.v.ct,.slice e.A e.v.n e.c,.bool rr] _ HRG.out Tryz.underlying96 rfl (by kernel_rfl) ?_)
    | (refine wpList_store_row rfl _ _ _ rfl wr.heap.size #[.int .u32 e.v.ct,.slice e.A e.v.n e.c,.bool rr] rfl rfl 96 #[.int .u32 0,.slice none 0 0,.bool false] (ae.new _ _ _) (by kernel_rfl) rfl rfl ?_))
   refine ai (fun V=>V.cell? ⟨wr.heap.size,2,none⟩=some (.bool rr)/\Below w.heap.size w V) ⟨(ae.new wr 96 #[.int .u32 e.v.ct,.slice e.A e.v.n e.c,.bool rr]).cell 2,HB.out.alloc HB.out.size _⟩ ?_;rintro V ⟨v1,v2⟩;obtain⟨xb,hxb⟩:=ah wr.heap.size
   rw[<-hxb]at v1 ⊢;have HV:=zh v2;clear v2 hxb
   cases rr
   ·go_wp2;go_roundw
    case rel=>exact⟨k+1,HLT.out,by go_num,by rw[HS.out];simp,HV.out⟩
    case measure=>have:=HLT.out;simp[intOf];omega
   ·go_wp2;go_roundw
    case rel=>exact⟨k+1,HLT.out,by go_num,by rw[HS.out];simp,HV.out⟩
    case measure=>have:=HLT.out;simp[intOf];omega
  ·obtain rfl:n=k:=by omega
   have k1:¬(n:Int) < (n:Int):=by omega
   have HE:=zh (show eF (P.take n)=eF P by rw[List.take_of_length_le (Nat.le_of_eq HPN.out)]);rw[HE.out];clear hB hle hlt;go_wp2;go_ret
   exact⟨rfl,HB.out⟩
theorem gI (g:Nat) (s:TS) (W R:Nat->Prop) (w:World) (h:el w g s W R) (U:List (Nat->Int)) (hU:s.used=U.map af) (f:Nat->Int) :
  Calls Tryz.prog 31 #[.pointer (some ⟨g,0,none⟩),.agg (af f)] w fun e w'=>e=.returned (.bool (!bI f U))/\Below w.heap.size w w':=by
 have HNO:=zh (fun(V:World) (hb:Below w.heap.size w V)=>gD g s W R V (h.below hb));obtain⟨qA,qc,lq,pA,pc,lp,ub,cb,hT⟩:=h;have HT:=zh hT;have HLK:=zh (fun(V:World) (hb:Below w.heap.size w V)=>gC V ub U f (by rw[<-hU];exact(hT.below hb).u));have HSK:=zh (bF f);have HUK:=zh Tryz.underlying23;obtain⟨KF,hKF⟩:=ah (af f)
 rw[<-hKF]at HLK HSK ⊢;obtain⟨q,hq⟩:=ah (bI f U)
 rw[<-hq]at HLK ⊢;clear hT hKF hU hq;go_enter Tryz.func31,Tryz.ntmps31;go_upto_region 1 with (fail)
 obtain⟨kb,hkb⟩:=ah w.heap.size
 refine ai (fun V=>ae V kb 23 KF/\Below w.heap.size w V) ⟨by rw[hkb];exact ae.new _ _ _,(Below.refl _ w).alloc ay _⟩ ?_;rintro W1 ⟨b1,b3⟩;have B1:=zh b1;have B3:=zh b3;rw[<-hkb];clear b1 b3 hkb;have HKR:=zh (show ∀W',Below W1.heap.size W1 W'->W'.rangeAt kb 0 KF.toList from fun W' hW=>(B1.out.below hW B1.out.lt).range _ (by simp));have HC44:=zh (show ∀W',Below W1.heap.size W1 W'->W'.cell? ⟨g,44,none⟩=some (.map (some ub))from fun W' hW=>(HT.out.below (B3.out.trans (hW.mono B3.out.size))).cu);have HL2:=zh (show ∀W',Below W1.heap.size W1 W'->(Instr.lookup 75 (.map (some ub)) (.agg KF) false).run Tryz.prog W'=.ok (.bool q) W' from fun W' hW=>HLK.out W' (B3.out.trans (hW.mono B3.out.size)));refine wp_region_held_drew (S:=fun w'=>Below W1.heap.size W1 w') (by kernel_rfl) ((Below.refl _ W1).drew) (fun hHeld=>?_);obtain⟨w0,hw0⟩:=ah W1.drew
 rw[<-hw0];rw[<-hw0]at hHeld;clear hw0;refine wpAnyH_take (i:=0) (oi:=⟨some 5,_,_,_,_,_⟩) (v:=.pointer (some ⟨g,0,none⟩)) rfl (by kernel_rfl) (by kernel_rfl) (by kernel_rfl) (fun _ _ _ h=>h) (Or.inl ⟨by rfl,fun W hW=>(by rfl)⟩) (by assumption) ?_;try simp only[Act.put,List.setIfInBounds_toArray,List.set_cons_zero,List.set_cons_succ];refine wpAnyH_ready (rs:=[1]) (by kernel_rfl) (by simp) ?_;refine AllReadyH.cons (o:=⟨some 6,_,_,_,_,_⟩) rfl (fun K hK=>?_) AllReadyH.nil;rw[if_pos (by rfl)];go_simp;refine(HNO.out w0 (B3.out.trans (hHeld.mono B3.out.size))).mono ?_;rintro e w1' ⟨rfl,rfl⟩;dsimp only;refine hK.out _ _ hHeld (fun hHeld=>?_);clear hK K
 try simp only[Act.put,List.setIfInBounds_toArray,List.set_cons_zero,List.set_cons_succ]
 refine wpAnyH_take (i:=2) (oi:=⟨some 7,_,_,_,_,_⟩) (v:=.bool true) rfl (by kernel_rfl) (by kernel_rfl) (by kernel_rfl) (fun _ _ _ h=>h) (Or.inl ⟨by rfl,fun W hW=>(by go_simp)⟩) (by assumption) ?_;try simp only[Act.put,List.setIfInBounds_toArray,List.set_cons_zero,List.set_cons_succ];refine wpAnyH_take (i:=3) (oi:=⟨some 8,_,_,_,_,_⟩) (v:=.bool true) rfl (by kernel_rfl) (by kernel_rfl) (by kernel_rfl) (fun _ _ _ h=>h) (Or.inl ⟨by rfl,fun W hW=>(by rfl)⟩) (by assumption) ?_;try simp only[Act.put,List.setIfInBounds_toArray,List.set_cons_zero,List.set_cons_succ];refine wpAnyH_take (i:=4) (oi:=⟨some 9,_,_,_,_,_⟩) (v:=.pointer (some ⟨g,0,none⟩)) rfl (by kernel_rfl) (by kernel_rfl) (by kernel_rfl) (fun _ _ _ h=>h) (Or.inl ⟨by rfl,fun W hW=>(by rfl)⟩) (by assumption) ?_;try simp only[Act.put,List.setIfInBounds_toArray,List.set_cons_zero,List.set_cons_succ];refine wpAnyH_take (i:=5) (oi:=⟨some 10,_,_,_,_,_⟩) (v:=.pointer (some ⟨g,0,none⟩)) rfl (by kernel_rfl) (by kernel_rfl) (by kernel_rfl) (fun _ _ _ h=>h) (Or.inl ⟨by rfl,fun W hW=>(by go_simp)⟩) (by assumption) ?_;try simp only[Act.put,List.setIfInBounds_toArray,List.set_cons_zero,List.set_cons_succ];refine wpAnyH_take (i:=6) (oi:=⟨some 11,_,_,_,_,_⟩) (v:=.pointer (some ⟨g,44,none⟩)) rfl (by kernel_rfl) (by kernel_rfl) (by kernel_rfl) (fun _ _ _ h=>h) (Or.inl ⟨by rfl,fun W hW=>(by go_simp)⟩) (by assumption) ?_;try simp only[Act.put,List.setIfInBounds_toArray,List.set_cons_zero,List.set_cons_succ];refine wpAnyH_take (i:=7) (oi:=⟨some 12,_,_,_,_,_⟩) (v:=.map (some ub)) rfl (by kernel_rfl) (by kernel_rfl) (by kernel_rfl) (fun _ _ _ h=>h) (.inl ⟨by rfl,fun W hW=>(by have:=HC44.out W hW;go_simp)⟩) (by assumption) ?_;try simp only[Act.put,List.setIfInBounds_toArray,List.set_cons_zero,List.set_cons_succ];refine' wpAnyH_take (i:=8) (oi:=⟨some 13,_,_,_,_,_⟩) (v:=_) rfl (by kernel_rfl) (by kernel_rfl) (by kernel_rfl) (fun _ _ _ h=>h) (yieldsIf_load_mid (by rfl) _ _ rfl kb 0 rfl KF.toList _ (fun w h=>HKR.out w h) HUK.out rfl HSK.out) (by assumption) ?_;try simp only[Act.put,List.setIfInBounds_toArray,List.set_cons_zero,List.set_cons_succ];refine wpAnyH_take (i:=9) (oi:=⟨some 14,_,_,_,_,_⟩) (v:=.bool q) rfl (by kernel_rfl) (by kernel_rfl) (by kernel_rfl) (fun _ _ _ h=>h) (.inl ⟨by rfl,fun W hW=>(by have:=HL2.out W hW;go_simp)⟩) (by assumption) ?_;try simp only[Act.put,List.setIfInBounds_toArray,List.set_cons_zero,List.set_cons_succ];refine wpAnyH_take (i:=10) (oi:=⟨some 15,_,_,_,_,_⟩) (v:=.bool (!q)) rfl (by kernel_rfl) (by kernel_rfl) (by kernel_rfl) (fun _ _ _ h=>h) (.inl ⟨by rfl,fun W hW=>(by cases q<;>go_simp)⟩) (by assumption) ?_;try simp only[Act.put,List.setIfInBounds_toArray,List.set_cons_zero,List.set_cons_succ];refine wpAnyH_take (i:=11) (oi:=⟨some 16,_,_,_,_,_⟩) (v:=.bool (!q)) rfl (by kernel_rfl) (by kernel_rfl) (by kernel_rfl) (fun _ _ _ h=>h) (Or.inl ⟨by rfl,fun W hW=>(by go_simp)⟩) (by assumption) ?_;try simp only[Act.put,List.setIfInBounds_toArray,List.set_cons_zero,List.set_cons_succ];refine wpAnyH_take (i:=12) (oi:=⟨some 4,_,_,_,_,_⟩) (v:=.bool (!q)) rfl (by kernel_rfl) (by kernel_rfl) (by kernel_rfl) (fun _ _ _ h=>h) (Or.inl ⟨by rfl,fun W hW=>(by rfl)⟩) (by assumption) ?_;try simp only[Act.put,List.setIfInBounds_toArray,List.set_cons_zero,List.set_cons_succ];refine wpAnyH_done (by kernel_rfl) ?_ _;have H2:=zh hHeld;clear hHeld;go_wp2;go_ret
 exact⟨rfl,B3.out.trans (H2.out.mono B3.out.size)⟩
end Go.Proofs.YtbfpdnnphdagjaaGreat
namespace Go.Proofs.YtbfpdnnphdagjaaGreat
open Go.RowKit
attribute [local go_sem] Oper.semAt_some
theorem mz (g:Nat) (s:RS) (W R:Nat->Prop) (sb:Nat) (l:List SE) (ub eb:Nat) (w:World) (h:aE w g s W R sb l ub eb) (hok:s.C.Ok) (hcm:s.C.cm=false) (hro:0<=s.C.ro/\s.C.ro<=1073741824) (hl:l.length<=100) (hrun:s.run=false) (hdup:s.dup < 4611686018427387903) (t:Int)
  (A:Option Addr) (n c:Nat) (z:Nat->Nat) (hn:n<=9223372036854775807) (hnc:n<=c) (hz:∀j,j < n->z j < 256) (hr:az w w.heap.size A n (fun j=>.int .u8 ((z j:Nat):Int))) (hA:∀a,A=some a->¬W a.block) (hD:kU g s.C W R sb ub eb A n c z) :
  Calls Tryz.prog 27 #[.pointer (some ⟨g,0,none⟩),.int .i64 t,.slice A n c] w (uL g s W R sb ub eb t n z w):=by
 have hmf:∀(fn:Fn) (first cap:Array Value) (w:World),(Instr.makeFunc fn first cap).run Tryz.prog w=.ok (.func fn first cap) w:=fun _ _ _ _=>rfl;obtain⟨ob,hob⟩:=ah w.heap.size
 obtain⟨W1,hW1⟩:=ah ((w.alloc (.cells #[.slice none 0 0] 36)).alloc (.cells #[.int .i64 0] 30))
 have hB1:Below w.heap.size w W1:=by rw[hW1];exact((Below.refl _ w).alloc ay _).alloc (by simp) _
 have hO:ae W1 ob 36 #[.slice none 0 0]:=by rw[hW1,hob];exact(ae.new _ _ _).alloc _
 have hE:ae W1 (ob+1) 30 #[.int .i64 0]:=by rw[hW1,hob];exact al _ _ _ _ (by simp)
 have hT:=h.below hB1;have HAT:=zh (vJ g s W R sb l ub eb W1 hT t);have HW:=zh (And.intro h.win h.rin);have HWG:=zh (And.intro h.wg h.ws);have HDIS:=zh h.dis;have hgo:g < ob/\sb < ob:=by have:=h.win _ h.wg;have:=h.win _ h.ws;omega
 have HP:=zh (And.intro hok (And.intro hcm (And.intro hro (And.intro hl (And.intro hdup (And.intro hnc (And.intro hz (And.intro hr (And.intro hA (And.intro hD h.lv))))))))));have HO:=zh hO;have HE:=zh hE;have HB1:=zh hB1;have HWW:=zh hW1;have HOB:=zh hob;have HRUN:=zh hrun;clear hrun h hok hcm hro hl hdup hnc hz hr hA hD hO hE hB1 hW1 hT;refine(callsIn_wide (n:=9)).1 ?_;refine callsIn_of_wp_marks Tryz.func27 rfl trivial ?_ rfl;simp only[Tryz.ntmps27,List.size_toArray,List.length_cons,List.length_nil,Nat.reduceAdd,Nat.reduceSub,Array.replicate_succ,Array.replicate_zero,List.push_toArray,List.append_toArray,List.nil_append,List.cons_append];refine wpIn_wide.2 ?_;go_upto_region 1 with (fail)
 rw[<-HWW.out,<-HOB.out];clear hob;by_cases hbt:1073741824<=t
 ·have HX:=zh (show s.receive t n z=([],2,s) by unfold RS.receive;rw[if_pos hbt]);go_wp2_with (go_at_call 48;refine(HAT.out).mono ?_;rintro e w2 ⟨he,hT2,hk2⟩;rw[if_pos hbt]at he hT2;subst he;have HT2:=zh hT2;have HK2:=zh hk2;have f1:=(hk2.blk HO.out (by omega)).frozen 0;have f2:=(hk2.blk HE.out (by omega)).frozen 0;have o1:=(hk2.blk HO.out (by omega)).cell 0;have o2:=(hk2.blk HE.out (by omega)).cell 0;clear hT2 hk2);have ho2:ae w2 ob 36 #[.slice none 0 0]:=HK2.out.blk HO.out (by omega);have he2:ae w2 (ob+1) 30 #[.int .i64 0]:=HK2.out.blk HE.out (by omega);have k3:=aw w2 ob 0 (.slice none 0 0);have k4:=aw (w2.setCell ⟨ob,0,none⟩ (.slice none 0 0)) (ob+1) 0 (.int .i64 2);have k34:aa (fun k=>k=ob\/k=ob+1) w2 ((w2.setCell ⟨ob,0,none⟩ (.slice none 0 0)).setCell ⟨ob+1,0,none⟩ (.int .i64 2)):=(k3.mono (fun _ h=>.inl h)).trans k4 (fun _ _ h=>.inr h);have q1:=(k4.blk (ho2.set_ 0 (.slice none 0 0)) (by omega)).cell 0;have q2:=((k3.blk he2 (by omega)).set_ 0 (.int .i64 2)).cell 0;simp at q1 q2;refine⟨.tuple #[.slice none 0 0,.int .i64 2],by simp[results,Tryz.results27,go_sem,q1,q2],?_⟩;refine⟨R,l,none,0,[],by rw[HX.out];rfl,⟨SL.nil _ _ _,fun a h=>by cases h⟩,by rw[HX.out];rfl,fun x h=>by simp at h,?_,fun k h=>.inl h,fun k h=>h,?_⟩
  ·rw[HX.out]
   exact uK HT2.out k34 (fun k h=>by have:=HOB.out;omega) HW.out
  ·exact((aa.of_below HB1.out).trans HK2.out (fun k _ e=>by rw[e];exact HWG.out.1)).trans k34 (fun k hk e=>by have:=HOB.out;omega)
 have HX:=zh (show s.receive t n z=(let y:=(s.at_ t).expire.2.take n z;if y.2.1=true then ((s.at_ t).expire.1++y.2.2.deliver_.1,0,y.2.2.deliver_.2.timer) else ((s.at_ t).expire.1,y.1,y.2.2)) by unfold RS.receive;rw[if_neg hbt]);go_upto_region 4 with (go_at_call 48;refine(HAT.out).mono ?_;rintro e w2 ⟨he,hT2,hk2⟩;rw[if_neg hbt]at he hT2;subst he;have HT2:=zh hT2;have HK2:=zh hk2;have HO2:=zh (hk2.blk HO.out (by omega));have HE2:=zh (hk2.blk HE.out (by omega));clear hT2 hk2)
 have HEXP:=zh (lL g (s.at_ t) W R sb l ub eb w2 HT2.out (.inl HRUN.out));have hWob:¬W ob/\¬W (ob+1)/\¬R ob/\¬R (ob+1):=⟨fun h=>by have:=HW.out.1 _ h;have:=HOB.out;omega,fun h=>by have:=HW.out.1 _ h;have:=HOB.out;omega,fun h=>by have:=HW.out.2 _ h;have:=HOB.out;omega,fun h=>by have:=HW.out.2 _ h;have:=HOB.out;omega⟩
 have HWO:=zh hWob;clear hWob;go_upto_region 6 with (go_at_call 49;refine(HEXP.out).mono ?_;rintro e w3 ⟨A1,c1,lo1,l1,rfl,hM1,hm1,hs1,hs2,hT3,hk3⟩;have HM1:=zh (And.intro hM1 (And.intro hm1 (And.intro hs1 hs2)));have HT3:=zh hT3;have HK3:=zh hk3;have HO3:=zh (hk3.blk HO2.out HWO.out.1);have HE3:=zh (hk3.blk HE2.out HWO.out.2.1);have f3:=HO3.out.frozen 0;have o3:w3.cell? ⟨ob,0,none⟩=some (.slice none 0 0):=HO3.out.cell 0;clear hM1 hm1 hs1 hs2 hT3 hk3)
 obtain⟨s5,hs5⟩:∃x,x=(s.at_ t).expire.2:=⟨_,rfl⟩
 obtain⟨x1,hx1⟩:∃x,x=(s.at_ t).expire.1:=⟨_,rfl⟩
 have hkp:=ey (s.at_ t);rw[<-hs5,<-hx1]at hkp HX;rw[<-hs5]at HT3;rw[<-hx1]at HM1;have hatC:(s.at_ t).C=s.C/\(s.at_ t).dup=s.dup/\(s.at_ t).L=s.L:=⟨rfl,rfl,rfl⟩
 have hc5:s5.C=s.C:=hkp.1.trans hatC.1;have hd5:s5.dup=s.dup:=hkp.2.1.trans hatC.2.1;have hlen5:x1.length+s5.L.length<=100:=by rw[hkp.2.2,hatC.2.2,<-HP.out.2.2.2.2.2.2.2.2.2.2,List.length_map];exact HP.out.2.2.2.1
 have hl1:lo1.length=x1.length:=by rw[<-HM1.out.2.1,List.length_map]
 have hl5:l1.length=s5.L.length:=by rw[<-HT3.out.lv,List.length_map]
 have HLEN:=zh (show lo1.length+l1.length<=100 by omega);have HC5:=zh (And.intro hc5 hd5);have k4:=aw w3 ob 0 (.slice A1 lo1.length c1);have hKW:aa W w (w3.setCell ⟨ob,0,none⟩ (.slice A1 lo1.length c1)):=(((aa.of_below HB1.out).trans HK2.out (fun k _ e=>by rw[e];exact HWG.out.1)).trans HK3.out (fun k _ h=>h)).trans k4 (fun k hk e=>by have:=HOB.out;omega);refine ai (fun V=>aE V g s5 W R sb l1 ub eb/\ae V ob 36 #[.slice A1 lo1.length c1]/\ae V (ob+1) 30 #[.int .i64 0]/\tS V w2.heap.size A1 c1 lo1/\aa W w V/\(∀x,x∈lo1->cV V R x.A x.v.n x.c x.v.z)/\w2.heap.size<=V.heap.size)
  ⟨uK HT3.out k4 (fun k h=>by have:=HOB.out;omega) HW.out,HO3.out.set_ 0 _,k4.blk HE3.out (by omega),⟨HM1.out.1.1.keepF k4 (fun a ha e=>by have:=HM1.out.1.2 a ha;have:=HO2.out.lt;omega),HM1.out.1.2⟩,hKW,fun x hx=>(HT2.out.pk x (HM1.out.2.2.1 x hx)).keep ((HK3.out.mono (G:=fun k=>W k\/k=ob) (fun _ h=>.inl h)).trans k4 (fun k _ h=>.inr h)) (fun k hk hr=>by
   rcases hk with hk | hk
   ·exact HDIS.out k hk hr
   ·rw[hk]at hr;exact HWO.out.2.2.1 hr),bm HK3.out.size k4.size⟩ ?_
 rintro w4 ⟨t4,o4,e4,m4,kw4,p4,z4⟩;have HT4:=zh t4;have HO4:=zh o4;have HE4:=zh e4;have HM4:=zh m4;have HK4:=zh kw4;have HP4:=zh p4;have hz24:w.heap.size<=w2.heap.size:=bm HB1.out.size HK2.out.size;have HZ4:=zh (And.intro z4 hz24);have HR4:Hid (az w4 w4.heap.size A n (fun j=>.int .u8 ((z j:Nat):Int))):=zh ((HK4.out.row HP.out.2.2.2.2.2.2.2.1 ay (fun a ha _=>HP.out.2.2.2.2.2.2.2.2.1 a ha)).more HK4.out.size);have hDA:=HP.out.2.2.2.2.2.2.2.2.2.1 s5 l1 w4 hc5 t4 HR4.out;rw[<-hc5]at hDA;have HTK:Hid (Calls Tryz.prog 51 #[.pointer (some ⟨g,0,none⟩),.slice A n c] w4 (ko g s5 W R sb l1 ub eb n z w4)):=zh (by
  have o5:s5.C.Ok:=by rw[hc5];exact HP.out.1
  have c5:s5.C.cm=false:=by rw[hc5];exact HP.out.2.1
  have d5:s5.dup < 4611686018427387903:=by rw[hd5];exact HP.out.2.2.2.2.1
  cases hig:s5.C.ig
  ·exact tI g s5 W R sb l1 ub eb w4 t4 o5 c5 hig d5 A n c z hn HP.out.2.2.2.2.2.1 HP.out.2.2.2.2.2.2.1 HR4.out hDA
  ·exact sq g s5 W R sb l1 ub eb w4 t4 o5 c5 hig d5 A n c z hn HP.out.2.2.2.2.2.1 HP.out.2.2.2.2.2.2.1 HR4.out hDA)
 clear t4 o4 e4 m4 kw4 p4 k4 hKW hDA hkp hl1 hl5 hlen5 hc5 hd5 hatC f3 o3;obtain⟨ec,nw,s7,htk⟩:∃a b c,s5.take n z=(a,b,c):=⟨_,_,_,rfl⟩
 have hnw:=sp s5 n z;have hc7:=sC s5 n z;rw[htk]at hnw HX hc7;simp only at hnw HX hc7;have HC7:=zh (hc7.trans HC5.out.1);clear hc7;have HTE:=zh htk;by_cases hec:ec=0;rotate_left
 ·have hnf:=hnw hec;subst hnf;go_wp2_with (go_at_call 51;refine(HTK.out).mono ?_;rintro e w7 ⟨R',l7,he,hT7,hR1,hR2,hk7,hl7⟩;rw[HTE.out]at he hT7;simp only at he hT7;rw[if_neg hec]at he;subst he;have HT7:=zh hT7;have HR7:=zh (And.intro hR1 hR2);have HK7:=zh hk7;clear hT7 hR1 hR2 hk7 hl7);have c7:w7.cell? ⟨ob+1,0,none⟩=some (.int .i64 0):=(HK7.out.blk HE4.out HWO.out.2.1).cell 0;have f7:=(HK7.out.blk HE4.out HWO.out.2.1).frozen 0;refine⟨by simp,.inr ⟨fun h=>(by cases h),_,_,50,#[.pointer (some ⟨ob+1,0,none⟩)],rfl,by simp[go_sem],fun g _=>trivial,?_⟩⟩;refine(lO ⟨ob+1,0,none⟩ 0 ec [] w7 c7 f7).mono ?_;rintro en u' w'' ⟨rfl,rfl,hw⟩;have k9:=aw w7 (ob+1) 0 (.int .i64 ec);rw[<-hw]at k9;have y1:w''.cell? ⟨ob,0,none⟩=some (.slice A1 lo1.length c1):=(k9.blk (HK7.out.blk HO4.out HWO.out.1) (by omega)).cell 0;have y2:w''.cell? ⟨ob+1,0,none⟩=some (.int .i64 ec):=by rw[hw];exact((HK7.out.blk HE4.out HWO.out.2.1).set_ 0 _).cell 0
  refine⟨.tuple #[.slice A1 lo1.length c1,.int .i64 ec],by simp[results,Tryz.results27,go_sem,y1,y2],?_⟩
  exact lZ HX.out HOB.out HW.out HDIS.out HM1.out.2.1 ⟨HE2.out.lt,HZ4.out.1⟩ HM4.out HP4.out HK4.out HT7.out HR7.out.1 HR7.out.2 HK7.out (k9.mono (fun _ h=>.inr h))
 subst hec
 cases nw
 ·go_wp2_with (go_at_call 51;refine(HTK.out).mono ?_;rintro e w7 ⟨R',l7,he,hT7,hR1,hR2,hk7,hl7⟩;rw[HTE.out]at he hT7;simp only at he hT7;obtain rfl:e=.returned (.bool false):=(by simpa using he);have HT7:=zh hT7;have HR7:=zh (And.intro hR1 hR2);have HK7:=zh hk7;have o7:w7.cell? ⟨ob,0,none⟩=some (.slice A1 lo1.length c1):=(hk7.blk HO4.out HWO.out.1).cell 0;have e7:w7.cell? ⟨ob+1,0,none⟩=some (.int .i64 0):=(hk7.blk HE4.out HWO.out.2.1).cell 0;have fo7:=(hk7.blk HO4.out HWO.out.1).frozen 0;have fe7:=(hk7.blk HE4.out HWO.out.2.1).frozen 0;clear hT7 hR1 hR2 hk7 hl7);have k8:=aw w7 ob 0 (.slice A1 lo1.length c1);have k9:=aw (w7.setCell ⟨ob,0,none⟩ (.slice A1 lo1.length c1)) (ob+1) 0 (.int .i64 0);have k89:aa (fun k=>k=ob\/k=ob+1) w7 ((w7.setCell ⟨ob,0,none⟩ (.slice A1 lo1.length c1)).setCell ⟨ob+1,0,none⟩ (.int .i64 0)):=(k8.mono (fun _ h=>.inl h)).trans k9 (fun _ _ h=>.inr h);have y1:((w7.setCell ⟨ob,0,none⟩ (.slice A1 lo1.length c1)).setCell ⟨ob+1,0,none⟩ (.int .i64 0)).cell? ⟨ob,0,none⟩=some (.slice A1 lo1.length c1):=(k9.blk ((HK7.out.blk HO4.out HWO.out.1).set_ 0 _) (by omega)).cell 0;have y2:((w7.setCell ⟨ob,0,none⟩ (.slice A1 lo1.length c1)).setCell ⟨ob+1,0,none⟩ (.int .i64 0)).cell? ⟨ob+1,0,none⟩=some (.int .i64 0):=((k8.blk (HK7.out.blk HE4.out HWO.out.2.1) (by omega)).set_ 0 _).cell 0;refine⟨by simp,.inr ⟨fun h=>(by cases h),_,_,50,#[.pointer (some ⟨ob+1,0,none⟩)],rfl,by simp[go_sem],fun g _=>trivial,?_⟩⟩;refine(jh ⟨ob+1,0,none⟩ _).mono ?_;rintro en u' w'' ⟨rfl,rfl,rfl⟩;refine⟨.tuple #[.slice A1 lo1.length c1,.int .i64 0],by simp[results,Tryz.results27,go_sem,y1,y2],?_⟩
  exact lZ HX.out HOB.out HW.out HDIS.out HM1.out.2.1 ⟨HE2.out.lt,HZ4.out.1⟩ HM4.out HP4.out HK4.out HT7.out HR7.out.1 HR7.out.2 HK7.out k89
 have hcd7:=ey (s.at_ t);go_upto_region 7 with (go_at_call 51;refine(HTK.out).mono ?_;rintro e w7 ⟨R',l7,he,hT7,hR1,hR2,hk7,hl7⟩;rw[HTE.out]at he hT7;simp only at he hT7;obtain rfl:e=.returned (.bool true):=(by simpa using he);have HT7:=zh hT7;have HR7:=zh (And.intro hR1 hR2);have HK7:=zh hk7;have HL7:=zh hl7;clear hT7 hR1 hR2 hk7 hl7)
 simp only[if_true]at HX;have HWR':Hid ((∀k,W k->k < w7.heap.size)/\∀k,R' k->k < w7.heap.size):=zh (And.intro HT7.out.win HT7.out.rin);have hRob:¬R' ob/\¬R' (ob+1):=by
  have h1:=HE4.out.lt;refine⟨fun hr=>?_,fun hr=>?_⟩
  ·rcases HR7.out.1 _ hr with h | h
   ·exact HWO.out.2.2.1 h
   ·omega
  ·rcases HR7.out.1 _ hr with h | h
   ·exact HWO.out.2.2.2 h
   ·omega
 have HRO:=zh hRob;obtain⟨bx,hbx⟩:∃b,b=w7.heap.size:=⟨_,rfl⟩
 obtain⟨V5,hV5⟩:∃v,v=w7.alloc (.cells #[.pointer (some ⟨g,0,none⟩)] 32):=⟨_,rfl⟩
 have hB5:Below w7.heap.size w7 V5:=by rw[hV5];exact bR _
 have hX5:ae V5 bx 32 #[.pointer (some ⟨g,0,none⟩)]:=by rw[hV5,hbx];exact ae.new _ _ _
 have hz5:V5.heap.size=bx+1:=by rw[hV5,hbx];simp
 have HFM:=zh (qs g w7);rw[<-hV5,<-hbx]at HFM;have hT5:=HT7.out.below hB5;have hO7:=HK7.out.blk HO4.out HWO.out.1;have hE7:=HK7.out.blk HE4.out HWO.out.2.1;have hM7:SL w7 41 1 A1 lo1.length c1 (lo1.map SE.val):=HM4.out.1.keepF HK7.out (fun a ha hw=>by have:=HM4.out.2 a ha;have:=HW.out.1 _ hw;have:=HZ4.out.2;omega);have hKW7:aa W w w7:=HK4.out.trans HK7.out (fun _ _ h=>h);have h24:=HE2.out.lt;have hI5:sB w w7 w2.heap.size W R' ob bx lo1 [] V5:=⟨A1,c1,by rw[List.append_nil];exact hO7.below hB5 hO7.lt,by rw[List.append_nil];exact hM7.next hB5,fun a ha=>⟨HM4.out.2 a ha,by have:=hM7.lt ha;omega,fun hr=>by
  have h1:=HM4.out.1.lt ha;have h2:=HM4.out.2 a ha;rcases HR7.out.1 _ hr with h | h
  ·have:=HW.out.2 _ h;have:=HZ4.out.2;omega
  ·omega⟩,hKW7.more hB5,hE7.below hB5 hE7.lt,aa.of_below hB5⟩
 have hR5:g8 g s7 W R' sb l7 ub eb bx [] V5:=⟨l7,rfl,fun k e h=>by simp at h,by
  have e:=hT5.lv;have e2:({ s7 with L:=l7.map (·.v),deliver:=s7.deliver+(([]:List SE).length:Nat) }:RS)=s7:=by rw[e];simp
  rw[e2]
  exact hT5,hX5⟩
 have hsz7:w2.heap.size<=w7.heap.size:=bm HZ4.out.1 HK7.out.size;have hbx2:w2.heap.size<=bx:=by omega
 have hwl:=HW.out;have hwl7:∀k,R' k->k < bx:=fun k hk=>by have:=HWR'.out.2 k hk;omega
 have hsl:sb < w2.heap.size/\g < w2.heap.size:=by omega
 have hbg:bx ≠ g/\bx ≠ sb:=by omega
 have hwb:w.heap.size<=bx:=bm HZ4.out.2 hbx2;have hobb:ob+1 < bx:=by omega
 have hobw:w.heap.size<=ob:=Nat.le_of_eq HOB.out.symm;have HHE:=zh (show ae V5 (ob+1) 30 #[.int .i64 0]from hE7.below hB5 hE7.lt);have HP7:Hid (∀x,x∈lo1->cV w7 R' x.A x.v.n x.c x.v.z):=zh (fun x hx=>((HP4.out x hx).keep HK7.out (fun k hw hr=>HDIS.out k hw hr)).mono HR7.out.2);have HQ7:=zh (And.intro HT7.out.pk HT7.out.lv);have HH:=zh (And.intro hI5 (And.intro hR5 (And.intro hz5 (And.intro hbx HT7.out.lv))));have HDS:=zh HT7.out.dis;have HLN:=zh (show lo1.length+l7.length<=101 by have:=HLEN.out;have:=HL7.out;omega);clear hT5 hI5 hR5 hB5 hX5 hV5 hbx hO7 hE7 hM7 hKW7 hRob hcd7;go_wp2_with (go_at_call 52;refine(HFM.out).mono ?_;rintro e w3 ⟨rfl,rfl⟩);refine(wpIn_wide (n:=9)).1 ?_;refine fA rfl (by decide) (gf:=77) (lb:=#[.pointer (some ⟨bx,0,none⟩)]) rfl trivial (enters_of Tryz.func77 (by kernel_rfl) rfl)
  (r5 g s7 W R' sb l7 ub eb bx 8 (by decide) hbg.1 hbg.2) (fun _=>rfl) (fun A B k o h hk ho _ _=>h.same ho (by rintro (e | e)<;>omega))
  (sB w w7 w2.heap.size W R' ob bx lo1) (pR _ _ _ _ _ _ _ _ _ (by omega) (fun k hk=>by have:=hwl7 k hk;omega)) (fun pre A B h hk=>qw h hk (fun k e=>by
   rcases e with rfl | rfl
   ·exact⟨by omega,by omega,by omega,HWG.out.1,fun hr=>HDS.out _ HWG.out.1 hr⟩
   ·exact⟨by omega,by omega,by omega,HWG.out.2,fun hr=>HDS.out _ HWG.out.2 hr⟩))
  (fun _=>ja g s7 W R' sb l7 ub eb bx _ (by omega) (fun k hk=>by have:=hwl.1 k hk;omega) (fun k hk=>by have:=hwl7 k hk;omega)) HH.out.1
  (fun u A A' row h hg hr=>ja g s7 W R' sb l7 ub eb bx V5.heap.size (by omega) (fun k hk=>by have:=hwl.1 k hk;omega) (fun k hk=>by have:=hwl7 k hk;omega) [] A A' row h hg hr) HH.out.2.1 ?a1 ?assign ?body ?done
 case assign=>
  intro lp x Wa K hK
  gi_wp2
  simp only[SE.val]
  exact hK
 case body=>
  rintro lp i pre x Wb ⟨A2,c2,hO2,hS2,hA2,hK2,hE2,hJ2⟩ hR2;have hgs:=hK2.size;have hlen:(lo1++pre).length<=101:=by
   obtain⟨rest,e1,_⟩:=hR2;have h1:=HLN.out;have h2:=congrArg List.length e1;simp only[List.length_append,List.length_cons,List.length_nil]at h2 ⊢;omega
  obtain⟨i0,hi0,hz0,hz1,hz2⟩:=info_parts Tryz.infoSl;obtain⟨n2,hn2⟩:∃n,n=(lo1++pre).length:=⟨_,rfl⟩
  rw[<-hn2]at hO2 hS2 hlen;have hszb:=hR2.choose_spec.2.2.2.lt;have HN2:=zh hn2;have HOB2:=zh hO2;have HSB:=zh hS2;have HA2:=zh hA2;have HKK:=zh hK2;have HEB:=zh hE2;have HJB:=zh hJ2;have HRB:=zh hR2;have co:=hO2.cell 0;have co1:Wb.cell? ⟨ob,0,none⟩=some (.slice A2 n2 c2):=co;clear co hO2 hS2 hA2 hK2 hE2 hJ2 hR2 hn2 HH
  gi_wp2_with (gi_at_builtin;refine fM rfl _ _ 36 36 rfl _ 41 i0 (.slice none 0 0) 1 24 Tryz.underlying36 hi0 hz0 hz1 hz2 rfl A2 n2 c2 _ rfl (HSB.out.next ((Below.refl _ Wb).alloc ay _)) (.slice (some ⟨Wb.heap.size,0,none⟩) 1 1) rfl 1 [x.val] (ug Wb x.val rfl) (by omega) (by unfold maxLen;omega) (by omega) ?_;intro A3 c3 w6 hs6 hk6 ho6;have hE6:aa (fun k=>∃a,A2=some a/\k=a.block) Wb w6:=((aa.refl (w:=Wb)).alloc _).trans hk6 (fun k _ h=>h);have hc1:w6.cell? ⟨ob,0,none⟩=some (.slice A2 n2 c2):=(hE6.cell (p:=⟨ob,0,none⟩) HOB2.out.lt (by rintro ⟨a,ha,h⟩;have:=(HA2.out a ha).1;simp only at h;omega)).trans co1;have hf1:w6.frozen? ⟨ob,0,none⟩=false:=(hE6.blk HOB2.out (by rintro ⟨a,ha,h⟩;have:=(HA2.out a ha).1;omega)).frozen 0;have HS6:=zh hs6;have HE6:=zh hE6;have HO6:=zh ho6;clear hs6 hk6 ho6 hE6)
  have hk7:=aw w6 ob 0 (.slice A3 (n2+1) c3);have hE7:aa (fun k=>(∃a,A2=some a/\k=a.block)\/k=ob) Wb (w6.setCell ⟨ob,0,none⟩ (.slice A3 (n2+1) c3)):=(HE6.out.mono (fun _ h=>.inl h)).trans hk7 (fun k _ h=>.inr h);have hA6:∀a,A3=some a->w2.heap.size<=a.block/\a.block ≠ bx/\¬R' a.block:=fun a ha=>by
   rcases HO6.out a ha with ⟨a',h1,h2⟩ | h2
   ·rw[h2];exact HA2.out a' h1
   ·simp at h2;exact⟨by omega,by omega,fun hr=>by have:=hwl7 _ hr;omega⟩
  have hn3:(lo1++(pre++[x])).length=n2+1:=by rw[<-List.append_assoc,List.length_append,<-HN2.out];rfl
  have hmp:(lo1++(pre++[x])).map SE.val=(lo1++pre).map SE.val++[x.val]:=by rw[<-List.append_assoc,List.map_append];rfl
  refine⟨hE7.from2 _ (fun k o hf hk=>?k1),⟨A3,c3,?k2,?k3,hA6,?k4,?k7,?k8⟩,iM HRB.out hE7 (fun k hf=>?k5) (fun hf=>?k6)⟩
  case k1=>
   rcases hf with ⟨a,ha,rfl⟩ | rfl
   ·obtain⟨cur,hcur⟩:=HSB.out.obj ha;rw[hcur]at hk;cases hk;rfl
   ·rw[show Wb.heap[k]? = _ from HOB2.out]at hk;cases hk;rfl
  case k2=>
   rw[hn3]
   exact(HE6.out.blk HOB2.out (by rintro ⟨a,ha,h⟩;have:=(HA2.out a ha).1;omega)).set_ 0 _
  case k3=>
   rw[hn3,hmp]
   exact HS6.out.keepF hk7 (fun a ha e=>by have:=(hA6 a ha).1;omega)
  case k4=>
   exact HKK.out.trans hE7 (fun k hk h=>by
    rcases h with ⟨a,ha,rfl⟩ | rfl
    ·have:=(HA2.out a ha).1;omega
    ·omega)
  case k7=>
   exact hE7.blk HEB.out (by
    rintro (⟨a,ha,h⟩ | h)
    ·have:=(HA2.out a ha).1;omega
    ·omega)
  case k8=>
   exact HJB.out.trans hE7 (fun k hk h=>by
    rcases h with ⟨a,ha,rfl⟩ | rfl
    ·exact(HA2.out a ha).2.2
    ·exact HRO.out.1)
  case k5=>
   rcases hf with ⟨a,ha,rfl⟩ | rfl
   ·have:=(HA2.out a ha).1
    exact⟨fun hw=>by have:=hwl.1 _ hw;omega,(HA2.out a ha).2.2⟩
   ·exact⟨fun hw=>by have:=hwl.1 _ hw;omega,HRO.out.1⟩
  case k6=>
   rcases hf with ⟨a,ha,h⟩ | h
   ·exact(HA2.out a ha).2.1 h.symm
   ·omega
 case done=>
  rintro D i xs Wd hD hxs ⟨A2,c2,hO2,hS2,hA2,hK2,hE2,hJ2⟩ hR hDK;obtain⟨rest,hre,hxm,hTd⟩:=qQ hR hxs HQ7.out.2;have hro2:0<=s7.deliver_.2.C.ro/\s7.deliver_.2.C.ro<=1073741824:=by
   have:s7.deliver_.2.C=s.C:=HC7.out;rw[this];exact HP.out.2.2.1
  have HTM:=zh (qS g s7.deliver_.2 W R' sb rest ub eb Wd hTd hro2);obtain⟨n2,hn2⟩:∃n,n=(lo1++xs).length:=⟨_,rfl⟩
  rw[<-hn2]at hO2 hS2;have HN2:=zh hn2;have HOB2:=zh hO2;have HSB:=zh hS2;have HA2:=zh hA2;have HKK:=zh hK2;have HEB:=zh hE2;have HJB:=zh hJ2;have HDK:=zh hDK;have HRE:=zh (And.intro hre hxm);clear hO2 hS2 hA2 hK2 hR hTd hDK hn2 hro2 hre hxm HH hxs hE2 hJ2;have hgo1:ob ≠ g/\ob+1 ≠ g:=by omega
  go_wp2_with (go_at_call 53;refine(HTM.out).mono ?_;rintro e W6 ⟨rfl,hT6,hk6⟩;have co1:W6.cell? ⟨ob,0,none⟩=some (.slice A2 n2 c2):=(hk6.blk HOB2.out hgo1.1).cell 0;have fo1:=(hk6.blk HOB2.out hgo1.1).frozen 0;have ce1:W6.cell? ⟨ob+1,0,none⟩=some (.int .i64 0):=(hk6.blk HEB.out hgo1.2).cell 0;have fe1:=(hk6.blk HEB.out hgo1.2).frozen 0;have HT6:=zh hT6;have HK6:=zh hk6;clear hT6 hk6);obtain⟨Wa,hWa⟩:∃X,X=W6.setCell ⟨ob,0,none⟩ (.slice A2 n2 c2):=⟨_,rfl⟩
  obtain⟨Wb,hWb⟩:∃X,X=Wa.setCell ⟨ob+1,0,none⟩ (.int .i64 0):=⟨_,rfl⟩
  have ka:aa (fun k=>k=ob) W6 Wa:=by rw[hWa];exact aw W6 ob 0 _
  have kb:aa (fun k=>k=ob+1) Wa Wb:=by rw[hWb];exact aw Wa (ob+1) 0 _
  have oa:ae Wa ob 36 #[.slice A2 n2 c2]:=by rw[hWa];exact(HK6.out.blk HOB2.out hgo1.1).set_ 0 _
  have eb1:ae Wb (ob+1) 30 #[.int .i64 0]:=by rw[hWb];exact(ka.blk (HK6.out.blk HEB.out hgo1.2) (by omega)).set_ 0 _
  have ob1:=kb.blk oa (by omega);rw[<-hWa,<-hWb];have kc:=aa.of_putObj Wb D (.deferred none);have hDb:Wb.heap[D]? = some (.deferred (some [])):=kb.same (ka.same (HK6.out.same HDK.out (by omega)) (by omega)) (by omega);refine⟨by simp,.inl ⟨_,_,rfl,run_takeDeferred hDb,?_⟩⟩;refine⟨by simp,.inr ⟨fun h=>(by cases h),_,_,50,#[.pointer (some ⟨ob+1,0,none⟩)],rfl,by simp[go_sem],fun g _=>trivial,?_⟩⟩;refine(jh ⟨ob+1,0,none⟩ _).mono ?_;rintro en u' w'' ⟨rfl,rfl,rfl⟩;have y1:(Wb.putObj D (.deferred none)).cell? ⟨ob,0,none⟩=some (.slice A2 n2 c2):=(kc.blk ob1 (by omega)).cell 0;have y2:(Wb.putObj D (.deferred none)).cell? ⟨ob+1,0,none⟩=some (.int .i64 0):=(kc.blk eb1 (by omega)).cell 0;have kall:aa (fun k=>k=ob\/k=ob+1\/k=D) W6 (Wb.putObj D (.deferred none)):=((ka.mono (fun _ h=>.inl h)).trans kb (fun _ _ h=>.inr (.inl h))).trans kc (fun _ _ h=>.inr (.inr h));have hDR:∀k,(k=ob\/k=ob+1\/k=D)->¬W k/\¬R' k:=fun k hk=>by
   rcases hk with rfl | rfl | rfl
   ·exact⟨HWO.out.1,HRO.out.1⟩
   ·exact⟨HWO.out.2.1,HRO.out.2⟩
   ·exact⟨fun hw=>by have:=hwl.1 _ hw;omega,fun hr=>by have:=hwl7 _ hr;omega⟩
  have hJ6:aa (fun k=>¬R' k) w7 (Wb.putObj D (.deferred none)):=(HJB.out.trans HK6.out (fun k _ e hr=>by rw[e]at hr;exact HDS.out _ HWG.out.1 hr)).trans kall (fun k _ e hr=>(hDR k e).2 hr);refine⟨.tuple #[.slice A2 n2 c2,.int .i64 0],by simp[results,Tryz.results27,go_sem,y1,y2],?_⟩;refine⟨R',rest,A2,c2,lo1++xs,by rw[HX,HN2.out],⟨?o1,?o2⟩,?o3,?o4,?o5,?o6,HR7.out.2,?o7⟩
  case o1=>
   rw[<-HN2.out];refine(HSB.out.keepF HK6.out (fun a ha e=>by have:=(HA2.out a ha).1;omega)).keepF kall (fun a ha e=>?_);have h1:=(HA2.out a ha).1;rcases e with e | e | e
   ·omega
   ·omega
   ·obtain⟨cur,hcur⟩:=HSB.out.obj ha;rw[e,HDK.out]at hcur;cases hcur
  case o2=>exact fun a ha=>by have:=(HA2.out a ha).1;have:=HZ4.out.2;omega
  case o3=>rw[HX,List.map_append,HRE.out.2,HM1.out.2.1]
  case o4=>
   intro x hx;rcases List.mem_append.1 hx with h | h
   ·exact(HP7.out x h).keep hJ6 (fun k hk hr=>hk hr)
   ·exact(HQ7.out.1 x (by rw[HRE.out.1];exact List.mem_append.2 (.inl h))).keep hJ6 (fun k hk hr=>hk hr)
  case o5=>
   rw[HX]
   exact HT6.out.keepF kall hDR
  case o6=>
   intro k hr;rcases HR7.out.1 k hr with h | h
   ·exact .inl h
   ·exact .inr (by have:=HZ4.out.1;have:=HZ4.out.2;omega)
  case o7=>
   exact(HKK.out.trans HK6.out (fun k _ e=>by rw[e];exact HWG.out.1)).trans kall (fun k hk e=>by omega)
end Go.Proofs.YtbfpdnnphdagjaaGreat
namespace Go.Proofs.YtbfpdnnphdagjaaGreat
open Go.RowKit
attribute [local go_sem ↓] Go.wp_at_zero Go.wp_at_succ
theorem oF (g:Nat) (C:aq) (hok:C.Ok) (hv:C.Valid) (hcm:C.cm=false):i5 g C:=by
 cases hig:C.ig with
 | false=>exact lB g C hok hv hig hcm
 | true=>
  intro s W R V hC hI ct hct A n c z h1 h9 hr hz;subst hC
  exact p6 oS g s W R V hI hok hv hig hcm ct hct A n c z h1 h9 hr hz
end Go.Proofs.YtbfpdnnphdagjaaGreat
namespace Go.Proofs.YtbfpdnnphdagjaaGreat
open Go.RowKit
def ga (A:Option Addr) (k:Nat):Prop:=∃a,A=some a/\k=a.block
theorem el.winr {w:World} {g:Nat} {s:TS} {W R:Nat->Prop} (h:el w g s W R):(∀k,W k->k < w.heap.size)/\∀k,R k->k < w.heap.size:=by
 obtain⟨qA,qc,lq,pA,pc,lp,ub,cb,h⟩:=h
 exact⟨h.win,h.rin⟩
def eJ (g:Nat) (s:TS):Ag where
 P w O:=∃W R,el w g s W R/\∀k,O k↔(W k\/R k)
 keep:=fun⟨W,R,h1,h2⟩ hk hF=>⟨W,R,h1.keepF hk (fun k hf=>⟨fun hw=>hF k hf ((h2 k).2 (.inl hw)),fun hr=>hF k hf ((h2 k).2 (.inr hr))⟩),h2⟩
 lt:=fun⟨W,R,h1,h2⟩ k hk=>by
  rcases (h2 k).1 hk with h | h
  ·exact h1.winr.1 k h
  ·exact h1.winr.2 k h
def fT (g:Nat) (s:RS) (A:Option Addr) (c:Nat) (vs:List SV):Ag where
 P w O:=∃W R sb l ub eb,aE w g s W R sb l ub eb/\LL w 0 A c vs R/\(∀a,A=some a->¬W a.block)/\∀k,O k↔(W k\/R k\/ga A k)
 keep:=fun⟨W,R,sb,l,ub,eb,h1,h2,h3,h4⟩ hk hF=>⟨W,R,sb,l,ub,eb,h1.keepF hk (fun k hf=>⟨fun hw=>hF k hf ((h4 k).2 (.inl hw)),fun hr=>hF k hf ((h4 k).2 (.inr (.inl hr)))⟩),h2.keep hk (fun k hf hr=>hF k hf ((h4 k).2 (.inr (.inl hr)))) (fun a ha hf=>hF _ hf ((h4 _).2 (.inr (.inr ⟨a,ha,rfl⟩)))),h3,h4⟩
 lt:=fun⟨W,R,sb,l,ub,eb,h1,h2,h3,h4⟩ k hk=>by
  rcases (h4 k).1 hk with h | h | ⟨a,ha,e⟩
  ·exact h1.win k h
  ·exact h1.rin k h
  ·rw[e];exact h2.lt ha
def wN (g:Nat) (s:RS) (A:Option Addr) (c:Nat) (vs:List SV) (A1:Option Addr) (c1:Nat) (lo:List SE):Ag where
 P w O:=∃W R sb l ub eb,aE w g s W R sb l ub eb/\LL w 0 A c vs R/\(∀a,A=some a->¬W a.block)/\SL w 41 1 A1 lo.length c1 (lo.map SE.val)/\(∀x,x∈lo->cV w R x.A x.v.n x.c x.v.z)/\(∀a a',A1=some a->A=some a'->a.block ≠ a'.block)/\∀k,O k↔(W k\/R k\/ga A k\/ga A1 k)
 keep:=fun⟨W,R,sb,l,ub,eb,h1,h2,h3,h4,h5,h6,h7⟩ hk hF=>⟨W,R,sb,l,ub,eb,h1.keepF hk (fun k hf=>⟨fun hw=>hF k hf ((h7 k).2 (.inl hw)),fun hr=>hF k hf ((h7 k).2 (.inr (.inl hr)))⟩),h2.keep hk (fun k hf hr=>hF k hf ((h7 k).2 (.inr (.inl hr)))) (fun a ha hf=>hF _ hf ((h7 _).2 (.inr (.inr (.inl ⟨a,ha,rfl⟩))))),h3,h4.keepF hk (fun a ha hf=>hF _ hf ((h7 _).2 (.inr (.inr (.inr ⟨a,ha,rfl⟩))))),fun x hx=>(h5 x hx).keep hk (fun k hf hr=>hF k hf ((h7 k).2 (.inr (.inl hr)))),h6,h7⟩
 lt:=fun⟨W,R,sb,l,ub,eb,h1,h2,h3,h4,h5,h6,h7⟩ k hk=>by
  rcases (h7 k).1 hk with h | h | ⟨a,ha,e⟩ | ⟨a,ha,e⟩
  ·exact h1.win k h
  ·exact h1.rin k h
  ·rw[e];exact h2.lt ha
  ·rw[e];exact h4.lt ha
def we (A:Option Addr) (c:Nat) (vs:List SV):Ag where
 P w O:=∃R,LL w 0 A c vs R/\(∀k,R k->k < w.heap.size)/\∀k,O k↔(R k\/ga A k)
 keep:=fun⟨R,h1,h2,h3⟩ hk hF=>⟨R,h1.keep hk (fun k hf hr=>hF k hf ((h3 k).2 (.inl hr))) (fun a ha hf=>hF _ hf ((h3 _).2 (.inr ⟨a,ha,rfl⟩))),fun k hr=>bC (h2 k hr) hk.size,h3⟩
 lt:=fun⟨R,h1,h2,h3⟩ k hk=>by
  rcases (h3 k).1 hk with h | ⟨a,ha,e⟩
  ·exact h2 k h
  ·rw[e];exact h1.lt ha
def bg (b:Nat) (t:TypeId) (cs:Array Value):Ag where
 P w O:=ae w b t cs/\∀k,O k↔k=b
 keep:=fun⟨h1,h2⟩ hk hF=>⟨hk.blk h1 (fun hf=>hF b hf ((h2 b).2 rfl)),h2⟩
 lt:=fun⟨h1,h2⟩ k hk=>by rw[(h2 k).1 hk];exact h1.lt
def vM (A:Option Addr) (n:Nat) (z:Nat->Nat):Ag where
 P w O:=az w w.heap.size A n (fun j=>.int .u8 ((z j:Nat):Int))/\(∀a,A=some a->a.block < w.heap.size)/\∀k,O k↔ga A k
 keep:=fun⟨h1,h2,h3⟩ hk hF=>⟨(hk.row h1 ay (fun a e _ hf=>hF _ hf ((h3 _).2 ⟨a,e,rfl⟩))).more hk.size,fun a ha=>bC (h2 a ha) hk.size,h3⟩
 lt:=fun⟨h1,h2,h3⟩ k hk=>by
  obtain⟨a,ha,e⟩:=(h3 k).1 hk;rw[e];exact h2 a ha
section
variable {w0 w w' V:World} {n:Nat} {A:Nat->Ag} {i:Nat}
theorem ao.tx (h:ao w0 w n A) (hi:i < n) {g:Nat} {s:TS} (hA:A i=eJ g s):∃W R,el w g s W R/\(∀k,W k->w0.heap.size<=k)/\∀(w':World) (s':TS),iH W R w w' g s'->ao w0 w' n (bk A i (eJ g s')):=by
 obtain⟨O,h1,h2,_,h3⟩:=h.at_ hi;rw[hA]at h1;obtain⟨W,R,t1,t2⟩:=h1;refine⟨W,R,t1,fun k hk=>h2 k ((t2 k).2 (.inl hk)),fun w' s' ⟨W',R',o1,o2,o3,o4⟩=>h3 (eJ g s') (fun k=>W' k\/R' k) w' ⟨W',R',o1,fun k=>Iff.rfl⟩ (o4.mono (fun k hk=>(t2 k).2 (.inl hk))) (fun k hk=>?_)⟩;rcases hk with hk | hk
 ·exact(o2 k hk).imp (fun h=>(t2 k).2 (.inl h)) id
 ·exact(o3 k hk).imp (fun h=>(t2 k).2 (.inr h)) id
theorem ao.next (h:ao w0 w n A) (hi:i < n) {g:Nat} {s:TS} (hA:A i=eJ g s) (hf:s.Fine) (hcm:s.C.cm=false) (hpl:s.P.length<=1000000) :
  Calls Tryz.prog 26 #[.pointer (some ⟨g,0,none⟩),.int .i64 0] w fun e w'=>∃B c,e=.returned (.tuple #[.slice B (s.send 0).n c,.int .u32 (s.send 0).ct,.int .i64 (s.send 0).e])/\(s.send 0).n<=c/\ao w0 w' (n+1) (bk (bk A i (eJ g (s.send 0).s)) n (vM B (s.send 0).n (s.send 0).z)):=by
 obtain⟨O,h1,h2,h3⟩:=h.two hi;rw[hA]at h1;obtain⟨W,R,t1,t2⟩:=h1;refine(tf g s W R w t1 hf 0 (by decide) (by decide) (oF g s.C hf.ok hf.val hcm) hpl).mono ?_;rintro e w' ⟨B,c,W',R',rfl,hc,hr,o1,o2,o3,o4,o5⟩;refine⟨B,c,rfl,hc,h3 _ _ (fun k=>W' k\/R' k) (ga B) w' ⟨W',R',o1,fun k=>Iff.rfl⟩ ⟨hr,fun a ha=>?_,fun k=>Iff.rfl⟩ (o4.mono (fun k hk=>(t2 k).2 (.inl hk))) (fun k hk=>?_) (fun k hk=>?_)⟩
 ·obtain⟨_,_,_,cur,t,hx⟩:=o5 a ha
  exact(Array.getElem?_eq_some_iff.1 hx).1
 ·rcases hk with hk | hk
  ·exact(o2 k hk).imp (fun h=>(t2 k).2 (.inl h)) id
  ·exact(o3 k hk).imp (fun h=>(t2 k).2 (.inr h)) id
 ·obtain⟨a,ha,e⟩:=hk;have h6:=o5 a ha;rw[e]
  exact⟨h6.1,fun hx=>hx.elim h6.2.1 h6.2.2.1⟩
theorem ao.recv (h:ao w0 w (n+1) A) (hi:i < n) {g:Nat} {s:RS} {B:Option Addr} {c:Nat} {vs:List SV} (hA:A i=fT g s B c vs) {D:Option Addr} {m:Nat} {z:Nat->Nat} (hD:A n=vM D m z) (cD:Nat) (hok:s.C.Ok) (hv:s.C.Valid) (hcm:s.C.cm=false) (hl:s.L.length<=100) (hrun:s.run=false) (hdup:s.dup < 4611686018427387903) (hm:m<=9000) (hmc:m<=cD) (hz:∀j,j < m->z j < 256) :
  Calls Tryz.prog 27 #[.pointer (some ⟨g,0,none⟩),.int .i64 0,.slice D m cD] w fun e w'=>∃A1 c1 lo,e=.returned (.tuple #[.slice A1 lo.length c1,.int .i64 (s.receive 0 m z).2.1])/\lo.map (·.v)=(s.receive 0 m z).1/\ao w0 w' (n+1) (bk A i (wN g (s.receive 0 m z).2.2 B c vs A1 c1 lo)):=by
 obtain⟨O,h1,h2,h4,h3⟩:=h.at_ (i:=i) (by omega);rw[hA]at h1;obtain⟨W,R,sb,l,ub,eb,t1,t2,t3,t4⟩:=h1;obtain⟨On,p1,p2⟩:=h4 n (by omega) (by omega);rw[hD]at p1;obtain⟨p3,p4,p5⟩:=p1;have hll:l.length=s.L.length:=by rw[<-t1.lv,List.length_map]
 refine(mz g s W R sb l ub eb w t1 hok hcm hv.2.2.2.2.2 (by omega) hrun hdup 0 D m cD z (by omega) hmc hz p3 (fun a ha hw=>p2 a.block ((t4 _).2 (.inl hw)) ((p5 _).2 ⟨a,ha,rfl⟩)) (mG g s.C W R sb ub eb D m cD z hok hv hmc hz)).mono ?_;rintro e w' ⟨R',l',A1,c1,lo,rfl,hO,hm',hp,hT,hR1,hR2,hK⟩;refine⟨A1,c1,lo,rfl,hm',h3 _ (fun k=>W k\/R' k\/ga B k\/ga A1 k) w' ⟨W,R',sb,l',ub,eb,hT,(t2.keep hK (fun k hw hr=>t1.dis k hw hr) (fun a ha hw=>t3 a ha hw)).more hR2 (fun a ha hr=>?_),t3,hO.1,hp,fun a a' ha ha' e=>?_,fun k=>Iff.rfl⟩ (hK.mono (fun k hw=>(t4 k).2 (.inl hw))) (fun k hk=>?_)⟩
 ·rcases hR1 _ hr with hr | hr
  ·exact(t2.blk a ha).2 hr
  ·have:=t2.lt ha;omega
 ·have h5:=hO.2 a ha;have h6:=t2.lt ha';omega
 ·rcases hk with hk | hk | hk | ⟨a,ha,e⟩
  ·exact .inl ((t4 k).2 (.inl hk))
  ·exact(hR1 k hk).imp (fun h=>(t4 k).2 (.inr (.inl h))) id
  ·exact .inl ((t4 k).2 (.inr (.inr hk)))
  ·have:=hO.2 a ha
   exact .inr (by omega)
theorem ao.push (h:ao w0 w n A) (hi:i < n) {g:Nat} {s:RS} {B:Option Addr} {c:Nat} {vs:List SV} {A1:Option Addr} {c1:Nat} {lo:List SE} (hA:A i=wN g s B c vs A1 c1 lo):∃xs:List Value,SL w 41 1 B vs.length c xs/\SL w 41 1 A1 lo.length c1 (lo.map SE.val)/\∀(B':Option Addr) (c':Nat) (w':World),SL w' 41 1 B' (vs.length+lo.length) c' (xs++lo.map SE.val)->aa (fun k=>∃a,B=some a/\k=a.block) w w'->(∀a,B'=some a->(∃a',B=some a'/\a.block=a'.block)\/w.heap.size<=a.block)->ao w0 w' n (bk A i (fT g s B' c' (vs++lo.map (·.v)))):=by
 obtain⟨O,h1,h2,_,h3⟩:=h.at_ hi;rw[hA]at h1;obtain⟨W,R,sb,l,ub,eb,t1,t2,t3,t4,t5,t6,t7⟩:=h1;obtain⟨⟨lx,e1,e2,e3⟩,hb⟩:=t2;have t2:LL w 0 B c vs R:=⟨⟨lx,e1,e2,e3⟩,hb⟩
 refine⟨lx.map SE.val,e2,t4,fun B' c' w' hS hK ha=>?_⟩;have hL:=t2.push (fun k hr=>t1.rin k hr) (Nat.zero_le _) e1 e3 t5 hS hK ha;refine h3 _ (fun k=>W k\/R k\/ga B' k) w' ⟨W,R,sb,l,ub,eb,t1.keepF hK (fun k ⟨a,e,hk⟩=>by rw[hk];exact⟨t3 a e,(hb a e).2⟩),hL,fun a e hw=>?_,fun k=>Iff.rfl⟩ (hK.mono (fun k ⟨a,e,hk⟩=>(t7 k).2 (.inr (.inr (.inl ⟨a,e,hk⟩))))) (fun k hk=>?_)
 ·rcases ha a e with ⟨a',e',hb'⟩ | hb'
  ·rw[hb']at hw;exact t3 a' e' hw
  ·have:=t1.win _ hw;omega
 ·rcases hk with hk | hk | ⟨a,e,hk⟩
  ·exact .inl ((t7 k).2 (.inl hk))
  ·exact .inl ((t7 k).2 (.inr (.inl hk)))
  ·rcases ha a e with ⟨a',e',hb'⟩ | hb'
   ·exact .inl ((t7 k).2 (.inr (.inr (.inl ⟨a',e',by rw[hk,hb']⟩))))
   ·exact .inr (by omega)
theorem ao.put (h:ao w0 w n A) (hi:i < n) {b:Nat} {t:TypeId} {cs:Array Value} (hA:A i=bg b t cs) (o:Nat) (v:Value):ao w0 (w.setCell ⟨b,o,none⟩ v) n (bk A i (bg b t (cs.setIfInBounds o v))):=by
 obtain⟨O,h1,h2,_,h3⟩:=h.at_ hi;rw[hA]at h1;obtain⟨t1,t2⟩:=h1
 exact h3 _ (fun k=>k=b) _ ⟨t1.set_ o v,fun k=>Iff.rfl⟩ ((aw w b o v).mono (fun k hk=>(t2 k).2 hk)) (fun k hk=>.inl ((t2 k).2 hk))
theorem ao.blk (h:ao w0 w n A) (hi:i < n) {b:Nat} {t:TypeId} {cs:Array Value} (hA:A i=bg b t cs):ae w b t cs:=by
 obtain⟨O,h1,h2,_,h3⟩:=h.at_ hi;rw[hA]at h1
 exact h1.1
theorem ao.rx (h:ao w0 w n A) (hi:i < n) {g:Nat} {s:RS} {B:Option Addr} {c:Nat} {vs:List SV} (hA:A i=fT g s B c vs):∃W R sb l ub eb,aE w g s W R sb l ub eb/\l.length=s.L.length/\∀(w':World) (s':RS),aE w' g s' W R sb l ub eb->aa W w w'->ao w0 w' n (bk A i (fT g s' B c vs)):=by
 obtain⟨O,h1,h2,_,h3⟩:=h.at_ hi;rw[hA]at h1;obtain⟨W,R,sb,l,ub,eb,t1,t2,t3,t4⟩:=h1;refine⟨W,R,sb,l,ub,eb,t1,by rw[<-t1.lv,List.length_map],fun w' s' hT hK=>h3 _ O w' ⟨W,R,sb,l,ub,eb,hT,t2.keep hK (fun k hw hr=>t1.dis k hw hr) (fun a ha hw=>t3 a ha hw),t3,t4⟩ (hK.mono (fun k hw=>(t4 k).2 (.inl hw))) (fun k hk=>.inl hk)⟩
end
structure fO where
 cf:aq
 N:Nat
 q:Nat
 Pd:Nat->Bool
 Rp:Nat->Bool
 S:Nat->Bool
 d:Nat
 ts:TS
 rs:RS
 vs:List SV
structure tM (pn:Nat->Nat) (z:Nat->Nat->Int):Prop where
 n:∀k,1<=pn k/\pn k<=60
 b:∀k j,0<=z k j/\z k j < 256
structure bU (pn:Nat->Nat) (z:Nat->Nat->Int) (K:Nat) (x:fO) (M:Nat):Prop where
 ok:x.cf.Ok
 val:x.cf.Valid
 cm:x.cf.cm=false
 ac:x.cf.ac=true
 ds:x.cf.ds=0
 ro:x.cf.ro=0
 t:DT x.cf pn z x.N x.q x.Pd x.Rp x.ts
 r:DR x.cf pn z x.S x.d x.rs
 ol:x.vs.length=x.d
 ov:∀i v,x.vs[i]? = some v->tQ pn z i v
 cov:∀k,k < x.N->x.S k=true\/x.Pd k=true
 sub:∀k,x.S k=true->k < x.N
 dup:x.rs.dup<=M
 gt:gw K x.ts.used
 gr:gw K x.rs.used
 co:dR x.ts.comp
 kt:af x.cf.key∈x.ts.used
 kr:af x.cf.key∈x.rs.used
def fO.T (x:fO):Nat->Bool:=rW x.N x.q x.Pd x.Rp
theorem mV (s:TS) (t:Int) (n:Nat) (z:Nat->Int):(s.submit t n z).2.used=s.used/\(s.submit t n z).2.comp=s.comp:=by
 unfold TS.submit
 split
 ·exact⟨rfl,rfl⟩
 split
 ·exact⟨rfl,rfl⟩
 split<;>exact⟨rfl,rfl⟩
theorem ke (s:TS) (t:Int):(s.send t).s.used=s.used/\(s.send t).s.comp=s.comp:=by
 unfold TS.send
 split
 ·exact⟨rfl,rfl⟩
 split
 ·exact⟨rfl,rfl⟩
 split
 ·exact⟨rfl,rfl⟩
 split
 ·exact⟨rfl,rfl⟩
 split<;>exact⟨rfl,rfl⟩
section
variable {pn:Nat->Nat} {z:Nat->Nat->Int} {x:fO} {K M:Nat}
theorem bU.more (h:bU pn z K x M) {M':Nat} (hm:M<=M'):bU pn z K x M':=⟨h.ok,h.val,h.cm,h.ac,h.ds,h.ro,h.t,h.r,h.ol,h.ov,h.cov,h.sub,by have:=h.dup;omega,h.gt,h.gr,h.co,h.kt,h.kr⟩
theorem bU.next (h:bU pn z K x M) (hN:x.N+x.q<=900) :
  ((∀j,x.T j=false)/\∃s',x.ts.send 0=⟨0,zB,0,10,s'⟩/\bU pn z K { x with ts:=s' } M)\/
  ∃k x',x.ts.send 0=⟨aY x.cf (pn k),bn x.cf k (pn k) (nf (z k)),(k:Int),0,x'.ts⟩/\bU pn z K x' M/\x'.rs=x.rs/\x'.S=x.S/\x'.vs=x.vs/\x'.cf=x.cf/\x'.d=x.d/\x'.N+x'.q=x.N+x.q/\x.N<=x'.N/\k < x'.N/\x.T k=true/\∀j,x'.T j=(x.T j && !decide (j=k)):=by
 rcases h.t.send h.ac h.ds (by omega)with ⟨h1,s',h2,h3⟩ | ⟨k,s',N',q',Pd',Rp',h1,h2,h3,h4,h5,h6,h7,h8,h9⟩
 ·have hk:=ke x.ts 0;rw[h2]at hk
  exact .inl ⟨h1,s',h2,⟨h.ok,h.val,h.cm,h.ac,h.ds,h.ro,h3,h.r,h.ol,h.ov,h.cov,h.sub,h.dup,by show gw K s'.used;rw[hk.1];exact h.gt,h.gr,by show dR s'.comp;rw[hk.2];exact h.co,by show af x.cf.key∈s'.used;rw[hk.1];exact h.kt,h.kr⟩⟩
 ·have hk:=ke x.ts 0;rw[h1]at hk;refine .inr ⟨k,{ x with N:=N',q:=q',Pd:=Pd',Rp:=Rp',ts:=s' },h1,⟨h.ok,h.val,h.cm,h.ac,h.ds,h.ro,h2,h.r,h.ol,h.ov,fun j hj=>?_,fun j hj=>?_,h.dup,by show gw K s'.used;rw[hk.1];exact h.gt,h.gr,by show dR s'.comp;rw[hk.2];exact h.co,by show af x.cf.key∈s'.used;rw[hk.1];exact h.kt,h.kr⟩,rfl,rfl,rfl,rfl,rfl,h3,h4,h5,h6,h7⟩
  ·by_cases e:j < x.N
   ·rcases h.cov j e with h10 | h10
    ·exact .inl h10
    ·exact .inr ((h8 j e).trans h10)
   ·exact .inr (h9 j (by omega) hj)
  ·have:=h.sub j hj;show j < N';omega
theorem bU.recv (h:bU pn z K x M) (hp:tM pn z) (hlim:x.rs.limit<=x.rs.next) {k:Nat} (hk:k < x.N) (hN:x.N<=900) :
  ∃x' L,x.rs.receive 0 (aY x.cf (pn k)) (bn x.cf k (pn k) (nf (z k)))=(L,0,x'.rs)/\x'.vs=x.vs++L/\bU pn z K x' (M+1)/\x'.ts=x.ts/\x'.cf=x.cf/\x'.N=x.N/\x'.q=x.q/\x'.T=x.T/\x'.S=(fun j=>x.S j || decide (j=k)):=by
 have hpk:=hp.n k;obtain⟨d',s',L,h1,h2,h3,h4,h5,h6⟩:=h.r.recv hlim h.ok h.ro k (by omega) ⟨hpk.1,by omega⟩ (fun j _=>hp.b k j);have hk2:=(qP x.rs 0 (aY x.cf (pn k)) (bn x.cf k (pn k) (nf (z k)))).2.1;rw[h2]at hk2;refine⟨{ x with S:=fun j=>x.S j || decide (j=k),d:=d',rs:=s',vs:=x.vs++L },L,h2,rfl,⟨h.ok,h.val,h.cm,h.ac,h.ds,h.ro,h.t,h5,?_,fun i v hv=>?_,fun j hj=>?_,fun j hj=>?_,?_,h.gt,by show gw K s'.used;rw[hk2];exact h.gr,h.co,h.kt,by show af x.cf.key∈s'.used;rw[hk2];exact h.kr⟩,rfl,rfl,rfl,rfl,rfl,rfl⟩
 ·show(x.vs++L).length=d';rw[List.length_append,h.ol,h3];omega
 ·have hv':(x.vs++L)[i]? = some v:=hv;by_cases e:i < x.vs.length
  ·rw[List.getElem?_append_left e]at hv'
   exact h.ov i v hv'
  ·rw[List.getElem?_append_right (by omega)]at hv';have:=h4 _ v hv';rw[h.ol]at this e
   rwa [show x.d+(i-x.d)=i by omega]at this
 ·rcases h.cov j hj with h7 | h7
  ·exact .inl (by show(x.S j || decide (j=k))=true;rw[h7];rfl)
  ·exact .inr h7
 ·have hj':(x.S j || decide (j=k))=true:=hj;by_cases e:x.S j=true
  ·exact h.sub j e
  ·have:j=k:=by simpa[e]using hj'
   show j < x.N;omega
 ·show s'.dup<=((M+1:Nat):Int);have:=h.dup;omega
theorem bU.submit (h:bU pn z K x M) (hp:tM pn z):∃s',x.ts.submit 0 (pn (x.N+x.q)) (z (x.N+x.q))=(0,s')/\bU pn z K { x with q:=x.q+1,ts:=s' } M:=by
 have hpk:=hp.n (x.N+x.q);obtain⟨s',h1,h2⟩:=h.t.submit h.ds hpk.1 (by omega);have hk:=mV x.ts 0 (pn (x.N+x.q)) (z (x.N+x.q));rw[h1]at hk
 exact⟨s',h1,⟨h.ok,h.val,h.cm,h.ac,h.ds,h.ro,h2,h.r,h.ol,h.ov,h.cov,h.sub,h.dup,by show gw K s'.used;rw[hk.1];exact h.gt,h.gr,by show dR s'.comp;rw[hk.2];exact h.co,by show af x.cf.key∈s'.used;rw[hk.1];exact h.kt,h.kr⟩⟩
theorem uF {cf:aq} (hok:cf.Ok) (hv:cf.Valid) (hcm:cf.cm=false) (hac:cf.ac=true) (hds:cf.ds=0) (hro:cf.ro=0) (hk:cf.key=cN K) (X:Obj):bU pn z K ⟨cf,0,0,fun _=>false,fun _=>false,fun _=>false,0,fK cf,fe cf X,[]⟩ 0:=
 ⟨hok,hv,hcm,hac,hds,hro,vG hok hv,ve X,rfl,fun i v h=>(by cases h),fun k h=>by have:k < 0:=h;omega,fun k h=>(by cases h),Int.le_refl _,by show gw K [af cf.key];rw[hk];exact kC,by show gw K [af cf.key];rw[hk];exact kC,pf,by show af cf.key∈[af cf.key];simp,by show af cf.key∈[af cf.key];simp⟩
end
structure eY where
 x0:fO
 x1:fO
 t0:Nat
 t1:Nat
 r0:Nat
 r1:Nat
 o0:Option Addr
 co0:Nat
 o1:Option Addr
 co1:Nat
 i0:Option Addr
 ci0:Nat
 v0:List SV
 i1:Option Addr
 ci1:Nat
 v1:List SV
 keys:Nat
def eY.arr (L:eY):Array Value:=#[.pointer (some ⟨L.t0,0,none⟩),.pointer (some ⟨L.r1,0,none⟩),.pointer (some ⟨L.t1,0,none⟩),.pointer (some ⟨L.r0,0,none⟩),.slice L.i0 L.v0.length L.ci0,.slice L.i1 L.v1.length L.ci1,.slice L.o0 L.x0.vs.length L.co0,.slice L.o1 L.x1.vs.length L.co1,.int .i64 (L.keys:Int)]
def eY.ag (L:eY) (b:Nat):Nat->Ag
 | 0=>eJ L.t0 L.x0.ts
 | 1=>eJ L.t1 L.x1.ts
 | 2=>fT L.r0 L.x0.rs L.o0 L.co0 L.x0.vs
 | 3=>fT L.r1 L.x1.rs L.o1 L.co1 L.x1.vs
 | 4=>we L.i0 L.ci0 L.v0
 | 5=>we L.i1 L.ci1 L.v1
 | _=>bg b 39 L.arr
def Lk (w0 w:World) (b:Nat) (L:eY):Prop:=ao w0 w 7 (L.ag b)
theorem ao.to7 {w0 w:World} {n:Nat} {A:Nat->Ag} (h:ao w0 w n A) (hn:7<=n) (A':Nat->Ag) (h0:A' 0=A 0:=by rfl) (h1:A' 1=A 1:=by rfl) (h2:A' 2=A 2:=by rfl) (h3:A' 3=A 3:=by rfl) (h4:A' 4=A 4:=by rfl) (h5:A' 5=A 5:=by rfl) (h6:A' 6=A 6:=by rfl):ao w0 w 7 A':=
 (h.less hn).congr (fun j hj=>by
  rcases (by omega:j=0\/j=1\/j=2\/j=3\/j=4\/j=5\/j=6)with rfl | rfl | rfl | rfl | rfl | rfl | rfl
  ·exact h0
  ·exact h1
  ·exact h2
  ·exact h3
  ·exact h4
  ·exact h5
  ·exact h6)
section
variable {w0 w w':World} {b:Nat} {L:eY}
end
end Go.Proofs.YtbfpdnnphdagjaaGreat
