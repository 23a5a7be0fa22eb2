import Derived.Test.YtnadmdadcpemnaaGreatMWAq
import Derived.Test.YtnadmdadcpemnaaGreatMZOq
import Derived.Test.YtnadmdadcpemnaaGreatMDUq
set_option maxRecDepth 100000
set_option maxHeartbeats 12800000
namespace Go.Proofs.YtnadmdadcpemnaaGreat
set_option linter.unusedVariables false
set_option linter.unusedSimpArgs false
open Go.RowKit
attribute [local go_sem ↓] Go.wp_at_zero Go.wp_at_succ
theorem low_split (k:Int):∀(pre rest:List SV),(∀e,e∈pre->e.ct < k)->(∀e,e∈rest->k<=e.ct)->lowL k (pre++rest)=pre/\highL k (pre++rest)=rest:=fun pre rest h1 h2=>by
 unfold lowL highL;rw[List.filter_append,List.filter_append];refine⟨?_,?_⟩
 ·rw[List.filter_eq_self.2 (fun e he=>decide_eq_true (h1 e he)),List.filter_eq_nil_iff.2 (fun e he=>by have:=h2 e he;simp;omega),List.append_nil]
 ·rw[List.filter_eq_nil_iff.2 (fun e he=>by have:=h1 e he;simp;omega),List.filter_eq_self.2 (fun e he=>by have:=h2 e he;simp;omega),List.nil_append]
theorem deliver_len' (s:RS) (lo:List SE) (h:lo.map (·.v)=s.deliver_.1):lo.length<=s.L.length:=by
 have h1:=congrArg List.length h;rw[List.length_map]at h1;have h2:=congrArg List.length (fromL_app s.L s.deliver);rw[List.length_append]at h2;have h3:s.deliver_.1=(fromL s.L s.deliver).1:=rfl;rw[h3]at h1;omega
def VExpO (w:World) (h:Nat) (s:RS) (U:List (Nat->Int)) (M R:Nat->Prop) (l:List SE) (uA:Option Addr) (uc:Nat) (e:Ending) (w':World):Prop:=
 ∃A2 c2 lo A' c' l',e=.returned (.slice A2 lo.length c2)/\OutM w' w.heap.size A2 c2 lo/\lo.map (·.v)=s.expire.1/\(∀x,x∈lo->x∈l)/\VM w' h s.expire.2 U M R A' c' l' uA uc/\l'.length<=l.length/\KeepF (fun k=>k=h) w w'
theorem vexpire_ok (h:Nat) (s:RS) (U:List (Nat->Int)) (M R:Nat->Prop) (A:Option Addr) (c:Nat) (l:List SE) (uA:Option Addr) (uc:Nat) (w:World) (m:VM w h s U M R A c l uA uc) (hl:l.length<=250) (hro:0<=s.C.ro/\s.C.ro<=1073741824) (hdl:s.run=true->s.deliver<=s.limit) :
  Calls Tryz.prog 82 #[.pointer (some ⟨h,0,none⟩)] w (VExpO w h s U M R l uA uc):=by
 obtain⟨i0,hi0,hz0,hz1,hz2⟩:=info_parts Tryz.infoSl;have HM:=zh m;have HL:=zh hl;have HRO:=zh hro;have c43:=m.crun;have c39:=m.cnow;have c45:=m.cex;obtain⟨nw,hnw⟩:∃nw,nw=s.now:=⟨_,rfl⟩
 obtain⟨ex,hex⟩:∃ex,ex=s.expiry:=⟨_,rfl⟩
 rw[<-hnw]at c39;rw[<-hex]at c45;by_cases hgo:s.run=false\/nw < ex
 ·have HX:=zh (show s.expire=([],s) by unfold RS.expire;rw[if_pos (by rw[<-hnw,<-hex];exact hgo)]);clear m hl hro hdl hnw hex;rcases hgo with hgo | hgo
  ·rw[hgo]at c43;clear hgo;go_enter Tryz.func82,Tryz.ntmps82;go_upto_region 1 with (fail)
   go_quiet (fail);go_wp2;go_ret
   exact⟨none,0,[],A,c,l,rfl,⟨SL.nil _ _ _,fun a ha=>by cases ha⟩,by rw[HX.out];rfl,fun x hx=>by simp at hx,by rw[HX.out];first | exact HM.out | exact HM.out.below (below_drewN (Below.refl _ _) _),Nat.le_refl _,by first | exact KeepF.refl | exact KeepF.of_below (below_drewN (Below.refl _ _) _)⟩
  ·cases hr:s.run
   ·rw[hr]at c43;clear hr;go_enter Tryz.func82,Tryz.ntmps82;go_upto_region 1 with (fail)
    go_quiet (fail);go_wp2;go_ret
    exact⟨none,0,[],A,c,l,rfl,⟨SL.nil _ _ _,fun a ha=>by cases ha⟩,by rw[HX.out];rfl,fun x hx=>by simp at hx,by rw[HX.out];first | exact HM.out | exact HM.out.below (below_drewN (Below.refl _ _) _),Nat.le_refl _,by first | exact KeepF.refl | exact KeepF.of_below (below_drewN (Below.refl _ _) _)⟩
   ·rw[hr]at c43;clear hr;have hq:decide (nw < ex)=true:=decide_eq_true hgo;clear hgo;go_enter Tryz.func82,Tryz.ntmps82;go_upto_region 1 with (fail)
    go_quiet (fail);go_wp2;go_ret
    exact⟨none,0,[],A,c,l,rfl,⟨SL.nil _ _ _,fun a ha=>by cases ha⟩,by rw[HX.out];rfl,fun x hx=>by simp at hx,by rw[HX.out];first | exact HM.out | exact HM.out.below (below_drewN (Below.refl _ _) _),Nat.le_refl _,by first | exact KeepF.refl | exact KeepF.of_below (below_drewN (Below.refl _ _) _)⟩
 have hr:s.run=true:=by
  cases hr:s.run
  ·exact absurd (.inl hr) hgo
  ·rfl
 have hq:decide (nw < ex)=false:=decide_eq_false (fun h1=>hgo (.inr h1));have HDL:=zh (hdl hr);have HRT:=zh hr;have HEX:=zh (show ¬s.now < s.expiry by rw[<-hnw,<-hex];exact fun h1=>hgo (.inr h1));rw[hr]at c43;have f43:=m.fr 43;have T3:=zh (m.setRun false);clear m hl hro hdl hgo hr hnw hex;obtain⟨LM,hLM⟩:∃LM,LM=s.limit:=⟨_,rfl⟩
 have HLM:=zh hLM;clear hLM;go_enter Tryz.func82,Tryz.ntmps82;go_upto_region 1 with (fail)
 go_quiet (fail);go_upto_region 4 with (fail)
 refine wp_let (fun Y=>VM Y h { s with run:=false } U M R A c l uA uc/\KeepF (fun k=>k=h) w Y) ⟨by first | exact T3.out | exact(HM.out.below (below_drewN (Below.refl _ _) _)).setRun false,by first | exact keep_set w h 43 _ | exact(KeepF.of_below (below_drewN (Below.refl _ _) _)).trans (keep_set _ h 43 _) (fun _ _ h=>h)⟩ ?_;rintro Y0 ⟨x1,x2⟩;have HY0:=zh x1;have HYK:=zh x2;clear c43 c39 c45 f43 hq x1 x2;go_wp2;go_loopw [3] (fun v3 wr=>∃(pre rest:List SE) (A2:Option Addr) (c2:Nat) (A':Option Addr) (c':Nat),l=pre++rest/\v3=.slice A2 pre.length c2/\(∀e,e∈pre->e.v.ct < LM)/\VM wr h { s with run:=false,L:=rest.map (·.v) } U M R A' c' rest uA uc/\SL wr 35 1 A2 pre.length c2 (pre.map SE.val)/\(∀a,A2=some a->w.heap.size<=a.block)/\KeepF (fun k=>k=h) w wr) (fun v3 _=>l.length-sliceLen v3)
 case atStart=>exact⟨[],l,none,0,A,c,rfl,rfl,fun e he=>(by simp at he),by have:=HY0.out;rw[<-this.lv]at this;simpa[HM.out.lv]using this,SL.nil _ _ _,fun a ha=>(by cases ha),HYK.out⟩
 case round=>
  obtain⟨pre,rest,A2,c2,A',c',hlp,rfl,hct,hm,hs2,hA2,hk⟩:=hrel;have HV:=zh hm;have HLP:=zh hlp;have HCT:=zh hct;have HS2:=zh hs2;have HA2:=zh hA2;have HK:=zh hk;have z42:=hm.cq;have z44:wr.cell? ⟨h,44,none⟩=some (.int .u64 LM):=by rw[HLM.out];exact hm.clim
  have hnx:=hm.ok.next;have hdv:=hm.ok.deliver;obtain⟨pl,hpl⟩:∃pl,pl=pre.length:=⟨_,rfl⟩
  rw[<-hpl];have HPL:=zh hpl;have hlh:(∀e,e∈rest->LM<=e.v.ct)->lowL s.limit s.L=pre.map (·.v)/\highL s.limit s.L=rest.map (·.v):=fun hx=>by
   have hsL:s.L=pre.map (·.v)++rest.map (·.v):=by rw[<-HM.out.lv,hlp,List.map_append]
   rw[hsL];refine low_split _ _ _ (fun e he=>?_) (fun e he=>?_)
   ·obtain⟨x,hx1,rfl⟩:=List.mem_map.1 he;rw[<-HLM.out]
    exact hct x hx1
   ·obtain⟨x,hx1,rfl⟩:=List.mem_map.1 he;rw[<-HLM.out]
    exact hx x hx1
  have HLH0:=zh hlh;clear hlp hct hm hs2 hA2 hk hlh hpl
  cases rest with
  | nil=>
   simp only[List.length_nil]at z42;have HGE:=zh (show ∀e,e∈([]:List SE)->LM<=e.v.ct from fun e he=>by simp at he);have HLH:=zh (HLH0.out HGE.out);go_upto_region 5 with (fail)
   go_quiet (fail);clear z42 z44;go_upto_region 8 with (fail)
   refine wp_let (fun X=>Below wr.heap.size wr X) (by first | exact Below.refl _ _ | exact below_drewN (Below.refl _ _) _) ?_;rintro X hbX;have VX:=HV.out.below hbX;have SX:=HS2.out.next hbX;have KX:=HK.out.trans (KeepF.of_below hbX) (fun _ _ h=>h);rw[<-HPL.out]at SX;have y44:X.cell? ⟨h,44,none⟩=some (.int .u64 LM):=by rw[HLM.out];exact VX.clim
   have f40:=VX.fr 40;have y40:=VX.cd;have hlmn:0<=LM/\LM<=s.next:=by rw[HLM.out];exact HM.out.ok.limit
   have TX:=VX.setD LM hlmn HGE.out;have KY0:=KX.trans (keep_set X h 40 (.int .u64 LM)) (fun _ _ h=>h);have SY0:=SX.keepF (keep_set X h 40 (.int .u64 LM)) (fun a ha e=>by have:=HA2.out a ha;have:=HM.out.min _ HM.out.mh;omega);have HTX:=zh TX;have HKY0:=zh KY0;have HSY0:=zh SY0;clear hbX VX SX KX TX KY0 SY0 hlmn;go_upto_region 9 with (fail)
   refine wp_let (fun Y=>VM Y h { s with run:=false,L:=([]:List SE).map (·.v),deliver:=LM } U M R A' c' ([]:List SE) uA uc/\KeepF (fun k=>k=h) w Y/\SL Y 35 1 A2 pl c2 (pre.map SE.val)) ⟨HTX.out,HKY0.out,HSY0.out⟩ ?_;rintro Y ⟨x1,x2,x3⟩;have HY2:=zh x2;have HY3:=zh x3;have HRN:=zh (vrun_ok h _ U M R A' c' ([]:List SE) uA uc Y x1 (by have h1:=HL.out;rw[HLP.out,List.length_append]at h1;omega));have HZ:=zh x2.size;clear x1 x2 x3 y44 f40 y40;go_upto_region 10 with (first
    | (go_at_call 80;refine HRN.out.mono ?_;rintro e V ⟨A3,c3,lo,A4,c4,l4,rfl,hO,hlo,hsub,hV,hl4,hK3⟩;have HO:=zh hO;have HLO:=zh hlo;have HSUB:=zh hsub;have HV4:=zh hV;have HL4:=zh hl4;have HK3:=zh hK3;obtain⟨n3,hn3⟩:∃n3,n3=lo.length:=⟨_,rfl⟩;have HLL:=zh (show pl+n3<=250 by have h1:=deliver_len' _ lo hlo;have h2:=HL.out;rw[HLP.out,List.length_append,<-HPL.out]at h2;rw[List.length_map]at h1;omega);rw[<-hn3];have HN3:=zh hn3;clear hO hlo hsub hV hl4 hK3 hn3)
    | (refine wpList_sl_appendA rfl _ _ 34 34 rfl V 35 i0 (.slice none 0 0) 1 24 Tryz.underlying34 hi0 hz0 hz1 hz2 rfl A2 pl c2 (pre.map SE.val) rfl (HY3.out.keepF HK3.out (fun a ha e=>by have:=HA2.out a ha;have:=HM.out.min _ HM.out.mh;omega)) (.slice A3 n3 c3) rfl n3 (lo.map SE.val) (by rw[HN3.out];exact SL.srcN Tryz.underlying34 HO.out.1 (fun u hu=>by obtain⟨x,_,rfl⟩:=List.mem_map.1 hu;rfl)) (by have:=HLL.out;unfold maxLen;omega) (by have:=HLL.out;omega) ?_;intro A6 c6 V6 hs6 hk6 ha6;have HS6:=zh hs6;have HK6:=zh hk6;have HA6:=zh ha6;clear hs6 hk6 ha6))
   have hA6:∀a,A6=some a->w.heap.size<=a.block:=fun a ha=>by
    rcases HA6.out a ha with ⟨a',e,h1⟩ | h1
    ·rw[h1];exact HA2.out a' e
    ·have:=HK3.out.size;have:=HZ.out;omega
   have K7:=zh ((HY2.out.trans HK3.out (fun _ _ h=>h)).trans HK6.out (fun k hk ⟨a,ha,e⟩=>by have:=HA2.out a ha;omega));have HTM:=zh (vtimer_ok h _ U M R A4 c4 l4 uA uc V6 (HV4.out.keepF HK6.out (fun k ⟨a,ha,e⟩=>⟨fun hm=>by have:=HM.out.min k hm;have:=HA2.out a ha;omega,fun hr=>by have:=HM.out.rin k hr;have:=HA2.out a ha;omega⟩)) HRO.out);have HA6':=zh hA6;clear hA6;go_upto_region 11 with (go_at_call 81;refine HTM.out.mono ?_;rintro e V8 ⟨rfl,hV8,hK8⟩;have HV8:=zh hV8;have HK8:=zh hK8;clear hV8 hK8)
   go_wp2;go_ret;have hcut:s.cut={ s with run:=false,L:=([]:List SE).map (·.v),deliver:=LM }:=by
    unfold RS.cut;rw[HLH.out.2,HLM.out,Int.max_eq_right HDL.out]
   have hex:s.expire=(lowL s.limit s.L++s.cut.deliver_.1,s.cut.deliver_.2.timer):=by
    unfold RS.expire;rw[if_neg (fun h1=>h1.elim (fun h2=>absurd (h2.symm.trans HRT.out) (by decide)) (fun h2=>by have:=HEX.out;omega))]
   rw[hcut,HLH.out.1]at hex;have hn:(pre++lo).length=pl+n3:=by rw[List.length_append,<-HPL.out,<-HN3.out]
   refine⟨A6,c6,pre++lo,A4,c4,l4,by rw[hn];rfl,⟨?_,HA6'.out⟩,by rw[hex,List.map_append,HLO.out],fun x hx=>?_,by rw[hex];exact HV8.out,?_,K7.out.trans HK8.out (fun _ _ h=>h)⟩
   ·rw[hn,List.map_append]
    exact HS6.out.keepF HK8.out (fun a ha e=>by have:=HA6'.out a ha;have:=HM.out.min _ HM.out.mh;omega)
   ·rw[HLP.out];rcases List.mem_append.1 hx with h1 | h1
    ·exact List.mem_append.2 (.inl h1)
    ·exact List.mem_append.2 (.inr (HSUB.out x h1))
   ·have:=HL4.out;rw[HLP.out,List.length_append];omega
  | cons x r=>
   obtain⟨b,o,hAA,hb,k0,k1⟩:=HV.out.pcell (k:=0) (e:=x) rfl;rw[Nat.zero_mul,Nat.add_zero]at k0 k1;subst hAA;have hxr:=HV.out.rng x (by simp);have hbm:M b:=HV.out.ma _ rfl;obtain⟨ct,hct⟩:∃ct,ct=x.v.ct:=⟨_,rfl⟩
   obtain⟨PA,hPA⟩:∃PA,PA=x.A:=⟨_,rfl⟩
   obtain⟨pn,hpn⟩:∃pn,pn=x.v.n:=⟨_,rfl⟩
   obtain⟨pq,hpq⟩:∃pq,pq=x.c:=⟨_,rfl⟩
   obtain⟨rl,hrl⟩:∃rl,rl=(x :: r).length:=⟨_,rfl⟩
   have hlen:pl+rl<=250:=by
    have h1:=HL.out;rw[HLP.out,List.length_append,<-hrl,<-HPL.out]at h1
    exact h1
   have hr1:1<=rl:=by rw[hrl];simp
   have hxr1:s.deliver<=ct/\ct < s.next:=by rw[hct];exact hxr
   rw[<-hct]at k0;rw[<-hPA,<-hpn,<-hpq]at k1;rw[<-hrl]at z42;have hdl0:0<=s.deliver/\s.deliver<=s.next:=hdv;have hnx0:s.next<=4294967296:=hnx;have wct:IntKind.u64.wrap ct=ct:=by simp[IntKind.wrap_u64];omega
   have hrl0:decide (0 < rl)=true:=decide_eq_true (by omega);have HLT:=zh (And.intro hct (And.intro hPA (And.intro hpn (And.intro hpq hrl))));have HBD:=zh (And.intro hlen hr1);have HBM:=zh hbm;clear hct hPA hpn hpq hrl hxr hbm hlen hxr1 hdl0 hnx0;by_cases he:ct < LM
   ·have hq:decide (ct < LM)=true:=decide_eq_true he;have HE:=zh he;clear he;go_upto_region 5 with (fail)
    go_quiet (fail);go_upto_region 6 with (fail)
    refine wp_let (fun X=>Below wr.heap.size wr X) (by first | exact Below.refl _ _ | exact below_drewN (Below.refl _ _) _) ?_;rintro X hbX;have VX:=zh (HV.out.below hbX);have SX:=zh (HS2.out.next hbX);have KX:=zh (HK.out.trans (KeepF.of_below hbX) (fun _ _ h=>h));have y42:X.cell? ⟨h,42,none⟩=some (.slice (some ⟨b,o,none⟩) rl c'):=(hbX.cell (p:=⟨h,42,none⟩) HV.out.blk.lt).trans z42;have y1:X.cell? ⟨b,o+1,none⟩=some (.slice PA pn pq):=(hbX.cell (p:=⟨b,o+1,none⟩) hb).trans k1;rw[<-HPL.out]at SX;have p9:(rl:Int)<=250:=by have:=HBD.out.1;omega
    have p8:(1:Int)<=(rl:Int):=by have:=HBD.out.2;omega
    clear z42 z44 k0 k1 hbX hq;go_upto_region 7 with (refine wpList_sl_append rfl _ _ 34 34 rfl _ 35 i0 (.slice none 0 0) 1 24 Tryz.underlying34 hi0 hz0 hz1 hz2 rfl A2 pl c2 (pre.map SE.val) rfl (SX.out.next (bnA _)) (.slice (some ⟨X.heap.size,0,none⟩) 1 1) rfl 1 [.slice PA pn pq] (src_new X _ rfl) (by omega) (by have:=HBD.out.1;unfold maxLen;omega) (by have:=HBD.out.1;omega) ?_;intro A6 c6 V6 hs6 hk6 ha6;have HS6:=zh hs6;have HK6:=zh hk6;have HA6:=zh ha6;clear hs6 hk6 ha6)
    have hbA:Below X.heap.size X (X.alloc (.cells #[.slice PA pn pq] 35)):=bnA _;have hsz:w.heap.size<=X.heap.size:=KX.out.size;have hk6':KeepF (fun k=>w.heap.size<=k) X V6:=(KeepF.of_below hbA).trans HK6.out (fun k _ ⟨a,ha,e⟩=>by rw[e];exact HA2.out a ha);have V6M:=zh (VX.out.keepF hk6' (fun k hk=>⟨fun hm=>by have:=HM.out.min k hm;omega,fun hr=>by have:=HM.out.rin k hr;omega⟩));have hA6:∀a,A6=some a->w.heap.size<=a.block:=fun a ha=>by
     rcases HA6.out a ha with ⟨a',e,h1⟩ | h1
     ·rw[h1];exact HA2.out a' e
     ·have:=hbA.size;omega
    have HA6':=zh hA6;have K6:=zh (KX.out.trans hk6' (fun k hk h1=>by omega));have y42':V6.cell? ⟨h,42,none⟩=some (.slice (some ⟨b,o,none⟩) rl c'):=by rw[HLT.out.2.2.2.2];exact V6M.out.cq
    have f42:=V6M.out.fr 42;have hqm:=V6M.out.st.cmax;have hqle:=V6M.out.st.le;rw[<-HLT.out.2.2.2.2]at hqle;unfold maxLen at hqm;have q3:(rl:Int)<=(c':Int):=by omega
    have q4:(c':Int)<=9223372036854775807:=by omega
    obtain⟨QA,hQA⟩:∃QA:Option Addr,QA=if c'=1 then some ⟨b,o,none⟩ else some ⟨b,o+2,none⟩:=⟨_,rfl⟩
    have HQAB:=zh (show ∀a,QA=some a->a.block=b from fun a ha=>by rw[hQA]at ha;split at ha<;>(cases ha;rfl));have hdl2:r.length=rl-1:=by rw[HLT.out.2.2.2.2];simp
    have S4:SL V6 77 2 QA r.length (c'-1) (r.flatMap SE.cc):=by
     have hh:=V6M.out.st.drop 1 (by simp);rw[drop_cc,Nat.one_mul,<-hQA,<-HLT.out.2.2.2.2,<-hdl2]at hh
     exact hh
    have T4:=V6M.out.setQ (A':=QA) (c':=c'-1) (l':=r) S4 (rising_tail V6M.out.ris) (fun e he=>V6M.out.rng e (List.mem_cons_of_mem _ he)) (fun e he=>V6M.out.pk e (List.mem_cons_of_mem _ he)) (fun a ha=>by rw[HQAB.out a ha];exact HBM.out);rw[hdl2]at T4;have K4:=K6.out.trans (keep_set V6 h 42 (.slice QA (rl-1) (c'-1))) (fun _ _ h=>h);have S6:=HS6.out.keepF (keep_set V6 h 42 (.slice QA (rl-1) (c'-1))) (fun a ha e=>by have:=hA6 a ha;have:=HM.out.min _ HM.out.mh;omega);have HT5:=zh T4;have HK5:=zh K4;have HS5:=zh S6;clear y42 y1 V6M hk6' hbA hsz hA6 hqm hqle S4 T4 K4 S6;go_wp2;rw[<-hQA];go_roundw
    case rel=>
     refine⟨pre++[x],r,A6,c6,QA,c'-1,by rw[HLP.out];simp,by rw[List.length_append,<-HPL.out];rfl,fun e he=>?_,?_,?_,HA6'.out,HK5.out⟩
     ·rcases List.mem_append.1 he with h1 | h1
      ·exact HCT.out e h1
      ·obtain rfl:e=x:=by simpa using h1
       rw[<-HLT.out.1]
       exact HE.out
     ·exact HT5.out
     ·have e1:(pre++[x]).length=pl+1:=by rw[HPL.out];simp
      rw[e1,List.map_append];have e2:[x].map SE.val=[.slice PA pn pq]:=by rw[HLT.out.2.1,HLT.out.2.2.1,HLT.out.2.2.2.1];rfl
      rw[e2]
      exact HS5.out
    case measure=>
     have h1:=HL.out;have h2:l.length=pl+rl:=by rw[HLP.out,List.length_append,HLT.out.2.2.2.2,HPL.out]
     have h3:=HBD.out.2;simp only[sliceLen];omega
   ·have hq:decide (ct < LM)=false:=decide_eq_false he;have HGE:=zh (show ∀e,e∈x :: r->LM<=e.v.ct from fun e hm=>by
     rcases List.mem_cons.1 hm with rfl | h1
     ·rw[<-HLT.out.1];omega
     ·have:=rising_head HV.out.ris e h1;rw[<-HLT.out.1]at this;omega)
    have HLH:=zh (HLH0.out HGE.out);clear he;go_upto_region 5 with (fail)
    go_quiet (fail);clear z42 z44 k0 k1 hq;go_upto_region 8 with (fail)
    refine wp_let (fun X=>Below wr.heap.size wr X) (by first | exact Below.refl _ _ | exact below_drewN (Below.refl _ _) _) ?_;rintro X hbX;have VX:=HV.out.below hbX;have SX:=HS2.out.next hbX;have KX:=HK.out.trans (KeepF.of_below hbX) (fun _ _ h=>h);rw[<-HPL.out]at SX;have y44:X.cell? ⟨h,44,none⟩=some (.int .u64 LM):=by rw[HLM.out];exact VX.clim
    have f40:=VX.fr 40;have y40:=VX.cd;have hlmn:0<=LM/\LM<=s.next:=by rw[HLM.out];exact HM.out.ok.limit
    have TX:=VX.setD LM hlmn HGE.out;have KY0:=KX.trans (keep_set X h 40 (.int .u64 LM)) (fun _ _ h=>h);have SY0:=SX.keepF (keep_set X h 40 (.int .u64 LM)) (fun a ha e=>by have:=HA2.out a ha;have:=HM.out.min _ HM.out.mh;omega);have HTX:=zh TX;have HKY0:=zh KY0;have HSY0:=zh SY0;clear hbX VX SX KX TX KY0 SY0 hlmn;go_upto_region 9 with (fail)
    refine wp_let (fun Y=>VM Y h { s with run:=false,L:=(x :: r).map (·.v),deliver:=LM } U M R (some ⟨b,o,none⟩) c' (x :: r) uA uc/\KeepF (fun k=>k=h) w Y/\SL Y 35 1 A2 pl c2 (pre.map SE.val)) ⟨HTX.out,HKY0.out,HSY0.out⟩ ?_;rintro Y ⟨x1,x2,x3⟩;have HY2:=zh x2;have HY3:=zh x3;have HRN:=zh (vrun_ok h _ U M R (some ⟨b,o,none⟩) c' (x :: r) uA uc Y x1 (by have h1:=HL.out;rw[HLP.out,List.length_append]at h1;omega));have HZ:=zh x2.size;clear x1 x2 x3 y44 f40 y40;go_upto_region 10 with (first
     | (go_at_call 80;refine HRN.out.mono ?_;rintro e V ⟨A3,c3,lo,A4,c4,l4,rfl,hO,hlo,hsub,hV,hl4,hK3⟩;have HO:=zh hO;have HLO:=zh hlo;have HSUB:=zh hsub;have HV4:=zh hV;have HL4:=zh hl4;have HK3:=zh hK3;obtain⟨n3,hn3⟩:∃n3,n3=lo.length:=⟨_,rfl⟩;have HLL:=zh (show pl+n3<=250 by have h1:=deliver_len' _ lo hlo;have h2:=HL.out;rw[HLP.out,List.length_append,<-HPL.out]at h2;rw[List.length_map]at h1;omega);rw[<-hn3];have HN3:=zh hn3;clear hO hlo hsub hV hl4 hK3 hn3)
     | (refine wpList_sl_appendA rfl _ _ 34 34 rfl V 35 i0 (.slice none 0 0) 1 24 Tryz.underlying34 hi0 hz0 hz1 hz2 rfl A2 pl c2 (pre.map SE.val) rfl (HY3.out.keepF HK3.out (fun a ha e=>by have:=HA2.out a ha;have:=HM.out.min _ HM.out.mh;omega)) (.slice A3 n3 c3) rfl n3 (lo.map SE.val) (by rw[HN3.out];exact SL.srcN Tryz.underlying34 HO.out.1 (fun u hu=>by obtain⟨x,_,rfl⟩:=List.mem_map.1 hu;rfl)) (by have:=HLL.out;unfold maxLen;omega) (by have:=HLL.out;omega) ?_;intro A6 c6 V6 hs6 hk6 ha6;have HS6:=zh hs6;have HK6:=zh hk6;have HA6:=zh ha6;clear hs6 hk6 ha6))
    have hA6:∀a,A6=some a->w.heap.size<=a.block:=fun a ha=>by
     rcases HA6.out a ha with ⟨a',e,h1⟩ | h1
     ·rw[h1];exact HA2.out a' e
     ·have:=HK3.out.size;have:=HZ.out;omega
    have K7:=zh ((HY2.out.trans HK3.out (fun _ _ h=>h)).trans HK6.out (fun k hk ⟨a,ha,e⟩=>by have:=HA2.out a ha;omega));have HTM:=zh (vtimer_ok h _ U M R A4 c4 l4 uA uc V6 (HV4.out.keepF HK6.out (fun k ⟨a,ha,e⟩=>⟨fun hm=>by have:=HM.out.min k hm;have:=HA2.out a ha;omega,fun hr=>by have:=HM.out.rin k hr;have:=HA2.out a ha;omega⟩)) HRO.out);have HA6':=zh hA6;clear hA6;go_upto_region 11 with (go_at_call 81;refine HTM.out.mono ?_;rintro e V8 ⟨rfl,hV8,hK8⟩;have HV8:=zh hV8;have HK8:=zh hK8;clear hV8 hK8)
    go_wp2;go_ret;have hcut:s.cut={ s with run:=false,L:=(x :: r).map (·.v),deliver:=LM }:=by
     unfold RS.cut;rw[HLH.out.2,HLM.out,Int.max_eq_right HDL.out]
    have hex:s.expire=(lowL s.limit s.L++s.cut.deliver_.1,s.cut.deliver_.2.timer):=by
     unfold RS.expire;rw[if_neg (fun h1=>h1.elim (fun h2=>absurd (h2.symm.trans HRT.out) (by decide)) (fun h2=>by have:=HEX.out;omega))]
    rw[hcut,HLH.out.1]at hex;have hn:(pre++lo).length=pl+n3:=by rw[List.length_append,<-HPL.out,<-HN3.out]
    refine⟨A6,c6,pre++lo,A4,c4,l4,by rw[hn];rfl,⟨?_,HA6'.out⟩,by rw[hex,List.map_append,HLO.out],fun x hx=>?_,by rw[hex];exact HV8.out,?_,K7.out.trans HK8.out (fun _ _ h=>h)⟩
    ·rw[hn,List.map_append]
     exact HS6.out.keepF HK8.out (fun a ha e=>by have:=HA6'.out a ha;have:=HM.out.min _ HM.out.mh;omega)
    ·rw[HLP.out];rcases List.mem_append.1 hx with h1 | h1
     ·exact List.mem_append.2 (.inl h1)
     ·exact List.mem_append.2 (.inr (HSUB.out x h1))
    ·have:=HL4.out;rw[HLP.out,List.length_append];omega
def VTickO (w:World) (h:Nat) (s:RS) (U:List (Nat->Int)) (M R:Nat->Prop) (l:List SE) (uA:Option Addr) (uc:Nat) (t:Int) (e:Ending) (w':World):Prop:=
 ∃A2 c2 lo A' c' l',e=.returned (.tuple #[.slice A2 lo.length c2,.int .i64 (s.tick t).2.1])/\OutM w' w.heap.size A2 c2 lo/\lo.map (·.v)=(s.tick t).1/\(∀x,x∈lo->x∈l)/\VM w' h (s.tick t).2.2 U M R A' c' l' uA uc/\l'.length<=l.length/\KeepF (fun k=>k=h) w w'
theorem vtick_ok (h:Nat) (s:RS) (U:List (Nat->Int)) (M R:Nat->Prop) (A:Option Addr) (c:Nat) (l:List SE) (uA:Option Addr) (uc:Nat) (w:World) (m:VM w h s U M R A c l uA uc) (hl:l.length<=250) (hro:0<=s.C.ro/\s.C.ro<=1073741824) (hdl:s.run=true->s.deliver<=s.limit) (t:Int) :
  Calls Tryz.prog 52 #[.pointer (some ⟨h,0,none⟩),.int .i64 t] w (VTickO w h s U M R l uA uc t):=by
 have HM:=zh m;by_cases hbt:1073741824<=t
 ·have HX:=zh (show s.tick t=([],2,s) by unfold RS.tick;rw[if_pos hbt]);clear m hl hro hdl;go_enter Tryz.func52,Tryz.ntmps52;go_wp2;go_ret2
  exact⟨none,0,[],A,c,l,by rw[HX.out];rfl,⟨SL.nil _ _ _,fun a ha=>by cases ha⟩,by rw[HX.out];rfl,fun x hx=>by simp at hx,by rw[HX.out];exact HM.out,Nat.le_refl _,KeepF.refl⟩
 ·have HX:=zh (show s.tick t=((s.at_ t).expire.1,0,(s.at_ t).expire.2) by unfold RS.tick;rw[if_neg hbt]);have hnw:=m.ok.now;have T1:=m.setNow (max s.now t) ⟨by omega,by omega⟩;have HEX:=zh (vexpire_ok h (s.at_ t) U M R A c l uA uc _ T1 hl hro hdl);have HK1:=zh (keep_set w h 39 (.int .i64 (max s.now t)));have c39:=m.cnow;have f39:=m.fr 39;obtain⟨nw,hnww⟩:∃nw,nw=s.now:=⟨_,rfl⟩
  rw[<-hnww]at c39 HEX HK1;clear m hl hro hdl hnw T1 hnww;go_enter Tryz.func52,Tryz.ntmps52;go_wp2_with (go_at_call 82;refine HEX.out.mono ?_;rintro e V ⟨A2,c2,lo,A4,c4,l4,rfl,hO,hlo,hsub,hV,hl4,hK3⟩;have HO:=zh hO;have HLO:=zh hlo;have HSUB:=zh hsub;have HV4:=zh hV;have HL4:=zh hl4;have HK3:=zh hK3;clear hO hlo hsub hV hl4 hK3);go_ret2
  exact⟨A2,c2,lo,A4,c4,l4,by rw[HX.out];rfl,⟨HO.out.1,fun a ha=>Nat.le_trans HK1.out.size (HO.out.2 a ha)⟩,by rw[HX.out];exact HLO.out,HSUB.out,by rw[HX.out];exact HV4.out,HL4.out,HK1.out.trans HK3.out (fun _ _ h=>h)⟩
theorem vstored_no {L:List SE} {f:Int} (h:∀(j:Nat) (e:SE),L[j]? = some e->e.v.ct ≠ f):stored (L.map (·.v)) f=false:=by
 unfold stored;rw[List.any_eq_false];intro x hx;obtain⟨e,he,rfl⟩:=List.mem_map.1 hx;obtain⟨j,hj⟩:=List.mem_iff_getElem?.1 he;simpa using h j e hj
theorem vstored_yes {L:List SE} {f:Int} {e:SE} (h:e∈L) (he:e.v.ct=f):stored (L.map (·.v)) f=true:=by
 unfold stored;rw[List.any_eq_true]
 exact⟨e.v,List.mem_map.2 ⟨e,h,rfl⟩,by simpa using he⟩
theorem vhas_ok (h:Nat) (s:RS) (U:List (Nat->Int)) (M R:Nat->Prop) (A:Option Addr) (c:Nat) (l:List SE) (uA:Option Addr) (uc:Nat) (w:World) (m:VM w h s U M R A c l uA uc) (hl:l.length<=250) (f:Int) :
  Calls Tryz.prog 78 #[.pointer (some ⟨h,0,none⟩),.int .u64 f] w fun e w'=>e=.returned (.bool (stored s.L f))/\w'=w:=by
 have HM:=zh m;have HL:=zh hl;have z42:=m.cq;have HS:=zh m.lv;have hdv:=zh m.ok.deliver;have hnx:=zh m.ok.next;obtain⟨rl,hrl⟩:∃rl,rl=l.length:=⟨_,rfl⟩
 rw[<-hrl]at z42;have HRL:=zh hrl;clear m hl hrl;go_enter Tryz.func78,Tryz.ntmps78;go_wp2;go_loop [5] (fun u=>∃k:Nat,k<=rl/\u=.int .i64 k/\(∀(j:Nat) (e:SE),j < k->l[j]? = some e->e.v.ct ≠ f)) (fun u=>300-(intOf u).toNat)
 case atStart=>exact⟨0,by omega,rfl,fun j e hj=>by omega⟩
 case round=>
  obtain⟨k,hk,rfl,hno⟩:=hrel;have HNO:=zh hno;clear hno;have k0:(0:Int)<=(k:Int):=by omega
  by_cases hlt:k < rl
  ·obtain⟨x,hx⟩:∃x,l[k]? = some x:=⟨_,List.getElem?_eq_getElem (by rw[<-HRL.out];exact hlt)⟩
   obtain⟨b,o,hAA,hb,q0,q1⟩:=HM.out.pcell hx;have hxr:=HM.out.rng x (List.mem_of_getElem? hx);have HXX:=zh hx;have k1:(k:Int) < (rl:Int):=by omega
   have k9:rl<=250:=by rw[HRL.out];exact HL.out
   have k2:(rl:Int)<=250:=by omega
   obtain⟨ct,hct⟩:∃ct,ct=x.v.ct:=⟨_,rfl⟩
   rw[<-hct]at q0 hxr;have HCT:=zh hct;rw[hAA]at z42;have w1:IntKind.u64.wrap ct=ct:=by have:=hdv.out;have:=hnx.out;simp[IntKind.wrap_u64];omega
   have wk:IntKind.i64.wrap ((k:Int)+1)=(k:Int)+1:=by simp[IntKind.wrap_i64];omega
   clear hx hAA hb q1 hxr hct;by_cases he:ct=f
   ·have hq:(ct == f)=true:=by simpa using he
    have HE:=zh he;clear he;go_wp2;go_ret
    exact⟨by rw[<-HS.out,vstored_yes (List.mem_of_getElem? HXX.out) (by rw[<-HCT.out];exact HE.out)];rfl,rfl⟩
   ·have hq:(ct == f)=false:=by simpa using he
    have HE:=zh he;clear he;go_wp2;go_round
    case rel=>
     refine⟨k+1,by omega,by go_num,fun j e hj he=>?_⟩;rcases (by omega:j < k\/j=k)with h1 | h1
     ·exact HNO.out j e h1 he
     ·rw[h1,HXX.out]at he;obtain rfl:=Option.some.inj he;rw[<-HCT.out]
      exact HE.out
    case measure=>simp[intOf];omega
  ·have hke:k=rl:=by omega
   have k1:¬(k:Int) < (rl:Int):=by omega
   have HKE:=zh hke;clear hke hlt;go_wp2;go_ret;refine⟨?_,rfl⟩;rw[<-HS.out,vstored_no (fun j e hj=>HNO.out j e (by have:=(List.getElem?_eq_some_iff.1 hj).1;rw[HKE.out,HRL.out];exact this) hj)]
   rfl
theorem Tryz.infoCnt:(Tryz.prog.info? 77).map (fun i=>(i.zero,i.size,i.bytes))=some (some (.agg #[.int .u32 0,.slice none 0 0]),2,32):=by kernel_rfl
theorem src_cnt (V:World) (x:Int) (A:Option Addr) (n c:Nat):Src Tryz.prog 2 44 (.slice (some ⟨V.heap.size,0,none⟩) 1 1) 1 [.int .u32 x,.slice A n c] (V.alloc (.cells #[.int .u32 x,.slice A n c] 77)):=
 Src.ofSlice _ Tryz.underlying44 ⟨V.heap.size,0,none⟩ 1 1 _ (by rfl) (fun j u hu=>by
  rw[Addr.add_lit,Nat.zero_add,(Blk.new V 77 #[.int .u32 x,.slice A n c]).cell j];simpa using hu) (by intro u hu;simp at hu;rcases hu with rfl | rfl<;>rfl)
theorem insS_at (x:SE):∀(p r:List SE),(∀e,e∈p->e.v.ct < x.v.ct)->(∀(y:SE) (q:List SE),r=y :: q->x.v.ct < y.v.ct)->insS x (p++r)=p++x :: r
 | [],r,_,h2=>by
  cases r with
  | nil=>rfl
  | cons y q=>
   rw[List.nil_append];unfold insS;rw[if_pos (h2 y q rfl)]
   rfl
 | e :: p,r,h1,h2=>by
  have:=h1 e (by simp);rw[List.cons_append];unfold insS;rw[if_neg (by omega),insS_at x p r (fun a ha=>h1 a (by simp[ha])) h2]
  rfl
theorem take_cc (l:List SE) (k:Nat):(l.flatMap SE.cc).take (k*2)=(l.take k).flatMap SE.cc:=by
 have h1:l.flatMap SE.cc=(l.take k).flatMap SE.cc++(l.drop k).flatMap SE.cc:=by
  rw[<-List.flatMap_append,List.take_append_drop]
 by_cases hk:k<=l.length
 ·have h2:((l.take k).flatMap SE.cc).length=k*2:=by
   rw[flat_len SE.cc 2 SE.cclen,List.length_take,Nat.min_eq_left hk]
  rw[h1,List.take_append_of_le_length (by omega),<-h2,List.take_length]
 ·rw[List.take_of_length_le (l:=l) (by omega)]
  exact List.take_of_length_le (by rw[flat_len SE.cc 2 SE.cclen];omega)
theorem SE.one {l:List SE} {u:Value} (h:u∈l.flatMap SE.cc):u.oneCell'=true:=by
 obtain⟨e,_,he⟩:=List.mem_flatMap.1 h;unfold SE.cc at he;simp at he;rcases he with rfl | rfl<;>rfl
theorem vSL_take {w:World} {e:TypeId} {sz:Nat} {A:Option Addr} {n c:Nat} {xs:List Value} (h:SL w e sz A n c xs) (k:Nat) (hk:k<=n):SL w e sz A k c (xs.take (k*sz)):=by
 have hm:k*sz<=n*sz:=Nat.mul_le_mul_right _ hk;refine⟨by rw[List.length_take,h.len];omega,?_⟩;rcases h.at_ with ⟨h1,h2,h3⟩ | ⟨b,o,cur,h1,h2,h3,h4,h5,h6⟩
 ·exact .inl ⟨h1,by omega,h3⟩
 ·exact .inr ⟨b,o,cur,h1,h2,by omega,h4,h5,fun j hj=>by rw[h6 j (by omega),List.getElem?_take,if_pos hj]⟩
def VStoO (w:World) (h:Nat) (s:RS) (U:List (Nat->Int)) (l:List SE) (uA:Option Addr) (uc:Nat) (x:SE) (e:Ending) (w':World):Prop:=
 e=.returned (.tuple #[])/\∃A' c',Blk w' h 97 (vArr s.C.arr s.now s.deliver s.next (.slice A' (insS x l).length c') s.run s.limit s.expiry (.slice uA U.length uc) s.dup)/\SL w' 77 2 A' (insS x l).length c' ((insS x l).flatMap SE.cc)/\(∀a,A'=some a->w.heap.size<=a.block)/\KeepF (fun k=>k=h) w w'
theorem VM.stored {w w':World} {h:Nat} {s:RS} {U:List (Nat->Int)} {M R:Nat->Prop} {A:Option Addr} {c:Nat} {l:List SE} {uA:Option Addr} {uc:Nat} (m:VM w h s U M R A c l uA uc) (hB:Below w.heap.size w w') {A':Option Addr} {c' n:Nat} {x:SE} (hs:SL w' 77 2 A' n c' ((insS x l).flatMap SE.cc)) (hn:n=(insS x l).length) (hA:∀a,A'=some a->w.heap.size<=a.block):VStoO w h s U l uA uc x (.returned (.tuple #[])) (w'.setCell ⟨h,42,none⟩ (.slice A' n c')):=by
 subst hn;have hk:=keep_set w' h 42 (.slice A' (insS x l).length c');have hlt:=m.min _ m.mh;refine⟨rfl,A',c',?_,hs.keepF hk (fun a ha e=>by have:=hA a ha;omega),hA,(KeepF.of_below hB).trans hk (fun _ _ h=>h)⟩;rw[<-vArr_q s.C.arr_size]
 exact(m.blk.below hB hlt).set_ 42 _
theorem vstore_ok (h:Nat) (s:RS) (U:List (Nat->Int)) (M R:Nat->Prop) (A:Option Addr) (c:Nat) (l:List SE) (uA:Option Addr) (uc:Nat) (w:World) (m:VM w h s U M R A c l uA uc) (hl:l.length<=250) (x:SE) (hx0:0<=x.v.ct/\x.v.ct < 4294967296) (hno:∀e,e∈l->e.v.ct ≠ x.v.ct) :
  Calls Tryz.prog 79 #[.pointer (some ⟨h,0,none⟩),.int .u64 x.v.ct,.slice x.A x.v.n x.c] w (VStoO w h s U l uA uc x):=by
 obtain⟨i0,hi0,hz0,hz1,hz2⟩:=info_parts Tryz.infoCnt;have HM:=zh m;have HL:=zh hl;have HNO:=zh hno;have HX0:=zh hx0;have z42:=m.cq;have hdv:=zh m.ok.deliver;have hnx:=zh m.ok.next;obtain⟨rl,hrl⟩:∃rl,rl=l.length:=⟨_,rfl⟩
 rw[<-hrl]at z42;have HRL:=zh hrl;obtain⟨ct,hct⟩:∃ct,ct=x.v.ct:=⟨_,rfl⟩
 obtain⟨PA,hPA⟩:∃PA,PA=x.A:=⟨_,rfl⟩
 obtain⟨pn,hpn⟩:∃pn,pn=x.v.n:=⟨_,rfl⟩
 obtain⟨pq,hpq⟩:∃pq,pq=x.c:=⟨_,rfl⟩
 rw[<-hct]at HNO HX0 ⊢;rw[<-hPA,<-hpn,<-hpq];have HXE:=zh (And.intro hct (show SE.cc x=[.int .u32 ct,.slice PA pn pq] by rw[hct,hPA,hpn,hpq];rfl));clear m hl hno hx0 hrl hct hPA hpn hpq;go_enter Tryz.func79,Tryz.ntmps79;go_wp2;go_loop [6] (fun u=>∃k:Nat,k<=rl/\u=.int .i64 k/\(∀(j:Nat) (e:SE),j < k->l[j]? = some e->e.v.ct < ct)) (fun u=>300-(intOf u).toNat)
 case atStart=>exact⟨0,by omega,rfl,fun j e hj=>by omega⟩
 case round=>
  obtain⟨k,hk,rfl,hlow⟩:=hrel;have HLOW:=zh hlow;clear hlow;have k0:(0:Int)<=(k:Int):=by omega
  have k9:rl<=250:=by rw[HRL.out];exact HL.out
  have k2:(rl:Int)<=250:=by omega
  have hex:∀y,l[k]? = some y->¬y.v.ct < ct->ct < y.v.ct:=fun y hy hn=>by
   have:=HNO.out y (List.mem_of_getElem? hy);omega
  have HEX:=zh hex;have hins:(∀y,l[k]? = some y->ct < y.v.ct)->insS x l=l.take k++x :: l.drop k:=fun hy=>by
   have h1:=insS_at x (l.take k) (l.drop k) (fun e he=>by
    obtain⟨j,hj⟩:=List.mem_iff_getElem?.1 he;rw[List.getElem?_take]at hj
    split at hj
    ·rw[<-HXE.out.1];exact HLOW.out j e (by assumption) hj
    ·cases hj) (fun y q hq=>by
    rw[<-HXE.out.1];refine hy y ?_;have h2:=congrArg (fun z=>z[0]?) hq;simpa[List.getElem?_drop]using h2)
   rwa [List.take_append_drop]at h1
  have HINS:=zh hins;clear hex hins;by_cases hgo:k < rl/\∃y,l[k]? = some y/\y.v.ct < ct
  ·obtain⟨hlt,y,hy,hyc⟩:=hgo;obtain⟨b,o,hAA,hb,q0,q1⟩:=HM.out.pcell hy;have hyr:=HM.out.rng y (List.mem_of_getElem? hy);have HYY:=zh hy;have k1:decide (k < rl)=true:=decide_eq_true hlt;have k3:(k:Int) < (rl:Int):=by omega
   obtain⟨yc,hyct⟩:∃yc,yc=y.v.ct:=⟨_,rfl⟩
   rw[<-hyct]at q0 hyr hyc;have HYC:=zh hyct;rw[hAA]at z42;have w1:IntKind.u64.wrap yc=yc:=by have:=hdv.out;have:=hnx.out;simp[IntKind.wrap_u64];omega
   have wk:IntKind.i64.wrap ((k:Int)+1)=(k:Int)+1:=by simp[IntKind.wrap_i64];omega
   have hq:decide (yc < ct)=true:=decide_eq_true hyc;have HYT:=zh hyc;clear hy hAA hb q1 hyr hyct hyc;go_wp2;go_round
   case rel=>
    refine⟨k+1,by omega,by go_num,fun j e hj he=>?_⟩;rcases (by omega:j < k\/j=k)with h1 | h1
    ·exact HLOW.out j e h1 he
    ·rw[h1,HYY.out]at he;obtain rfl:=Option.some.inj he;rw[<-HYC.out]
     exact HYT.out
   case measure=>simp[intOf];omega
  ·have hgt:∀y,l[k]? = some y->ct < y.v.ct:=fun y hy=>HEX.out y hy (fun h1=>hgo ⟨by have:=(List.getElem?_eq_some_iff.1 hy).1;rw[HRL.out];exact this,y,hy,h1⟩);have HI:=zh (HINS.out hgt);have HLEN:=zh (show k+1+(rl-k)=(insS x l).length by rw[insS_len,<-HRL.out];omega);have HW:=zh (show((l.take k).flatMap SE.cc++[.int .u32 ct,.slice PA pn pq])++(l.drop k).flatMap SE.cc=(insS x l).flatMap SE.cc by rw[HI.out,List.flatMap_append,List.flatMap_cons,HXE.out.2,List.append_assoc]);have w32:IntKind.u32.wrap ct=ct:=by have:=HX0.out;simp[IntKind.wrap_u32];omega
   rcases HM.out.st.at_ with ⟨rfl,h2,rfl⟩ | ⟨b,o,cur,rfl,h2,h3,h4,h5,h6⟩
   ·obtain rfl:rl=0:=by rw[HRL.out];exact h2
    obtain rfl:k=0:=by omega
    clear hgo hgt h2;go_upto_region 3 with (fail)
    go_upto_region 4 with (first
     | (refine wpList_sl_append rfl _ _ 44 44 rfl _ 77 i0 (.agg #[.int .u32 0,.slice none 0 0]) 2 32 Tryz.underlying44 hi0 hz0 hz1 hz2 rfl A8 0 c8 ((l.take 0).flatMap SE.cc) rfl (HS8.out.next (bnA _)) (.slice (some ⟨u2.heap.size,0,none⟩) 1 1) rfl 1 [.int .u32 ct,.slice PA pn pq] (src_cnt u2 ct PA pn pq) (by omega) (by unfold maxLen;omega) (by omega) ?_;intro A9 c9 u3 hs9 hk9 ha9;have HS9:=zh hs9;have HB9:=zh (show Below w.heap.size w u3 from KeepF.below (HB8.out.trans ((Below.refl _ _).alloc HB8.out.size _)) hk9 (fun q ⟨a,ha,e⟩=>by rw[e];exact HA8.out a ha) (by have h1:=HB8.out.size;have h2:=((Below.refl u2.heap.size u2).alloc (Nat.le_refl _) (.cells #[.int .u32 ct,.slice PA pn pq] 77)).size;omega));have HA9:=zh (show ∀a,A9=some a->w.heap.size<=a.block from fun a ha=>(ha9 a ha).elim (fun⟨a',h1,h2⟩=>by rw[h2];exact HA8.out a' h1) (fun h1=>by have h3:=HB8.out.size;have h2:=((Below.refl u2.heap.size u2).alloc (Nat.le_refl _) (.cells #[.int .u32 ct,.slice PA pn pq] 77)).size;omega));clear hs9 hk9 ha9)
     | (refine wpList_sl_appendA rfl _ _ 44 44 rfl w 77 i0 (.agg #[.int .u32 0,.slice none 0 0]) 2 32 Tryz.underlying44 hi0 hz0 hz1 hz2 rfl none 0 0 [] rfl (SL.nil _ _ _) (.slice none 0 0) rfl 0 ((l.take 0).flatMap SE.cc) ((show SL w 77 2 none 0 0 ((l.take 0).flatMap SE.cc)from SL.nil _ _ _).srcN Tryz.underlying44 (fun u hu=>SE.one hu)) (by unfold maxLen;omega) (by omega) ?_;intro A8 c8 u2 hs8 hk8 ha8;rw[Nat.zero_add,List.nil_append]at hs8;rw[Nat.zero_add];have HS8:=zh hs8;have HB8:=zh (show Below w.heap.size w u2 from KeepF.below (Below.refl _ _) hk8 (fun q ⟨a,ha,_⟩=>by cases ha) (Nat.le_refl _));have HA8:=zh (show ∀a,A8=some a->w.heap.size<=a.block from fun a ha=>(ha8 a ha).elim (fun⟨a',h1,_⟩=>by cases h1) id);clear hs8 hk8 ha8))
    have y42:=(HB9.out.cell (p:=⟨h,42,none⟩) HM.out.blk.lt).trans z42;clear z42;go_upto_region 4 with (fail)
    go_wp2_with (refine wpList_sl_appendA rfl _ _ 44 44 rfl _ 77 i0 (.agg #[.int .u32 0,.slice none 0 0]) 2 32 Tryz.underlying44 hi0 hz0 hz1 hz2 rfl A9 (0+1) c9 ((l.take 0).flatMap SE.cc++[.int .u32 ct,.slice PA pn pq]) rfl HS9.out (.slice none 0 0) rfl 0 ((l.drop 0).flatMap SE.cc) (((show SL w 77 2 none 0 0 ((l.drop 0).flatMap SE.cc)from by rw[List.eq_nil_of_length_eq_zero HRL.out.symm];exact SL.nil _ _ _).next HB9.out).srcN Tryz.underlying44 (fun u hu=>SE.one hu)) (by unfold maxLen;omega) (by omega) ?_;intro A7 c7 u4 hs7 hk7 ha7;have HS7:=zh hs7;have HB7:=zh (show Below w.heap.size w u4 from KeepF.below HB9.out hk7 (fun q ⟨a,ha,e⟩=>by rw[e];exact HA9.out a ha) HB9.out.size);have HA7:=zh (show ∀a,A7=some a->w.heap.size<=a.block from fun a ha=>(ha7 a ha).elim (fun⟨a',h1,h2⟩=>by rw[h2];exact HA9.out a' h1) (fun h1=>Nat.le_trans HB9.out.size h1));have y7:=HB7.out.cell (p:=⟨h,42,none⟩) HM.out.blk.lt;have f7:=(HM.out.blk.below HB7.out HM.out.blk.lt).frozen 42;have z7:=y7.trans HM.out.cq;clear hs7 hk7 ha7 y7);go_end0
    exact HM.out.stored HB7.out (by rw[<-HW.out];exact HS7.out) HLEN.out HA7.out
   ·have hpm:=HM.out.st.cmax;have hple:=HM.out.st.le;rw[<-HRL.out]at hple;unfold maxLen at hpm;have q1:(k:Int)<=(c:Int):=by omega
    have q2:(c:Int)<=9223372036854775807:=by omega
    have q3:(k:Int)<=(rl:Int):=by omega
    have q4:(rl:Int)<=(c:Int):=by omega
    have HS1:=zh (show SL w 77 2 (some ⟨b,o,none⟩) k c ((l.take k).flatMap SE.cc)from by
     have h1:=vSL_take HM.out.st k (by rw[<-HRL.out];omega);rw[take_cc]at h1
     exact h1)
    have HS2:=zh (show SL w 77 2 (if c=k then some ⟨b,o,none⟩ else some ⟨b,o+k*2,none⟩) (rl-k) (c-k) ((l.drop k).flatMap SE.cc)from by
     have h1:=HM.out.st.drop k (by rw[<-HRL.out];omega);rw[drop_cc,<-HRL.out]at h1
     exact h1)
    obtain⟨DA,hDA⟩:∃DA:Option Addr,DA=if c=k then some ⟨b,o,none⟩ else some ⟨b,o+k*2,none⟩:=⟨_,rfl⟩
    rw[<-hDA]at HS2;have HDA:=zh hDA;clear hDA h2 h3 h4 h5 h6 hgt hpm;by_cases hkr:k < rl
    ·obtain⟨y,hy⟩:∃y,l[k]? = some y:=⟨_,List.getElem?_eq_getElem (by rw[<-HRL.out];exact hkr)⟩
     obtain⟨b',o',hAA,hb,q0,q5⟩:=HM.out.pcell hy;obtain⟨rfl,rfl⟩:b=b'/\o=o':=by cases hAA;exact⟨rfl,rfl⟩
     have hyr:=HM.out.rng y (List.mem_of_getElem? hy);have hyg:¬y.v.ct < ct:=fun h1=>hgo ⟨hkr,y,hy,h1⟩;obtain⟨yc,hyct⟩:∃yc,yc=y.v.ct:=⟨_,rfl⟩
     rw[<-hyct]at q0 hyr hyg;have w1:IntKind.u64.wrap yc=yc:=by have:=hdv.out;have:=hnx.out;simp[IntKind.wrap_u64];omega
     have hq:decide (yc < ct)=false:=decide_eq_false hyg;have k1:decide (k < rl)=true:=decide_eq_true hkr;have k3:(k:Int) < (rl:Int):=by omega
     clear hgo hy hAA hb q5 hyr hyct hyg;have hDA2:DA=some ⟨b,o+k*2,none⟩:=by rw[HDA.out,if_neg (by omega)]
     subst hDA2;go_upto_region 3 with (fail)
     go_upto_region 4 with (first
      | (refine wpList_sl_append rfl _ _ 44 44 rfl _ 77 i0 (.agg #[.int .u32 0,.slice none 0 0]) 2 32 Tryz.underlying44 hi0 hz0 hz1 hz2 rfl A8 k c8 ((l.take k).flatMap SE.cc) rfl (HS8.out.next (bnA _)) (.slice (some ⟨u2.heap.size,0,none⟩) 1 1) rfl 1 [.int .u32 ct,.slice PA pn pq] (src_cnt u2 ct PA pn pq) (by omega) (by unfold maxLen;omega) (by omega) ?_;intro A9 c9 u3 hs9 hk9 ha9;have HS9:=zh hs9;have HB9:=zh (show Below w.heap.size w u3 from KeepF.below (HB8.out.trans ((Below.refl _ _).alloc HB8.out.size _)) hk9 (fun q ⟨a,ha,e⟩=>by rw[e];exact HA8.out a ha) (by have h1:=HB8.out.size;have h2:=((Below.refl u2.heap.size u2).alloc (Nat.le_refl _) (.cells #[.int .u32 ct,.slice PA pn pq] 77)).size;omega));have HA9:=zh (show ∀a,A9=some a->w.heap.size<=a.block from fun a ha=>(ha9 a ha).elim (fun⟨a',h1,h2⟩=>by rw[h2];exact HA8.out a' h1) (fun h1=>by have h3:=HB8.out.size;have h2:=((Below.refl u2.heap.size u2).alloc (Nat.le_refl _) (.cells #[.int .u32 ct,.slice PA pn pq] 77)).size;omega));clear hs9 hk9 ha9)
      | (refine wpList_sl_appendA rfl _ _ 44 44 rfl w 77 i0 (.agg #[.int .u32 0,.slice none 0 0]) 2 32 Tryz.underlying44 hi0 hz0 hz1 hz2 rfl none 0 0 [] rfl (SL.nil _ _ _) (.slice (some ⟨b,o,none⟩) k c) rfl k ((l.take k).flatMap SE.cc) (HS1.out.srcN Tryz.underlying44 (fun u hu=>SE.one hu)) (by unfold maxLen;omega) (by omega) ?_;intro A8 c8 u2 hs8 hk8 ha8;rw[Nat.zero_add,List.nil_append]at hs8;rw[Nat.zero_add];have HS8:=zh hs8;have HB8:=zh (show Below w.heap.size w u2 from KeepF.below (Below.refl _ _) hk8 (fun q ⟨a,ha,_⟩=>by cases ha) (Nat.le_refl _));have HA8:=zh (show ∀a,A8=some a->w.heap.size<=a.block from fun a ha=>(ha8 a ha).elim (fun⟨a',h1,_⟩=>by cases h1) id);clear hs8 hk8 ha8))
     have y42:=(HB9.out.cell (p:=⟨h,42,none⟩) HM.out.blk.lt).trans z42;clear z42;go_upto_region 4 with (fail)
     go_wp2_with (refine wpList_sl_appendA rfl _ _ 44 44 rfl _ 77 i0 (.agg #[.int .u32 0,.slice none 0 0]) 2 32 Tryz.underlying44 hi0 hz0 hz1 hz2 rfl A9 (k+1) c9 ((l.take k).flatMap SE.cc++[.int .u32 ct,.slice PA pn pq]) rfl HS9.out (.slice (some ⟨b,o+k*2,none⟩) (rl-k) (c-k)) rfl (rl-k) ((l.drop k).flatMap SE.cc) ((HS2.out.next HB9.out).srcN Tryz.underlying44 (fun u hu=>SE.one hu)) (by unfold maxLen;omega) (by omega) ?_;intro A7 c7 u4 hs7 hk7 ha7;have HS7:=zh hs7;have HB7:=zh (show Below w.heap.size w u4 from KeepF.below HB9.out hk7 (fun q ⟨a,ha,e⟩=>by rw[e];exact HA9.out a ha) HB9.out.size);have HA7:=zh (show ∀a,A7=some a->w.heap.size<=a.block from fun a ha=>(ha7 a ha).elim (fun⟨a',h1,h2⟩=>by rw[h2];exact HA9.out a' h1) (fun h1=>Nat.le_trans HB9.out.size h1));have y7:=HB7.out.cell (p:=⟨h,42,none⟩) HM.out.blk.lt;have f7:=(HM.out.blk.below HB7.out HM.out.blk.lt).frozen 42;have z7:=y7.trans HM.out.cq;clear hs7 hk7 ha7 y7);go_end0
     exact HM.out.stored HB7.out (by rw[<-HW.out];exact HS7.out) HLEN.out HA7.out
    ·have k1:decide (k < rl)=false:=decide_eq_false hkr;clear hgo;go_upto_region 3 with (fail)
     go_upto_region 4 with (first
      | (refine wpList_sl_append rfl _ _ 44 44 rfl _ 77 i0 (.agg #[.int .u32 0,.slice none 0 0]) 2 32 Tryz.underlying44 hi0 hz0 hz1 hz2 rfl A8 k c8 ((l.take k).flatMap SE.cc) rfl (HS8.out.next (bnA _)) (.slice (some ⟨u2.heap.size,0,none⟩) 1 1) rfl 1 [.int .u32 ct,.slice PA pn pq] (src_cnt u2 ct PA pn pq) (by omega) (by unfold maxLen;omega) (by omega) ?_;intro A9 c9 u3 hs9 hk9 ha9;have HS9:=zh hs9;have HB9:=zh (show Below w.heap.size w u3 from KeepF.below (HB8.out.trans ((Below.refl _ _).alloc HB8.out.size _)) hk9 (fun q ⟨a,ha,e⟩=>by rw[e];exact HA8.out a ha) (by have h1:=HB8.out.size;have h2:=((Below.refl u2.heap.size u2).alloc (Nat.le_refl _) (.cells #[.int .u32 ct,.slice PA pn pq] 77)).size;omega));have HA9:=zh (show ∀a,A9=some a->w.heap.size<=a.block from fun a ha=>(ha9 a ha).elim (fun⟨a',h1,h2⟩=>by rw[h2];exact HA8.out a' h1) (fun h1=>by have h3:=HB8.out.size;have h2:=((Below.refl u2.heap.size u2).alloc (Nat.le_refl _) (.cells #[.int .u32 ct,.slice PA pn pq] 77)).size;omega));clear hs9 hk9 ha9)
      | (refine wpList_sl_appendA rfl _ _ 44 44 rfl w 77 i0 (.agg #[.int .u32 0,.slice none 0 0]) 2 32 Tryz.underlying44 hi0 hz0 hz1 hz2 rfl none 0 0 [] rfl (SL.nil _ _ _) (.slice (some ⟨b,o,none⟩) k c) rfl k ((l.take k).flatMap SE.cc) (HS1.out.srcN Tryz.underlying44 (fun u hu=>SE.one hu)) (by unfold maxLen;omega) (by omega) ?_;intro A8 c8 u2 hs8 hk8 ha8;rw[Nat.zero_add,List.nil_append]at hs8;rw[Nat.zero_add];have HS8:=zh hs8;have HB8:=zh (show Below w.heap.size w u2 from KeepF.below (Below.refl _ _) hk8 (fun q ⟨a,ha,_⟩=>by cases ha) (Nat.le_refl _));have HA8:=zh (show ∀a,A8=some a->w.heap.size<=a.block from fun a ha=>(ha8 a ha).elim (fun⟨a',h1,_⟩=>by cases h1) id);clear hs8 hk8 ha8))
     have y42:=(HB9.out.cell (p:=⟨h,42,none⟩) HM.out.blk.lt).trans z42;clear z42;go_upto_region 4 with (fail)
     go_wp2_with (rw[<-HDA.out];refine wpList_sl_appendA rfl _ _ 44 44 rfl _ 77 i0 (.agg #[.int .u32 0,.slice none 0 0]) 2 32 Tryz.underlying44 hi0 hz0 hz1 hz2 rfl A9 (k+1) c9 ((l.take k).flatMap SE.cc++[.int .u32 ct,.slice PA pn pq]) rfl HS9.out (.slice DA (rl-k) (c-k)) rfl (rl-k) ((l.drop k).flatMap SE.cc) ((HS2.out.next HB9.out).srcN Tryz.underlying44 (fun u hu=>SE.one hu)) (by unfold maxLen;omega) (by omega) ?_;intro A7 c7 u4 hs7 hk7 ha7;have HS7:=zh hs7;have HB7:=zh (show Below w.heap.size w u4 from KeepF.below HB9.out hk7 (fun q ⟨a,ha,e⟩=>by rw[e];exact HA9.out a ha) HB9.out.size);have HA7:=zh (show ∀a,A7=some a->w.heap.size<=a.block from fun a ha=>(ha7 a ha).elim (fun⟨a',h1,h2⟩=>by rw[h2];exact HA9.out a' h1) (fun h1=>Nat.le_trans HB9.out.size h1));have y7:=HB7.out.cell (p:=⟨h,42,none⟩) HM.out.blk.lt;have f7:=(HM.out.blk.below HB7.out HM.out.blk.lt).frozen 42;have z7:=y7.trans HM.out.cq;clear hs7 hk7 ha7 y7);go_end0
     exact HM.out.stored HB7.out (by rw[<-HW.out];exact HS7.out) HLEN.out HA7.out
def cntV (d sn:Int):Int:=if sn+2048 < d % 4096 then d-d % 4096+sn+4096 else if d % 4096+2048<=sn then (if d-d % 4096+sn < 4096 then 0 else d-d % 4096+sn-4096) else d-d % 4096+sn
theorem vcount_ok (h:Nat) (s:RS) (U:List (Nat->Int)) (M R:Nat->Prop) (A:Option Addr) (c:Nat) (l:List SE) (uA:Option Addr) (uc:Nat) (w:World) (m:VM w h s U M R A c l uA uc) (sn:Int) (hs0:0<=sn) (hs1:sn < 4096) :
  Calls Tryz.prog 76 #[.pointer (some ⟨h,0,none⟩),.int .u64 sn] w fun e w'=>e=.returned (.tuple #[.int .u64 (cntV s.deliver sn),.bool (cntOf s.deliver sn).isSome])/\w'=w:=by
 have z40:=m.cd;have hdv:=m.ok.deliver;have hnx:=m.ok.next;obtain⟨D,hD⟩:∃D,D=s.deliver:=⟨_,rfl⟩
 rw[<-hD]at z40 hdv ⊢;obtain⟨dd,hdd⟩:∃dd,dd=D % 4096:=⟨_,rfl⟩
 obtain⟨dq,hdq⟩:∃dq,dq=D / 4096:=⟨_,rfl⟩
 have hb:0<=dd/\dd < 4096/\D-dd=4096*dq/\0<=dq/\dq<=1048576:=by omega
 have hcv:cntV D sn=if sn+2048 < dd then D-dd+sn+4096 else if dd+2048<=sn then (if D-dd+sn < 4096 then 0 else D-dd+sn-4096) else D-dd+sn:=by unfold cntV;rw[<-hdd]
 have hrem:Int.tmod D 4096=dd:=by rw[Int.tmod_eq_emod_of_nonneg hdv.1,hdd]
 obtain⟨n0,hn0⟩:∃n0,n0=D-dd+sn:=⟨_,rfl⟩
 rw[<-hn0]at hcv;have HCV:=zh hcv;clear hcv;have w1:IntKind.u64.wrap (D-dd)=D-dd:=by simp[IntKind.wrap_u64];omega
 have w2:IntKind.u64.wrap (D-dd+sn)=n0:=by simp[IntKind.wrap_u64];omega
 have w3:IntKind.u64.wrap (sn+2048)=sn+2048:=by simp[IntKind.wrap_u64];omega
 have w4:IntKind.u64.wrap (n0+4096)=n0+4096:=by simp[IntKind.wrap_u64];omega
 have w5:IntKind.u64.wrap (dd+2048)=dd+2048:=by simp[IntKind.wrap_u64];omega
 have HB:=zh hb;have HN:=zh hn0;have HH:=zh (show cntH D sn=if sn+2048 < dd then dq+1 else if dd+2048<=sn then dq-1 else dq by unfold cntH;rw[<-hdd,<-hdq]);have HNB:Hid (0<=n0/\n0 < 4294975488):=zh (by omega);clear m hdv hnx hD hdd hdq hb hn0;by_cases ca:sn+2048 < dd
 ·have HE:=zh (show(cntOf D sn).isSome=decide (n0+4096 < 4294967296)/\∀ct,cntOf D sn=some ct->n0+4096=ct by
   have h1:=HH.out;rw[if_pos ca]at h1;have h2:=HB.out;have h3:=HN.out;unfold cntOf;rw[h1];by_cases hc:0<=dq+1/\dq+1 < 1048576
   ·rw[if_pos hc]
    exact⟨by simp;omega,fun ct hct=>by have:=Option.some.inj hct;omega⟩
   ·rw[if_neg hc]
    exact⟨by simp;omega,fun ct hct=>by cases hct⟩)
  have cb:¬dd+2048<=sn:=by omega
  go_enter Tryz.func76,Tryz.ntmps76;go_wp2;go_ret2
  exact⟨by rw[HE.out.1,HCV.out,if_pos ca];rfl,rfl⟩
 ·by_cases cb:dd+2048<=sn
  ·have HE:=zh (show(cntOf D sn).isSome=decide (4096<=n0)/\∀ct,cntOf D sn=some ct->n0-4096=ct by
    have h1:=HH.out;rw[if_neg ca,if_pos cb]at h1;have h2:=HB.out;have h3:=HN.out;unfold cntOf;rw[h1];by_cases hc:0<=dq-1/\dq-1 < 1048576
    ·rw[if_pos hc]
     exact⟨by simp;omega,fun ct hct=>by have:=Option.some.inj hct;omega⟩
    ·rw[if_neg hc]
     exact⟨by simp;omega,fun ct hct=>by cases hct⟩)
   by_cases cc:n0 < 4096
   ·have HE1:=zh (show(cntOf D sn).isSome=false by rw[HE.out.1];exact decide_eq_false (by omega));go_enter Tryz.func76,Tryz.ntmps76;go_wp2;go_ret2
    exact⟨by rw[HE1.out,HCV.out,if_neg (by omega),if_pos (by omega),if_pos (by omega)];rfl,rfl⟩
   ·have HE1:=zh (show(cntOf D sn).isSome=true by rw[HE.out.1];exact decide_eq_true (by omega));have w6:IntKind.u64.wrap (n0-4096)=n0-4096:=by have:=HNB.out;simp[IntKind.wrap_u64];omega
    have cd:n0-4096 < 4294967296:=by have h1:=HB.out;have h2:=HN.out;omega
    go_enter Tryz.func76,Tryz.ntmps76;go_wp2;go_ret2
    exact⟨by rw[HE1.out,HCV.out,if_neg (by omega),if_pos (by omega),if_neg (by omega)];first | rfl | simp[cd],rfl⟩
  ·have HE:=zh (show(cntOf D sn).isSome=decide (n0 < 4294967296)/\∀ct,cntOf D sn=some ct->n0=ct by
    have h1:=HH.out;rw[if_neg ca,if_neg cb]at h1;have h2:=HB.out;have h3:=HN.out;unfold cntOf;rw[h1];by_cases hc:0<=dq/\dq < 1048576
    ·rw[if_pos hc]
     exact⟨by simp;omega,fun ct hct=>by have:=Option.some.inj hct;omega⟩
    ·rw[if_neg hc]
     exact⟨by simp;omega,fun ct hct=>by cases hct⟩)
   go_enter Tryz.func76,Tryz.ntmps76;go_wp2;go_ret2
   exact⟨by rw[HE.out.1,HCV.out,if_neg (by omega),if_neg (by omega)];rfl,rfl⟩
theorem cntV_some {d sn ct:Int} (h:cntOf d sn=some ct):cntV d sn=ct:=by
 unfold cntOf at h;by_cases h1:0<=cntH d sn/\cntH d sn < 1048576
 ·rw[if_pos h1]at h;have h2:=Option.some.inj h;unfold cntH at h1 h2;unfold cntV
  split<;>simp_all<;>(try split)<;>omega
 ·rw[if_neg h1]at h
  cases h
end Go.Proofs.YtnadmdadcpemnaaGreat
