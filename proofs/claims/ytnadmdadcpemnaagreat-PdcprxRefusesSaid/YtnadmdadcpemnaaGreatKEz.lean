import Derived.Test.YtnadmdadcpemnaaGreatMZMz
import Derived.Test.YtnadmdadcpemnaaGreatCBz
import Derived.Test.YtnadmdadcpemnaaGreatMCHz
namespace Go.Proofs.YtnadmdadcpemnaaGreat
open Go.RowKit
set_option linter.unusedVariables false
set_option linter.unusedSimpArgs false
attribute [local go_sem ↓] Go.wp_at_zero Go.wp_at_succ
private theorem zh {p:Prop} (h:p):Go.RowKit.Hid p:=h
private theorem tkH {P:Program} {ops:Array Oper} {Q:Exit→Act→World→Prop} {md:Region.Mode} {S:World→Prop} {i:Nat} {oi:Oper} {v:Value} {fuel:Nat} {listed l':Array Bool} {a a':Act} {w:World} (hi:ops[i]? = some oi) (hy:YieldsIf P ops S oi v a) (hS:S w)
  (h:wpAnyH P md ops Q S fuel l' a' w) (hl:listed.setIfInBounds i true=l':=by(try simp only[List.setIfInBounds_toArray,List.set_cons_zero,List.set_cons_succ]);rfl) (ha:a.put oi.dst v=a':=by(try simp only[Act.put,List.setIfInBounds_toArray,List.set_cons_zero,List.set_cons_succ]);rfl) (hs:Region.noSelect ops=true:=by kernel_rfl) (hf:Region.free md ops listed i=true:=by kernel_rfl) (hr:(Region.ready md ops listed).contains i=true:=by kernel_rfl)
  (hQ:∀c a w,Q (.panic c) (a.put oi.dst v) w→Q (.panic c) a w:=by exact fun _ _ _ h=>h):wpAnyH P md ops Q S (fuel+1) listed a w:=by subst hl;subst ha;exact wpAnyH_take hi hs hf hr hQ hy hS h
theorem small46_few {m:Nat} {pn:Nat→Nat} (h:small46 m pn=true):m≤40:=by
 unfold small46 at h
 exact(of_decide_eq_true h).1
theorem soloR_res {cf:Cfg} {d nx:Int} {L:List SV} {w0 V:World} {g mS mU eb:Nat} {X:Obj} {l:List SE} {R:Nat→Prop} {w':World} {N:Nat→Prop} (hlow:Below w0.heap.size w0 V) (hT:RxM w' g (rresS cf X d nx L) (fun k=>k=g∨k=mS∨k=mU∨k=eb) R mS l mU eb) (h1:V.heap.size≤g) (h2:V.heap.size≤mS) (h3:V.heap.size≤mU) (h4:V.heap.size≤eb) (hR:∀k,R k→V.heap.size≤k) (hB:Below V.heap.size V w') (hN:∀k,N k→w0.heap.size≤k∧k < V.heap.size):SoloR w0 w' g (rresS cf X d nx L) N:=by
 have hs:=hlow.size
 refine⟨_,R,mS,l,mU,eb,hT,fun k hk=>?_,hlow.trans (hB.mono hs),fun k hk=>⟨(hN k hk).1,Nat.lt_of_lt_of_le (hN k hk).2 hB.size,fun hw=>?_,fun hr=>?_⟩⟩
 ·rcases hk with h | h | h | h<;>omega
 ·have:=(hN k hk).2
  rcases hw with h | h | h | h<;>omega
 ·have:=(hN k hk).2
  have:=hR k hr
  omega
set_option maxRecDepth 100000 in
set_option maxHeartbeats 6400000 in
theorem refuses_walk (c:Cfg) (hck:c.Ok) (xd xn:Int) (xA:Option Addr) (xm xc:Nat) (ct:Nat→Int) (PA:Nat→Option Addr) (pn pc:Nat→Nat) (z:Nat→Nat→Int) (hx:0≤xd∧xd < 18446744073709551616) (hy:0≤xn∧xn < 18446744073709551616) (hm:xm≤maxLen) (A:Option Addr) (n cp:Nat) (y:Nat→Nat) (hnm:n≤maxLen) (hnc:n≤cp) (hyb:∀j,y j < 256) (w:World) (hcn:Cnts w xA xm ct PA pn pc z) (hr:Row w w.heap.size A n (fun j=>.int .u8 ((y j:Nat):Int))) :
  Calls Tryz.prog 4 #[.agg c.arr,.agg #[.int .u64 xd,.int .u64 xn,.slice xA xm xc],.slice A n cp] w fun e w'=>e=.returned (.bool true)∧Below w.heap.size w w':=by
 unfold maxLen at hnm
 have HKN:=zh (fun V=>known_true V)
 have HPL:=zh (fun V=>plain46_ok c V)
 obtain⟨cf,hcf⟩:∃cf:Cfg,cf={ c.noK with ro:=0 }:=⟨_,rfl⟩
 have hok:cf.Ok:=by rw[hcf];exact⟨hck.key,hck.code⟩
 have hcm:cf.cm=false:=by rw[hcf];rfl
 have hro:cf.ro=0:=by rw[hcf]
 have HCF:=zh (And.intro hok (And.intro hcm hro))
 have HS0:Hid ((Tryz.prog.info? 25).map (·.size)=some c.arr.size):=zh (by rw[c.arr_size];exact infoPd)
 have HS1:Hid ((Tryz.prog.info? 25).map (·.size)=some c.noK.arr.size):=zh (by rw[c.noK.arr_size];exact infoPd)
 have HS2:Hid ((Tryz.prog.info? 25).map (·.size)=some cf.arr.size):=zh (by rw[cf.arr_size];exact infoPd)
 have HSS:Hid (c.arr.size=c.noK.arr.size):=zh (by rw[c.arr_size,c.noK.arr_size])
 have HO1:=zh c.noK.arr_one
 have HSET:Hid (c.noK.arr.setIfInBounds 38 (.int .i64 0)=cf.arr):=zh (by rw[Cfg.setRo_arr,hcf])
 have HY38:=zh (show c.noK.arr[38]? = some (.int .i64 c.ro)from c.noK.arr_at (by decide))
 have HSM:=zh (fun V (hb:Below w.heap.size w V)=>small46_ok xd xn xA xm xc ct PA pn pc z V hm (hcn.below hb))
 have HRG:=zh (fun(hv:cf.Valid) (hw:Whole xd xn xm ct pn) V (hb:Below w.heap.size w V)=>rresume_any cf V hv xA xm xc xd xn ct PA pn pc z hx.1 hm (hcn.below hb) hw)
 have HRB:=zh (fun(hw:¬(cf.Valid∧Whole xd xn xm ct pn)) V (hb:Below w.heap.size w V)=>rresume_bad cf xA xm xc xd xn ct PA pn pc z V hx.1 hy hx.2 hm (hcn.below hb) hw)
 have HCN:=zh (fun V (hb:Below w.heap.size w V)=>cntL_cnts (hcn.below hb))
 have HRW:=zh (fun V (hb:Below w.heap.size w V)=>(hr.next hb:Row V V.heap.size A n (fun j=>.int .u8 ((y j:Nat):Int))))
 have HLT:=zh (show ∀a,A=some a→0 < n→a.block < w.heap.size from fun a ha h0=>by obtain⟨b,o,e,hb,_⟩:=hr h0;rw[ha]at e;cases e;exact hb)
 have HYB:=zh hyb
 have HX:=zh hx
 have HY:=zh hy
 have HM:=zh hm
 have HNC:=zh hnc
 obtain⟨Z,hZ⟩:∃Z,Z=c.arr:=⟨_,rfl⟩
 obtain⟨Y,hY⟩:∃Y,Y=c.noK.arr:=⟨_,rfl⟩
 obtain⟨CA,hCA⟩:∃CA,CA=cf.arr:=⟨_,rfl⟩
 rw[←hZ]at HPL HS0 HSS ⊢
 rw[←hY]at HPL HS1 HSS HO1 HSET HY38
 rw[←hCA]at HS2 HSET HRG HRB
 have HU:=zh Tryz.underlying25
 have n0:(0:Int)≤(n:Int):=by omega
 clear hZ hY hCA hok hcm hro hcf hck hx hy hcn hr hyb hm hnc
 go_enter Tryz.func4,Tryz.ntmps4
 go_upto_region 1 with (fail)
 obtain⟨g,hg⟩:∃g,g=w.heap.size:=⟨_,rfl⟩
 refine wp_let (fun W=>Blk W g 25 Z∧Blk W (g+1) 46 #[.int .u64 xd,.int .u64 xn,.slice xA xm xc]∧Below w.heap.size w W) ⟨by rw[hg];exact(Blk.new _ _ _).alloc _,by rw[hg];exact blk_atZ _ _ _ _ (by simp),((Below.refl _ w).alloc (Nat.le_refl _) _).alloc (by simp) _⟩ ?_
 rintro W1 ⟨b1,b2,b3⟩
 have B1:=zh b1
 have B2:=zh b2
 have B3:=zh b3
 have HG:=zh hg
 rw[←hg]
 clear b1 b2 b3 hg
 go_upto_region 2 with (first
  | (refine wpList_load_row rfl _ _ rfl g rfl 25 Z (0,0) _ B1.out HU.out rfl HS0.out ?_)
  | (go_at_call 7;refine(HPL.out _).mono ?_;rintro e w2 ⟨rfl,hB⟩;have C1:=zh (B1.out.below hB B1.out.lt);have C2:=zh (B2.out.below hB B2.out.lt);have C3:=zh (B3.out.trans (hB.mono B3.out.size));clear hB)
  | (refine wpList_store_row rfl _ _ _ rfl g Y rfl rfl 25 _ C1.out HS1.out HSS.out HO1.out ?_))
 try simp only[Act.put]
 refine wp_let (fun W=>Blk W g 25 Y∧Blk W (g+1) 46 #[.int .u64 xd,.int .u64 xn,.slice xA xm xc]∧Below w.heap.size w W) ⟨setRow_heap _ _ _ Y 25 (0,0) C1.out,C2.out.farRow (by omega),belowRow C3.out (by rw[HG.out];exact Nat.le_refl _) _⟩ ?_
 rintro W2 ⟨b1,b2,b3⟩
 have D1:=zh b1
 have D2:=zh b2
 have D3:=zh b3
 have y38:=(b1.cell 38).trans HY38.out
 have f38:=b1.frozen 38
 clear b1 b2 b3 B1 B2 B3 C1 C2 C3
 go_upto_region 3 with (fail)
 refine wp_let (fun W=>Blk W g 25 CA∧Blk W (g+1) 46 #[.int .u64 xd,.int .u64 xn,.slice xA xm xc]∧Below w.heap.size w W) ⟨by rw[←HSET.out];exact D1.out.set_ 38 _,(keep_set W2 g 38 _).blk D2.out (fun h=>absurd h (by omega)),D3.out.setCell (p:=⟨g,38,none⟩) (by rw[HG.out];exact Nat.le_refl _) _⟩ ?_
 rintro W3 ⟨b1,b2,b3⟩
 have E1:=zh b1
 have E2:=zh b2
 have E3:=zh b3
 have x0:=b2.cell 0
 have x1:=b2.cell 1
 have x2:=b2.cell 2
 simp at x0 x1 x2
 clear b1 b2 b3 D1 D2 D3 y38 f38
 by_cases hs:small46 xm pn=true
 rotate_left
 ·rw[Bool.not_eq_true]at hs
  rw[hs]at HSM
  go_wp2_with (first
   | (go_at_call 15;refine(HSM.out _ E3.out).mono ?_;rintro e w4 ⟨rfl,hB⟩;have F1:=zh (E1.out.below hB E1.out.lt);have F2:=zh (E2.out.below hB E2.out.lt);have F3:=zh (E3.out.trans (hB.mono E3.out.size));have x0':=(E2.out.below hB E2.out.lt).cell 0;have x1':=(E2.out.below hB E2.out.lt).cell 1;have x2':=(E2.out.below hB E2.out.lt).cell 2;simp at x0' x1' x2';clear hB)
   | (go_at_call 9;refine(HKN.out _).mono ?_;rintro e u9 ⟨rfl,hB⟩;have G3:=zh (F3.out.trans (hB.mono F3.out.size));clear hB))
  go_ret
  exact⟨rfl,G3.out⟩
 rw[hs]at HSM
 have HFEW:=zh (small46_few hs)
 clear hs
 by_cases hn6:(600:Int) < (n:Int)
 ·go_wp2_with (first
   | (go_at_call 15;refine(HSM.out _ E3.out).mono ?_;rintro e w4 ⟨rfl,hB⟩;have F1:=zh (E1.out.below hB E1.out.lt);have F2:=zh (E2.out.below hB E2.out.lt);have F3:=zh (E3.out.trans (hB.mono E3.out.size));have x0':=(E2.out.below hB E2.out.lt).cell 0;have x1':=(E2.out.below hB E2.out.lt).cell 1;have x2':=(E2.out.below hB E2.out.lt).cell 2;simp at x0' x1' x2';clear hB)
   | (go_at_call 9;refine(HKN.out _).mono ?_;rintro e u9 ⟨rfl,hB⟩;have G3:=zh (F3.out.trans (hB.mono F3.out.size));clear hB))
  go_ret
  exact⟨rfl,G3.out⟩
 have HN6:=zh (show n≤600 by omega)
 go_upto_region 5 with (go_at_call 15;refine(HSM.out _ E3.out).mono ?_;rintro e w4 ⟨rfl,hB⟩;have F1:=zh (E1.out.below hB E1.out.lt);have F2:=zh (E2.out.below hB E2.out.lt);have F3:=zh (E3.out.trans (hB.mono E3.out.size));have x0':=(E2.out.below hB E2.out.lt).cell 0;have x1':=(E2.out.below hB E2.out.lt).cell 1;have x2':=(E2.out.below hB E2.out.lt).cell 2;simp at x0' x1' x2';clear hB)
 clear x0 x1 x2
 by_cases hw:¬(cf.Valid∧Whole xd xn xm ct pn)
 ·go_wp2_with (first
   | (refine wpList_load_row rfl _ _ rfl g rfl 25 CA (0,0) _ F1.out HU.out rfl HS2.out ?_)
   | (go_at_call 16;refine(HRB.out hw _ F3.out).mono ?_;rintro e w5 ⟨rfl,hB⟩;have G3:=zh (F3.out.trans (hB.mono F3.out.size));clear hB)
   | (go_at_call 9;refine(HKN.out _).mono ?_;rintro e u9 ⟨rfl,hB⟩;have H3:=zh (G3.out.trans (hB.mono G3.out.size));clear hB))
  go_ret
  exact⟨rfl,H3.out⟩
 have hw2:cf.Valid∧Whole xd xn xm ct pn:=Classical.not_not.1 hw
 have HVW:=zh hw2
 clear hw hw2 HRB
 go_upto_region 10 with (first
   | (refine wpList_load_row rfl _ _ rfl g rfl 25 CA (0,0) _ F1.out HU.out rfl HS2.out ?_)
   | (go_at_call 16;refine(HRG.out HVW.out.1 HVW.out.2 _ F3.out).mono ?_;rintro e w5 ⟨g5,mS,mU,eb,X,l0,R0,rfl,hT,h1,h2,h3,h4,hR0,hB⟩;have G1:=zh (F1.out.below hB F1.out.lt);have G2:=zh (F2.out.below hB F2.out.lt);have G0:=zh (soloR_res (N:=fun k=>k=g∨k=g+1) F3.out hT h1 h2 h3 h4 hR0 hB (fun k hk=>by have:=HG.out;have:=F2.out.lt;rcases hk with h | h<;>omega));clear hT h1 h2 h3 h4 hR0 hB))
 obtain⟨s0,hs0⟩:∃s0,s0=rresS cf X xd xn (svTo ct pn z xm):=⟨_,rfl⟩
 have q1:s0.C=cf∧s0.deliver=xd∧s0.next=xn∧s0.L=svTo ct pn z xm∧s0.run=false∧s0.dup=0:=by rw[hs0];exact⟨rfl,rfl,rfl,rfl,rfl,rfl⟩
 rw[←hs0]at G0
 have HQ:=zh q1
 have HFI:=zh (show RFine s0 from ⟨by rw[q1.1];exact HCF.out.1,by rw[q1.1];exact HVW.out.1,by rw[q1.1];exact HCF.out.2.1,by rw[q1.2.2.2.1,svTo_len];have:=HFEW.out;omega,by rw[q1.2.2.2.2.2];decide⟩)
 have hRF:=refuses s0 q1.2.2.2.2.1 (by rw[q1.1];exact HCF.out.2.2) (by rw[q1.2.1];exact HX.out.1) (by rw[q1.2.2.2.1,svTo_len];exact HFEW.out) n y HYB.out
 have HRC:=zh (fun V s N (h:SoloR w V g5 s N) (hf:RFine s)=>solor_receive h hf 0 A n cp y (by have:=HN6.out;omega) HNC.out (fun j _=>HYB.out j) (HRW.out V h.low) (fun a ha h0=>.inl (HLT.out a ha (by omega))))
 have HD0:=zh (fun V N (h:SoloR w V g5 s0 N)=>solor_dups h)
 rw[HQ.out.2.2.2.2.2]at HD0
 clear q1 hs0
 have HRF:=zh hRF
 clear hRF
 go_upto_region 12 with (first
   | (go_at_call 17;refine(HD0.out _ _ G0.out).mono ?_;rintro e v0 ⟨rfl,hv0⟩;subst hv0)
   | (go_at_call 11;refine(HRC.out _ _ _ G0.out HFI.out).mono ?_;rintro e v1 ⟨A1,c1,lo1,rfl,hO1,hm1,hp1,hS1,hK1⟩;have HS1:=zh hS1;have HK1:=zh hK1;have HM1:=zh hm1;clear hO1 hm1 hp1 hS1 hK1))
 have I2:=zh (HK1.out.blk G2.out (fun h=>h (.inr rfl)))
 rcases HRF.out with ⟨he,hl,hs⟩ | ⟨he,hl,hs⟩ | ⟨s1,he,hs,hdu,hdl,hnx,hrun,hC,hL,hL1,hag⟩
 ·have e1:lo1.length=0:=by
   have h:=congrArg List.length HM1.out
   rw[hl,List.length_map]at h
   exact h
  rw[e1]
  obtain⟨E,hE⟩:∃E,E=(s0.receive 0 n y).2.1:=⟨_,rfl⟩
  rw[←hE]at he ⊢
  have hE0:(E == 0)=false:=by simpa using he
  have hE1:(E != 0)=true:=by simpa using he
  rw[hs]at HS1
  obtain⟨s1,hs1⟩:∃s1,s1=s0.at_ 0:=⟨_,rfl⟩
  rw[←hs1]at HS1
  have HS2:=HS1
  have HD1:=zh (show s1.deliver=xd∧s1.next=xn∧s1.L=svTo ct pn z xm∧s1.dup=0 from by rw[hs1];exact⟨HQ.out.2.1,HQ.out.2.2.1,HQ.out.2.2.2.1,HQ.out.2.2.2.2.2⟩)
  have HL2:=zh (show s1.L.length≤250 from by rw[HD1.out.2.2.1,svTo_len];have:=HFEW.out;omega)
  have HLO:=zh HS1.out.low
  clear he hl hs hE hs1 e1
  go_upto_region 13 with (fail)
  have HSX:=zh (show ∀W',Below v1.heap.size v1 W'→W'.cell? ⟨g+1,0,none⟩=some (.int .u64 xd)∧W'.cell? ⟨g+1,1,none⟩=some (.int .u64 xn)∧W'.cell? ⟨g+1,2,none⟩=some (.slice xA xm xc)from fun W' hW=>by
   have h2:=I2.out.below hW I2.out.lt
   exact⟨h2.cell 0,h2.cell 1,h2.cell 2⟩)
  refine wp_region_held_drew (S:=fun w'=>Below v1.heap.size v1 w') (by kernel_rfl) ((Below.refl _ v1).drew) (fun hHeld=>?_)
  obtain⟨v0,hv0⟩:∃v0,v0=v1.drew:=⟨_,rfl⟩
  rw[←hv0]
  rw[←hv0]at hHeld
  clear hv0
  refine tkH (i:=0) (oi:=⟨some 54,_,_,_,_,_⟩) (v:=.slice A1 0 c1) rfl (Or.inl ⟨by rfl,fun W hW=>(by rfl)⟩) (by assumption) ?_
  refine tkH (i:=1) (oi:=⟨some 55,_,_,_,_,_⟩) (v:=.int .i64 0) rfl (Or.inl ⟨by rfl,fun W hW=>(by go_simp)⟩) (by assumption) ?_
  refine tkH (i:=2) (oi:=⟨some 56,_,_,_,_,_⟩) (v:=.bool true) rfl (Or.inl ⟨by rfl,fun W hW=>(by go_simp)⟩) (by assumption) ?_
  refine tkH (i:=3) (oi:=⟨some 57,_,_,_,_,_⟩) (v:=.bool true) rfl (Or.inl ⟨by rfl,fun W hW=>(by rfl)⟩) (by assumption) ?_
  refine tkH (i:=4) (oi:=⟨some 58,_,_,_,_,_⟩) (v:=.pointer (some ⟨g5,0,none⟩)) rfl (Or.inl ⟨by rfl,fun W hW=>(by rfl)⟩) (by assumption) ?_
  refine tkH (i:=6) (oi:=⟨some 60,_,_,_,_,_⟩) (v:=.agg #[.int .u64 xd,.int .u64 xn,.slice xA xm xc]) rfl (Or.inl ⟨by rfl,fun W hW=>(by obtain⟨u0,u1,u2⟩:=HSX.out W hW;go_simp)⟩) (by assumption) ?_
  refine wpAnyH_ready (rs:=[5]) (by kernel_rfl) (by simp) ?_
  refine AllReadyH.cons (o:=⟨some 59,_,_,_,_,_⟩) rfl (fun K hK=>?_) AllReadyH.nil
  rw[if_pos (by rfl)]
  go_simp
  refine(solor_export (HS2.out.below hHeld) HL2.out).mono ?_
  rintro e v2 ⟨A2,c2,rfl,hc2,hC2,hbk⟩
  rw[HD1.out.1,HD1.out.2.1,HD1.out.2.2.1,svTo_len]
  rw[HD1.out.2.2.1]at hC2
  dsimp only
  have HC2:=zh hC2
  refine hK.out _ _ (hHeld.trans (hbk.mono hHeld.size)) (fun hHeld=>?_)
  clear hK K hbk hc2 hC2
  try simp only[Act.put,List.setIfInBounds_toArray,List.set_cons_zero,List.set_cons_succ]
  refine wpAnyH_ready (rs:=[7]) (by kernel_rfl) (by simp) ?_
  refine AllReadyH.cons (o:=⟨some 61,_,_,_,_,_⟩) rfl (fun K hK=>?_) AllReadyH.nil
  rw[if_pos (by rfl)]
  go_simp
  refine(same46_L xd xn A2 xA xm c2 xc (svTo ct pn z xm) _ (svTo_len _ _ _ _).symm HM.out HC2.out (HCN.out _ (HLO.out.trans (hHeld.mono HLO.out.size)))).mono ?_
  rintro e v3 ⟨rfl,hbk⟩
  dsimp only
  refine hK.out _ _ (hHeld.trans (hbk.mono hHeld.size)) (fun hHeld=>?_)
  clear hK K hbk
  try simp only[Act.put,List.setIfInBounds_toArray,List.set_cons_zero,List.set_cons_succ]
  refine tkH (i:=8) (oi:=⟨some 62,_,_,_,_,_⟩) (v:=.bool true) rfl (Or.inl ⟨by rfl,fun W hW=>(by go_simp)⟩) (by assumption) ?_
  refine tkH (i:=9) (oi:=⟨some 63,_,_,_,_,_⟩) (v:=.bool true) rfl (Or.inl ⟨by rfl,fun W hW=>(by rfl)⟩) (by assumption) ?_
  refine wpAnyH_ready (rs:=[10]) (by kernel_rfl) (by simp) ?_
  refine AllReadyH.cons (o:=⟨some 64,_,_,_,_,_⟩) rfl (fun K hK=>?_) AllReadyH.nil
  rw[if_pos (by rfl)]
  go_simp
  refine(HKN.out _).mono ?_
  rintro e v4 ⟨rfl,hbk⟩
  dsimp only
  refine hK.out _ _ (hHeld.trans (hbk.mono hHeld.size)) (fun hHeld=>?_)
  clear hK K hbk
  try simp only[Act.put,List.setIfInBounds_toArray,List.set_cons_zero,List.set_cons_succ]
  refine tkH (i:=11) (oi:=⟨some 65,_,_,_,_,_⟩) (v:=.bool true) rfl (Or.inl ⟨by rfl,fun W hW=>(by go_simp)⟩) (by assumption) ?_
  refine tkH (i:=12) (oi:=⟨some 6,_,_,_,_,_⟩) (v:=.bool true) rfl (Or.inl ⟨by rfl,fun W hW=>(by rfl)⟩) (by assumption) ?_
  refine wpAnyH_done (by kernel_rfl) ?_ _
  have HF:=zh (HLO.out.trans (hHeld.mono HLO.out.size))
  clear hHeld
  go_wp2
  go_ret
  exact⟨rfl,HF.out⟩
 ·have e1:lo1.length=0:=by
   have h:=congrArg List.length HM1.out
   rw[hl,List.length_map]at h
   exact h
  rw[e1,he]
  rw[hs]at HS1
  obtain⟨s1,hs1⟩:∃s1:RS,s1={ s0.at_ 0 with dup:=s0.dup+1 }:=⟨_,rfl⟩
  rw[←hs1]at HS1
  have HS2:=HS1
  have HD1:=zh (show s1.deliver=xd∧s1.next=xn∧s1.L=svTo ct pn z xm∧s1.dup=1 from by rw[hs1];exact⟨HQ.out.2.1,HQ.out.2.2.1,HQ.out.2.2.2.1,by show s0.dup+1=1;rw[HQ.out.2.2.2.2.2];rfl⟩)
  have HL2:=zh (show s1.L.length≤250 from by rw[HD1.out.2.2.1,svTo_len];have:=HFEW.out;omega)
  have HLO:=zh HS1.out.low
  have HDD:=zh (solor_dups HS1.out)
  rw[HD1.out.2.2.2]at HDD
  clear he hl hs hs1 e1
  go_upto_region 13 with (go_at_call 17;refine(HDD.out).mono ?_;rintro e v0 ⟨rfl,hv0⟩;subst hv0)
  have HSX:=zh (show ∀W',Below v1.heap.size v1 W'→W'.cell? ⟨g+1,0,none⟩=some (.int .u64 xd)∧W'.cell? ⟨g+1,1,none⟩=some (.int .u64 xn)∧W'.cell? ⟨g+1,2,none⟩=some (.slice xA xm xc)from fun W' hW=>by
   have h2:=I2.out.below hW I2.out.lt
   exact⟨h2.cell 0,h2.cell 1,h2.cell 2⟩)
  refine wp_region_held_drew (S:=fun w'=>Below v1.heap.size v1 w') (by kernel_rfl) ((Below.refl _ v1).drew) (fun hHeld=>?_)
  obtain⟨v0,hv0⟩:∃v0,v0=v1.drew:=⟨_,rfl⟩
  rw[←hv0]
  rw[←hv0]at hHeld
  clear hv0
  refine tkH (i:=0) (oi:=⟨some 54,_,_,_,_,_⟩) (v:=.slice A1 0 c1) rfl (Or.inl ⟨by rfl,fun W hW=>(by rfl)⟩) (by assumption) ?_
  refine tkH (i:=1) (oi:=⟨some 55,_,_,_,_,_⟩) (v:=.int .i64 0) rfl (Or.inl ⟨by rfl,fun W hW=>(by go_simp)⟩) (by assumption) ?_
  refine tkH (i:=2) (oi:=⟨some 56,_,_,_,_,_⟩) (v:=.bool true) rfl (Or.inl ⟨by rfl,fun W hW=>(by go_simp)⟩) (by assumption) ?_
  refine tkH (i:=3) (oi:=⟨some 57,_,_,_,_,_⟩) (v:=.bool true) rfl (Or.inl ⟨by rfl,fun W hW=>(by rfl)⟩) (by assumption) ?_
  refine tkH (i:=4) (oi:=⟨some 58,_,_,_,_,_⟩) (v:=.pointer (some ⟨g5,0,none⟩)) rfl (Or.inl ⟨by rfl,fun W hW=>(by rfl)⟩) (by assumption) ?_
  refine tkH (i:=6) (oi:=⟨some 60,_,_,_,_,_⟩) (v:=.agg #[.int .u64 xd,.int .u64 xn,.slice xA xm xc]) rfl (Or.inl ⟨by rfl,fun W hW=>(by obtain⟨u0,u1,u2⟩:=HSX.out W hW;go_simp)⟩) (by assumption) ?_
  refine wpAnyH_ready (rs:=[5]) (by kernel_rfl) (by simp) ?_
  refine AllReadyH.cons (o:=⟨some 59,_,_,_,_,_⟩) rfl (fun K hK=>?_) AllReadyH.nil
  rw[if_pos (by rfl)]
  go_simp
  refine(solor_export (HS2.out.below hHeld) HL2.out).mono ?_
  rintro e v2 ⟨A2,c2,rfl,hc2,hC2,hbk⟩
  rw[HD1.out.1,HD1.out.2.1,HD1.out.2.2.1,svTo_len]
  rw[HD1.out.2.2.1]at hC2
  dsimp only
  have HC2:=zh hC2
  refine hK.out _ _ (hHeld.trans (hbk.mono hHeld.size)) (fun hHeld=>?_)
  clear hK K hbk hc2 hC2
  try simp only[Act.put,List.setIfInBounds_toArray,List.set_cons_zero,List.set_cons_succ]
  refine wpAnyH_ready (rs:=[7]) (by kernel_rfl) (by simp) ?_
  refine AllReadyH.cons (o:=⟨some 61,_,_,_,_,_⟩) rfl (fun K hK=>?_) AllReadyH.nil
  rw[if_pos (by rfl)]
  go_simp
  refine(same46_L xd xn A2 xA xm c2 xc (svTo ct pn z xm) _ (svTo_len _ _ _ _).symm HM.out HC2.out (HCN.out _ (HLO.out.trans (hHeld.mono HLO.out.size)))).mono ?_
  rintro e v3 ⟨rfl,hbk⟩
  dsimp only
  refine hK.out _ _ (hHeld.trans (hbk.mono hHeld.size)) (fun hHeld=>?_)
  clear hK K hbk
  try simp only[Act.put,List.setIfInBounds_toArray,List.set_cons_zero,List.set_cons_succ]
  refine tkH (i:=8) (oi:=⟨some 62,_,_,_,_,_⟩) (v:=.bool true) rfl (Or.inl ⟨by rfl,fun W hW=>(by go_simp)⟩) (by assumption) ?_
  refine tkH (i:=9) (oi:=⟨some 63,_,_,_,_,_⟩) (v:=.bool true) rfl (Or.inl ⟨by rfl,fun W hW=>(by rfl)⟩) (by assumption) ?_
  refine wpAnyH_ready (rs:=[10]) (by kernel_rfl) (by simp) ?_
  refine AllReadyH.cons (o:=⟨some 64,_,_,_,_,_⟩) rfl (fun K hK=>?_) AllReadyH.nil
  rw[if_pos (by rfl)]
  go_simp
  refine(HKN.out _).mono ?_
  rintro e v4 ⟨rfl,hbk⟩
  dsimp only
  refine hK.out _ _ (hHeld.trans (hbk.mono hHeld.size)) (fun hHeld=>?_)
  clear hK K hbk
  try simp only[Act.put,List.setIfInBounds_toArray,List.set_cons_zero,List.set_cons_succ]
  refine tkH (i:=11) (oi:=⟨some 65,_,_,_,_,_⟩) (v:=.bool true) rfl (Or.inl ⟨by rfl,fun W hW=>(by go_simp)⟩) (by assumption) ?_
  refine tkH (i:=12) (oi:=⟨some 6,_,_,_,_,_⟩) (v:=.bool true) rfl (Or.inl ⟨by rfl,fun W hW=>(by rfl)⟩) (by assumption) ?_
  refine wpAnyH_done (by kernel_rfl) ?_ _
  have HF:=zh (HLO.out.trans (hHeld.mono HLO.out.size))
  clear hHeld
  go_wp2
  go_ret
  exact⟨rfl,HF.out⟩
 ·rw[he]
  rw[hs]at HS1
  obtain⟨K,hK⟩:∃K,K=lo1.length:=⟨_,rfl⟩
  have hK2:(s0.receive 0 n y).1.length=K:=by rw[hK,←HM1.out,List.length_map]
  rw[hK2,HQ.out.2.1]at hdl
  rw[HQ.out.2.2.1]at hnx
  rw[HQ.out.2.2.2.2.2]at hdu
  rw[HQ.out.2.2.2.1,svTo_len]at hL
  rw[HQ.out.1]at hC
  rw[←hK]
  have hK3:K≤100:=by
   have h1:lo1.length=(s0.receive 0 n y).1.length:=by rw[←HM1.out,List.length_map]
   have h2:(s0.receive 0 n y).1.length≤41:=by rw[HQ.out.2.2.2.1,svTo_len]at hL1;have:=HFEW.out;omega
   omega
  have HFI1:=zh (show RFine s1 from ⟨by rw[hC];exact HCF.out.1,by rw[hC];exact HVW.out.1,by rw[hC];exact HCF.out.2.1,by have:=HFEW.out;omega,by rw[hdu];decide⟩)
  have HDD:=zh (solor_dups HS1.out)
  rw[hdu]at HDD
  have HL2:=zh (show s1.L.length≤250 from by have:=HFEW.out;omega)
  have HLO:=zh HS1.out.low
  have HAG:=zh hag
  have HDU:=zh hdu
  obtain⟨D1,hD1⟩:∃D1,D1=s1.deliver:=⟨_,rfl⟩
  obtain⟨N1,hN1⟩:∃N1,N1=s1.next:=⟨_,rfl⟩
  rw[←hD1]at hdl
  rw[←hN1]at hnx
  have HDN:=zh (And.intro hD1 hN1)
  have HXX:=HX.out
  have HYY:=HY.out
  have w1:IntKind.u64.wrap (D1-xd)=(K:Int):=by simp[IntKind.wrap_u64];omega
  have w2:IntKind.u64.wrap (K:Int)=(K:Int):=by simp[IntKind.wrap_u64];omega
  have t1:decide (D1 < xd)=false:=decide_eq_false (by omega)
  have t3:decide (N1 < xn)=false:=decide_eq_false (by omega)
  clear he hs hK hK2 hdl hnx hdu hL hL1 hC hK3 hag hD1 hN1 HXX HYY
  go_upto_region 14 with (go_at_call 17;refine(HDD.out).mono ?_;rintro e v0 ⟨rfl,hv0⟩;subst hv0)
  go_upto_region 15 with (go_at_call 19;refine(solor_export HS1.out HL2.out).mono ?_;rintro e v2 ⟨A2,c2,rfl,hc2,hC2,hbk⟩;rw[←HDN.out.1,←HDN.out.2];have HB2:=zh hbk;clear hc2 hC2 hbk)
  refine wp_let (fun V=>Blk V v2.heap.size 46 #[.int .u64 D1,.int .u64 N1,.slice A2 s1.L.length c2]∧Below v1.heap.size v1 V) ⟨Blk.new _ _ _,HB2.out.alloc HB2.out.size _⟩ ?_
  rintro w6 ⟨k6,b6⟩
  obtain⟨sb,hsb⟩:∃sb,sb=v2.heap.size:=⟨_,rfl⟩
  rw[←hsb]at k6 ⊢
  have HS6:=zh (HS1.out.below b6)
  have I6:=I2.out.below b6 I2.out.lt
  have z0:=k6.cell 0
  have z1:=k6.cell 1
  have u0:=I6.cell 0
  have u1:=I6.cell 1
  simp at z0 z1 u0 u1
  have HK6:=zh k6
  clear k6 b6 hsb I6
  go_upto_region 18 with (go_at_call 11;refine(HRC.out _ _ _ HS6.out HFI1.out).mono ?_;rintro e v3 ⟨A3,c3,lo3,rfl,hO3,hm3,hp3,hS3,hK3⟩;rw[HAG.out]at hm3 hS3 ⊢;have HS3:=zh hS3;have HM3:=zh hm3;clear hO3 hm3 hp3 hS3 hK3)
  have e3:lo3.length=0:=by
   have h:=congrArg List.length HM3.out
   rw[List.length_map]at h
   exact h
  rw[e3]
  have HLO3:=zh HS3.out.low
  have HDD3:=solor_dups HS3.out
  rw[show({ s1.at_ 0 with dup:=s1.dup+1 }:RS).dup=1 from by show s1.dup+1=1;rw[HDU.out];rfl]at HDD3
  have HD3:=zh HDD3
  clear HDD3 e3 z0 z1 u0 u1
  go_wp2_with (first
   | (go_at_call 17;refine(HD3.out).mono ?_;rintro e v0 ⟨rfl,hv0⟩;subst hv0)
   | (go_at_call 9;refine(HKN.out _).mono ?_;rintro e u9 ⟨rfl,hB⟩;have HF3:=zh (HLO3.out.trans (hB.mono HLO3.out.size));clear hB))
  go_ret
  exact⟨rfl,HF3.out⟩
theorem refuses_walk' (c:Cfg) (hck:c.Ok) (xd xn:Int) (xA:Option Addr) (xm xc:Nat) (ct:Nat→Int) (PA:Nat→Option Addr) (pn pc:Nat→Nat) (z:Nat→Nat→Int) (hx:0≤xd∧xd < 18446744073709551616) (hy:0≤xn∧xn < 18446744073709551616) (hm:xm≤maxLen) (A:Option Addr) (n cp:Nat) (zz:Nat→Int) (hnm:n≤maxLen) (hc:n≤cp∧∀j,j < n→0≤zz j∧zz j < 256) (w:World) (hcn:Cnts w xA xm ct PA pn pc z) (hr:Row w w.heap.size A n (fun j=>.int .u8 (zz j))) :
  Calls Tryz.prog 4 #[.agg c.arr,.agg #[.int .u64 xd,.int .u64 xn,.slice xA xm xc],.slice A n cp] w fun e w'=>e=.returned (.bool true)∧Below w.heap.size w w':=
 refuses_walk c hck xd xn xA xm xc ct PA pn pc z hx hy hm A n cp (fun j=>if j < n then nf zz j else 0) hnm hc.1 (fun j=>by
  show(if j < n then nf zz j else 0) < 256
  split
  ·rename_i hj;exact nf_lt hc.2 hj
  ·decide) w hcn (fun hn=>by
  obtain⟨b,o,h1,h2,h3⟩:=hr hn
  exact⟨b,o,h1,h2,fun j hj=>by
   show _=some (Value.int .u8 (((if j < n then nf zz j else 0):Nat):Int))
   rw[if_pos hj,h3 j hj,nf_cast hc.2 hj]⟩)
end Go.Proofs.YtnadmdadcpemnaaGreat
