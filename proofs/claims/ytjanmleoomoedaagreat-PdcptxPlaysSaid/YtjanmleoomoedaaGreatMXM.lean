import Derived.Test.YtjanmleoomoedaaGreatMXL
namespace Go.Proofs.YtjanmleoomoedaaGreat
open Go.RowKit
set_option linter.unusedVariables false
set_option linter.unusedSimpArgs false
attribute [local go_sem ↓] Go.wp_at_zero Go.wp_at_succ
private theorem zh {p:Prop} (h:p):Hid p:=h
private theorem tkH {P:Program} {ops:Array Oper} {Q:Exit→Act→World→Prop} {md:Region.Mode} {S:World→Prop} {i:Nat} {oi:Oper} {v:Value} {fuel:Nat} {listed l':Array Bool} {a a':Act} {w:World} (hi:ops[i]? = some oi) (hy:YieldsIf P ops S oi v a) (hS:S w)
  (h:wpAnyH P md ops Q S fuel l' a' w) (hl:listed.setIfInBounds i true=l':=by(try simp only[List.setIfInBounds_toArray,List.set_cons_zero,List.set_cons_succ]);rfl) (ha:a.put oi.dst v=a':=by(try simp only[Act.put,List.setIfInBounds_toArray,List.set_cons_zero,List.set_cons_succ]);rfl) (hs:Region.noSelect ops=true:=by kernel_rfl) (hf:Region.free md ops listed i=true:=by kernel_rfl) (hr:(Region.ready md ops listed).contains i=true:=by kernel_rfl)
  (hQ:∀c a w,Q (.panic c) (a.put oi.dst v) w→Q (.panic c) a w:=by exact fun _ _ _ h=>h):wpAnyH P md ops Q S (fuel+1) listed a w:=by subst hl;subst ha;exact wpAnyH_take hi hs hf hr hQ hy hS h
private theorem tkL {P:Program} {ops:Array Oper} {Q:Exit→Act→World→Prop} {md:Region.Mode} {S:World→Prop} {L i:Nat} {oi:Oper} {v:Value} {fuel:Nat} {listed l':Array Bool} {a a':Act} {w:World} (hi:ops[i]? = some oi) (hy:YieldsIf P ops S oi v a) (hS:S w)
  (h:wpAnyL P md ops Q S L fuel l' a' w) (hl:listed.setIfInBounds i true=l':=by(try simp only[List.setIfInBounds_toArray,List.set_cons_zero,List.set_cons_succ]);rfl) (ha:a.put oi.dst v=a':=by(try simp only[Act.put,List.setIfInBounds_toArray,List.set_cons_zero,List.set_cons_succ]);rfl) (hL:waitsFor md ops L i=true:=by kernel_rfl) (hs:Region.noSelect ops=true:=by kernel_rfl) (hf:Region.free md ops listed i=true:=by kernel_rfl) (hr:(Region.ready md ops listed).contains i=true:=by kernel_rfl)
  (hQ:∀c a w,Q (.panic c) (a.put oi.dst v) w→Q (.panic c) a w:=by exact fun _ _ _ h=>h):wpAnyL P md ops Q S L (fuel+1) listed a w:=by subst hl;subst ha;exact wpAnyL_take hi hL hs hf hr hQ hy hS h
theorem um_new {cf:Cfg} {N:Int} {wv:World} {rb nb B:Nat} {ct:Nat→Int} {pn:Nat→Nat} {z:Nat→Nat→Int} {qn:Nat→Nat} {y:Nat→Nat→Int} (hN:0≤N∧N≤4294967296) (hR:Blk wv rb 76 (uArr cf.arr 0 N (.slice none 0 0) (.slice none 0 0) (.slice (some ⟨nb,0,none⟩) 1 1))) (hn:Blk wv nb 23 (kArr cf.key)) (h1:B≤rb) (h2:B≤nb) :
  UM wv B rb (resS cf N 0 ct pn z 0 qn y) none 0 [] none 0 [] (some ⟨nb,0,none⟩) 1 [cf.key]:=
 ⟨hR,rfl,rfl,rfl,SL.nil _ _ _,SL.nil _ _ _,⟨by simp[kCells_len],.inr ⟨nb,0,_,rfl,hn,Nat.le_refl _,by unfold maxLen;decide,Nat.le_refl _,fun j hj=>by
  rw[Nat.zero_add]
  simp[kCells]⟩⟩,fun e he=>(by cases he),fun e he=>(by cases he),fun e he=>(by cases he),h1,fun a ha=>(by cases ha),fun a ha=>(by cases ha),fun a ha=>by cases ha;exact h2,Nat.le_of_lt (Nat.lt_of_le_of_lt h1 hR.lt),⟨Int.le_refl _,by show(0:Int) < 1073741824;decide⟩,hN⟩
structure RU (w:World) (B rb nb:Nat) (cf:Cfg) (N:Int) (FV:Array Value) (k1:Nat) (ct:Nat→Int) (pn:Nat→Nat) (z:Nat→Nat→Int) (k2:Nat) (qn:Nat→Nat) (y:Nat→Nat→Int) (A2:Option Addr) (c2:Nat) (lq:List WE) (A:Option Addr) (c:Nat) (lp:List PE) (wr:World):Prop where
 m:UM wr B rb (resS cf N k1 ct pn z k2 qn y) A2 c2 lq A c lp (some ⟨nb,0,none⟩) 1 [cf.key]
 b:Below w.heap.size w wr
 f:Blk wr (w.heap.size+1) 30 FV
 u:∀q,uBlk rb A2 A (some ⟨nb,0,none⟩) q→w.heap.size+2≤q
set_option maxRecDepth 100000 in
set_option maxHeartbeats 12800000 in
theorem uresume_ok (cf:Cfg) (A0 A20:Option Addr) (m c10 mq c20:Nat) (nx:Int) (us:Bool) (ct:Nat→Int) (PA:Nat→Option Addr) (pn pc:Nat→Nat) (z:Nat→Nat→Int) (QA:Nat→Option Addr) (qn qc:Nat→Nat) (y:Nat→Nat→Int) (w:World) (B:Nat) (hnx:0≤nx∧nx < 4294967296) (hm:m≤1000000) (hmq:mq≤1000000)
  (h:Cnts w A0 m ct PA pn pc z) (hq:BRows w A20 mq QA qn qc y) (hB:B≤w.heap.size) (hcp:∀k,k < m→CPk w B (PA k) (pn k) (pc k) (z k)) (hcq:∀k,k < mq→CPk w B (QA k) (qn k) (qc k) (y k)) :
  Calls Tryz.prog 11 #[.agg cf.arr,.agg #[.int .u32 nx,.bool us,.slice A0 m c10,.slice A20 mq c20]] w fun e w'=>∃rb,e=.returned (.pointer (some ⟨rb,0,none⟩))∧∃A2 c2 lq A c lp uA uc ks,UM w' B rb (resS cf (nextOf nx us) m ct pn z mq qn y) A2 c2 lq A c lp uA uc ks∧Below w.heap.size w w'∧∀q,uBlk rb A2 A uA q→w.heap.size≤q:=by
 have HNX:=zh (fun(W:World)=>unext_ok nx us (.slice A0 m c10) (.slice A20 mq c20) W hnx)
 have HC:=zh h
 have HQ:=zh hq
 have HCP:=zh hcp
 have HCQ:=zh hcq
 have HB:=zh hB
 have HKR0:=zh (show ∀j,j < 16→cf.arr[2+j]? = (kArr cf.key)[j]? from fun j hj=>by
  rw[cf.arr_at (by omega),kArr_at _ j hj]
  unfold Cfg.cell
  rw[if_neg (by omega),if_neg (by omega),if_pos (by omega),show 2+j-2=j by omega])
 obtain⟨N,hN⟩:∃N,N=nextOf nx us:=⟨_,rfl⟩
 have HNR:=zh (show 0≤N∧N≤4294967296 from by rw[hN];unfold nextOf;split<;>omega)
 rw[←hN]at HNX ⊢
 have HZE:=zh (cfgLit_eq cf)
 obtain⟨Z,hZ⟩:∃Z,Z=cf.arr:=⟨_,rfl⟩
 rw[←hZ]at HKR0 HZE ⊢
 have HZZ:=zh hZ
 have HU:=zh Tryz.underlying25
 have HUK:=zh Tryz.underlying23
 have HS39:Hid ((Tryz.prog.info? 25).map (·.size)=some (cfgLit cf).toList.length):=zh infoPd
 have HS16:Hid ((Tryz.prog.info? 23).map (·.size)=some (kArr cf.key).toList.length):=zh (by kernel_rfl)
 have m9:(m:Int)≤1000000:=by omega
 have m0:(0:Int)≤(m:Int):=by omega
 have mq9:(mq:Int)≤1000000:=by omega
 have mq0:(0:Int)≤(mq:Int):=by omega
 obtain⟨ip,hip,hipz,hips,hipb⟩:=infoPendU
 obtain⟨iw,hiw,hiwz,hiws,hiwb⟩:=infoWaitU
 clear h hq hZ hN hnx hcp hcq hB
 go_enter Tryz.func11,Tryz.ntmps11
 go_upto_region 1 with (fail)
 refine wp_let (fun W=>Blk W w.heap.size 25 Z∧Blk W (w.heap.size+1) 30 #[.int .u32 nx,.bool us,.slice A0 m c10,.slice A20 mq c20]∧Below w.heap.size w W) ⟨(Blk.new _ _ _).alloc _,blk_atZ _ _ _ _ (by simp),((Below.refl _ w).alloc (Nat.le_refl _) _).alloc (by simp) _⟩ ?_
 rintro W1 ⟨b1,b2,b3⟩
 obtain⟨zb,hzb⟩:∃zb,zb=w.heap.size:=⟨_,rfl⟩
 rw[←hzb]at b1 b2 ⊢
 have HZB:=zh hzb
 have B1:=zh b1
 have B2:=zh b2
 have B3:=zh (show Below w.heap.size w W1 from by exact b3)
 have h1lt:zb+1 < W1.heap.size:=b2.lt
 obtain⟨B0,hB0⟩:∃B0,B0=W1.heap.size:=⟨_,rfl⟩
 have HB0:=zh hB0
 have HZR:=zh (show ∀W,Below B0 W1 W→W.rangeAt zb 0 (cfgLit cf).toList from fun W hW=>((b1.below hW (by omega)).range _ (by rw[HZE.out])))
 have HKR:=zh (show ∀W,Below B0 W1 W→W.rangeAt zb 2 (kArr cf.key).toList from fun W hW j v hv=>by
  have hj:j < 16:=by have:=(List.getElem?_eq_some_iff.1 hv).1;simpa[kArr]using this
  rw[(b1.below hW (by omega)).cell (2+j),HKR0.out j hj]
  simpa using hv)
 have HSR:=zh (show ∀W,Below B0 W1 W→W.cell? ⟨zb+1,0,none⟩=some (.int .u32 nx)∧W.cell? ⟨zb+1,1,none⟩=some (.bool us)∧W.cell? ⟨zb+1,2,none⟩=some (.slice A0 m c10)∧W.cell? ⟨zb+1,3,none⟩=some (.slice A20 mq c20)from fun W hW=>⟨(b2.below hW (by omega)).cell 0,(b2.below hW (by omega)).cell 1,(b2.below hW (by omega)).cell 2,(b2.below hW (by omega)).cell 3⟩)
 clear b1 b2 b3 hzb hB0
 go_cut [5]from 8 to 15 (fun v wx=>∃rb nb,v=.pointer (some ⟨rb,0,none⟩)∧UM wx B rb (resS cf N 0 ct pn z 0 qn y) none 0 [] none 0 [] (some ⟨nb,0,none⟩) 1 [cf.key]∧B0≤rb∧B0≤nb∧Below B0 W1 wx)
 case first=>
  obtain⟨w0,hw0⟩:∃w0,w0=W1.drew:=⟨_,rfl⟩
  have hb0:Below B0 W1 w0:=by rw[hw0,HB0.out];exact(Below.refl _ W1).drew
  have hz0:B0≤w0.heap.size:=by rw[hw0,HB0.out];exact Nat.le_refl _
  refine wp_region_held_drew (S:=fun w'=>Below B0 W1 w') (by kernel_rfl) (by rw[←hw0];exact hb0) (fun hHeld=>?_)
  rw[←hw0]
  clear hw0 hHeld
  have hHeld:=hb0
  refine' tkH (i:=0) (oi:=⟨some 8,_,_,_,_,_⟩) (v:=_) rfl (yieldsIf_load_mid (by rfl) _ _ rfl zb 0 rfl (cfgLit cf).toList _ (fun w h=>HZR.out w h) HU.out rfl HS39.out) (by assumption) ?_
  refine tkH (i:=1) (oi:=⟨some 9,_,_,_,_,_⟩) (v:=.agg #[.int .u32 nx,.bool us,.slice A0 m c10,.slice A20 mq c20]) rfl (Or.inl ⟨by rfl,fun W hW=>(by obtain⟨u0,u1,u2,u3⟩:=HSR.out W hW;go_simp)⟩) (by assumption) ?_
  refine tkH (i:=3) (oi:=⟨some 11,_,_,_,_,_⟩) (v:=.pointer (some ⟨zb,2,none⟩)) rfl (Or.inl ⟨by rfl,fun W hW=>(by go_simp)⟩) (by assumption) ?_
  refine' tkH (i:=4) (oi:=⟨some 12,_,_,_,_,_⟩) (v:=_) rfl (yieldsIf_load_mid (by rfl) _ _ rfl zb 2 rfl (kArr cf.key).toList _ (fun w h=>HKR.out w h) HUK.out rfl HS16.out) (by assumption) ?_
  refine wpAnyH_ready (rs:=[2,5]) (by kernel_rfl) (by simp) ?_
  refine AllReadyH.cons (o:=⟨some 10,_,_,_,_,_⟩) rfl (fun K hK=>?_) (AllReadyH.cons (o:=⟨some 13,_,_,_,_,_⟩) rfl (fun K hK=>?_) AllReadyH.nil)
  ·skip
   rw[if_pos (by rfl)]
   go_simp
   refine(HNX.out w0).mono ?_
   rintro e w1 ⟨rfl,hbk⟩
   dsimp only
   have hH2:Below B0 W1 w1:=hHeld.trans (hbk.mono hz0)
   have hz0:B0≤w1.heap.size:=Nat.le_trans hz0 hbk.size
   refine hK.out _ _ hH2 (fun hHeld=>?_)
   clear hK K hH2 hbk
   try simp only[Act.put,List.setIfInBounds_toArray,List.set_cons_zero,List.set_cons_succ]
   refine wpAnyH_ready (rs:=[5]) (by kernel_rfl) (by simp) ?_
   refine AllReadyH.cons (o:=⟨some 13,_,_,_,_,_⟩) rfl (fun K hK=>?_) AllReadyH.nil
   rw[if_pos (by rfl)]
   refine wp_build_key _ rfl _ (kArr cf.key) cf.key (by go_simp) rfl ?_
   obtain⟨w2,hv⟩:∃X,X=w1.alloc (.cells (kArr cf.key) 23):=⟨_,rfl⟩
   obtain⟨nb,hnb⟩:∃nb,nb=w1.heap.size:=⟨_,rfl⟩
   have hNB:Blk w2 nb 23 (kArr cf.key):=by rw[hv,hnb];exact Blk.new _ _ _
   have hH2:Below B0 W1 w2:=by rw[hv];exact hHeld.alloc hz0 _
   have hnb0:B0≤nb:=by omega
   have hz0:B0≤w2.heap.size:=by rw[hv,World.size_alloc];omega
   rw[←hv,←hnb]
   clear hv hnb
   refine hK.out _ _ hH2 (fun hHeld=>?_)
   clear hK K hH2
   try simp only[Act.put,List.setIfInBounds_toArray,List.set_cons_zero,List.set_cons_succ]
   refine tkH (i:=6) (oi:=⟨some 14,_,_,_,_,_⟩) (v:=.agg (uArr cf.arr 0 N (.slice none 0 0) (.slice none 0 0) (.slice (some ⟨nb,0,none⟩) 1 1))) rfl (Or.inl ⟨by rfl,fun W hW=>(by kernel_rfl)⟩) (by assumption) ?_
   refine wpAnyH_ready (rs:=[7]) (by kernel_rfl) (by simp) ?_
   refine AllReadyH.cons (o:=⟨some 15,_,_,_,_,_⟩) rfl (fun K hK=>?_) AllReadyH.nil
   rw[if_pos (by rfl)]
   go_simp
   obtain⟨wv,hv⟩:∃wv,wv=w2.alloc (.cells (uArr cf.arr 0 N (.slice none 0 0) (.slice none 0 0) (.slice (some ⟨nb,0,none⟩) 1 1)) 76):=⟨_,rfl⟩
   obtain⟨rb,hrb⟩:∃rb,rb=w2.heap.size:=⟨_,rfl⟩
   have hR:Blk wv rb 76 (uArr cf.arr 0 N (.slice none 0 0) (.slice none 0 0) (.slice (some ⟨nb,0,none⟩) 1 1)):=by rw[hv,hrb];exact Blk.new _ _ _
   have hbk:Below w2.heap.size w2 wv:=by rw[hv];exact(Below.refl _ _).alloc (Nat.le_refl _) _
   have hH2:Below B0 W1 wv:=hHeld.trans (hbk.mono hz0)
   have hN2:=hNB.below hbk hNB.lt
   have hrb0:B0≤rb:=by omega
   rw[←hv,←hrb]
   refine hK.out _ _ hH2 (fun hHeld=>?_)
   clear hK K hv
   try simp only[Act.put,List.setIfInBounds_toArray,List.set_cons_zero,List.set_cons_succ]
   refine tkH (i:=8) (oi:=⟨some 5,_,_,_,_,_⟩) (v:=.pointer (some ⟨rb,0,none⟩)) rfl (Or.inl ⟨by rfl,fun W hW=>(by rfl)⟩) (by assumption) ?_
   refine wpAnyH_done (by kernel_rfl) ?_ _
   go_wp2
   go_meet
   exact⟨rb,nb,rfl,um_new HNR.out hR hN2 (by have:=HB.out;have:=HZB.out;have:=HB0.out;omega) (by have:=HB.out;have:=HZB.out;have:=HB0.out;omega),hrb0,hnb0,hH2⟩
  ·skip
   rw[if_pos (by rfl)]
   refine wp_build_key _ rfl _ (kArr cf.key) cf.key (by go_simp) rfl ?_
   obtain⟨w1,hv⟩:∃X,X=w0.alloc (.cells (kArr cf.key) 23):=⟨_,rfl⟩
   obtain⟨nb,hnb⟩:∃nb,nb=w0.heap.size:=⟨_,rfl⟩
   have hNB:Blk w1 nb 23 (kArr cf.key):=by rw[hv,hnb];exact Blk.new _ _ _
   have hH2:Below B0 W1 w1:=by rw[hv];exact hHeld.alloc hz0 _
   have hnb0:B0≤nb:=by omega
   have hz0:B0≤w1.heap.size:=by rw[hv,World.size_alloc];omega
   rw[←hv,←hnb]
   clear hv hnb
   refine hK.out _ _ hH2 (fun hHeld=>?_)
   clear hK K hH2
   try simp only[Act.put,List.setIfInBounds_toArray,List.set_cons_zero,List.set_cons_succ]
   refine wpAnyH_ready (rs:=[2]) (by kernel_rfl) (by simp) ?_
   refine AllReadyH.cons (o:=⟨some 10,_,_,_,_,_⟩) rfl (fun K hK=>?_) AllReadyH.nil
   rw[if_pos (by rfl)]
   go_simp
   refine(HNX.out w1).mono ?_
   rintro e w2 ⟨rfl,hbk⟩
   dsimp only
   have hH2:Below B0 W1 w2:=hHeld.trans (hbk.mono hz0)
   have hz0:B0≤w2.heap.size:=Nat.le_trans hz0 hbk.size
   replace hNB:=hNB.below hbk hNB.lt
   refine hK.out _ _ hH2 (fun hHeld=>?_)
   clear hK K hH2 hbk
   try simp only[Act.put,List.setIfInBounds_toArray,List.set_cons_zero,List.set_cons_succ]
   refine tkH (i:=6) (oi:=⟨some 14,_,_,_,_,_⟩) (v:=.agg (uArr cf.arr 0 N (.slice none 0 0) (.slice none 0 0) (.slice (some ⟨nb,0,none⟩) 1 1))) rfl (Or.inl ⟨by rfl,fun W hW=>(by kernel_rfl)⟩) (by assumption) ?_
   refine wpAnyH_ready (rs:=[7]) (by kernel_rfl) (by simp) ?_
   refine AllReadyH.cons (o:=⟨some 15,_,_,_,_,_⟩) rfl (fun K hK=>?_) AllReadyH.nil
   rw[if_pos (by rfl)]
   go_simp
   obtain⟨wv,hv⟩:∃wv,wv=w2.alloc (.cells (uArr cf.arr 0 N (.slice none 0 0) (.slice none 0 0) (.slice (some ⟨nb,0,none⟩) 1 1)) 76):=⟨_,rfl⟩
   obtain⟨rb,hrb⟩:∃rb,rb=w2.heap.size:=⟨_,rfl⟩
   have hR:Blk wv rb 76 (uArr cf.arr 0 N (.slice none 0 0) (.slice none 0 0) (.slice (some ⟨nb,0,none⟩) 1 1)):=by rw[hv,hrb];exact Blk.new _ _ _
   have hbk:Below w2.heap.size w2 wv:=by rw[hv];exact(Below.refl _ _).alloc (Nat.le_refl _) _
   have hH2:Below B0 W1 wv:=hHeld.trans (hbk.mono hz0)
   have hN2:=hNB.below hbk hNB.lt
   have hrb0:B0≤rb:=by omega
   rw[←hv,←hrb]
   refine hK.out _ _ hH2 (fun hHeld=>?_)
   clear hK K hv
   try simp only[Act.put,List.setIfInBounds_toArray,List.set_cons_zero,List.set_cons_succ]
   refine tkH (i:=8) (oi:=⟨some 5,_,_,_,_,_⟩) (v:=.pointer (some ⟨rb,0,none⟩)) rfl (Or.inl ⟨by rfl,fun W hW=>(by rfl)⟩) (by assumption) ?_
   refine wpAnyH_done (by kernel_rfl) ?_ _
   go_wp2
   go_meet
   exact⟨rb,nb,rfl,um_new HNR.out hR hN2 (by have:=HB.out;have:=HZB.out;have:=HB0.out;omega) (by have:=HB.out;have:=HZB.out;have:=HB0.out;omega),hrb0,hnb0,hH2⟩
 case rest=>
  obtain⟨rb,nb,rfl,hM0,hrb0,hnb0,hBc⟩:=hcut
  have hzz:=HZB.out
  have hw2:w.heap.size+2≤B0:=by have:=HB0.out;omega
  have hR0:RU w B rb nb cf N #[.int .u32 nx,.bool us,.slice A0 m c10,.slice A20 mq c20] 0 ct pn z 0 qn y none 0 [] none 0 [] wc:=by
   refine⟨hM0,B3.out.trans (hBc.mono (by omega)),by rw[←HZB.out];exact B2.out.below hBc (by omega),fun q hq=>?_⟩
   rcases hq with h1 | ⟨a,ha,_⟩ | ⟨a,ha,_⟩ | ⟨a,ha,h1⟩
   ·omega
   ·cases ha
   ·cases ha
   ·cases ha
    rw[h1]
    show _≤nb
    omega
  have HR0:=zh hR0
  obtain⟨FV,hFV⟩:∃FV:Array Value,FV=#[.int .u32 nx,.bool us,.slice A0 m c10,.slice A20 mq c20]:=⟨_,rfl⟩
  rw[←hFV]at HR0
  have HFV:=zh hFV
  clear hM0 hrb0 hnb0 hBc hR0 h1lt hw2 hFV hzz
  go_wp2
  go_loopw [6] (fun v6 wr=>∃(k:Nat) (A:Option Addr) (c:Nat) (lp:List PE),k≤m∧v6=.int .i64 k∧RU w B rb nb cf N FV k ct pn z 0 qn y none 0 [] A c lp wr) (fun v6 _=>m+1-(intOf v6).toNat)
  case atStart=>exact⟨0,none,0,[],by omega,rfl,HR0.out⟩
  case round=>
   obtain⟨k,A,c,lp,hk,rfl,hR⟩:=hrel
   have HR:=zh hR
   have k0:(0:Int)≤(k:Int):=by omega
   have y2:wr.cell? ⟨zb+1,2,none⟩=some (.slice A0 m c10):=by
    have h1:=hR.f.cell 2
    rw[←HZB.out,HFV.out]at h1
    simpa using h1
   have hlen:lp.length=k:=by have h1:=hR.m.plen;rw[show(resS cf N k ct pn z 0 qn y).P=resP k ct pn z from rfl,resP_len]at h1;exact h1.symm
   have HLE:=zh hlen
   clear hR hlen
   by_cases hlt:k < m
   ·have k1:(k:Int) < (m:Int):=by omega
    have HCr:=HC.out.below HR.out.b
    obtain⟨lb,lo,e0,hlb,hlc⟩:=HC.out.at_ (by omega)
    obtain⟨lb',lo',e1,_,hlc'⟩:=HCr.at_ (by omega)
    rw[e0]at e1
    cases e1
    obtain⟨c0,c1'⟩:=hlc' k hlt
    obtain⟨r0,r1⟩:=HC.out.rng k hlt
    obtain⟨x,hx⟩:∃x,x=ct k:=⟨_,rfl⟩
    rw[←hx]at c0
    have HX:=zh (And.intro hx (And.intro r0 r1))
    have HPK:=zh (HCP.out k hlt)
    obtain⟨PK,hPK⟩:∃q,q=PA k:=⟨_,rfl⟩
    obtain⟨pk,hpk⟩:∃q,q=pn k:=⟨_,rfl⟩
    obtain⟨ck,hck⟩:∃q,q=pc k:=⟨_,rfl⟩
    rw[←hPK,←hpk,←hck]at c1'
    have HEV:=zh (show(⟨⟨ct k,pn k,z k,true⟩,PA k,pc k⟩:PE).cells=[.int .u32 x,.slice PK pk ck,.bool true] by rw[hx,hPK,hpk,hck];rfl)
    subst e0
    have hub:=HR.out.u
    have HC2:=zh (show ∀W,KeepF (aBlk A) wr W→W.cell? ⟨rb,42,none⟩=some (.slice A k c)∧W.cell? ⟨zb+1,2,none⟩=some (.slice (some ⟨lb,lo,none⟩) m c10)∧W.cell? ⟨lb,lo+k*2,none⟩=some (.int .u32 x)∧W.cell? ⟨lb,lo+k*2+1,none⟩=some (.slice PK pk ck)∧W.frozen? ⟨rb,42,none⟩=false from fun W hW=>by
     have hz:=HZB.out
     have hcp:=HR.out.m.cpF hW
     rw[HLE.out]at hcp
     have hbl:¬aBlk A lb:=fun hq=>by have h1:=hub _ (.inr (.inr (.inl hq)));omega
     have hlb2:lb < wr.heap.size:=Nat.lt_of_lt_of_le hlb HR.out.b.size
     refine⟨hcp.1,?_,(hW.cell (p:=⟨lb,lo+k*2,none⟩) hlb2 hbl).trans c0,(hW.cell (p:=⟨lb,lo+k*2+1,none⟩) hlb2 hbl).trans c1',hcp.2⟩
     exact(hW.cell (p:=⟨zb+1,2,none⟩) (by have:=HR.out.f.lt;simp only;omega) (fun hq=>by have h1:=hub _ (.inr (.inr (.inl hq)));simp only at h1;omega)).trans y2)
    have hkm:k < 1000000:=by omega
    clear hx r0 r1 hPK hpk hck hlc hlc' HCr c0 c1' hlb hub
    go_upto_region 5 with (fail)
    clear y2
    refine wp_region_Lx (L:=22) (S:=fun w'=>KeepF (aBlk A) wr w') (by kernel_rfl) (KeepF.refl.drew) (fun hHeld=>?_)
    obtain⟨w0,hw0⟩:∃w0,w0=wr.drew:=⟨_,rfl⟩
    rw[←hw0]
    rw[←hw0]at hHeld
    have hb0:Below wr.heap.size wr w0:=by rw[hw0];exact(Below.refl _ _).drew
    clear hw0
    refine tkL (i:=0) (oi:=⟨some 23,_,_,_,_,_⟩) (v:=.pointer (some ⟨rb,0,none⟩)) rfl (Or.inl ⟨by rfl,fun W hW=>(by rfl)⟩) (by assumption) ?_
    refine tkL (i:=1) (oi:=⟨some 24,_,_,_,_,_⟩) (v:=.pointer (some ⟨rb,0,none⟩)) rfl (Or.inl ⟨by rfl,fun W hW=>(by rfl)⟩) (by assumption) ?_
    refine tkL (i:=2) (oi:=⟨some 25,_,_,_,_,_⟩) (v:=.pointer (some ⟨rb,0,none⟩)) rfl (Or.inl ⟨by rfl,fun W hW=>(by go_simp)⟩) (by assumption) ?_
    refine tkL (i:=3) (oi:=⟨some 26,_,_,_,_,_⟩) (v:=.pointer (some ⟨rb,42,none⟩)) rfl (Or.inl ⟨by rfl,fun W hW=>(by go_simp)⟩) (by assumption) ?_
    refine tkL (i:=4) (oi:=⟨some 27,_,_,_,_,_⟩) (v:=.slice A k c) rfl (Or.inl ⟨by rfl,fun W hW=>(by obtain⟨x0,x1,x2,x3,x4⟩:=HC2.out W hW;go_simp)⟩) (by assumption) ?_
    refine tkL (i:=5) (oi:=⟨some 28,_,_,_,_,_⟩) (v:=.pointer (some ⟨zb+1,2,none⟩)) rfl (Or.inl ⟨by rfl,fun W hW=>(by go_simp)⟩) (by assumption) ?_
    refine tkL (i:=6) (oi:=⟨some 29,_,_,_,_,_⟩) (v:=.slice (some ⟨lb,lo,none⟩) m c10) rfl (Or.inl ⟨by rfl,fun W hW=>(by obtain⟨x0,x1,x2,x3,x4⟩:=HC2.out W hW;go_simp)⟩) (by assumption) ?_
    refine tkL (i:=7) (oi:=⟨some 30,_,_,_,_,_⟩) (v:=.int .i64 (k:Int)) rfl (Or.inl ⟨by rfl,fun W hW=>(by rfl)⟩) (by assumption) ?_
    refine tkL (i:=8) (oi:=⟨some 31,_,_,_,_,_⟩) (v:=.pointer (some ⟨lb,lo+k*2,none⟩)) rfl (Or.inl ⟨by rfl,fun W hW=>(by go_simp)⟩) (by assumption) ?_
    refine tkL (i:=9) (oi:=⟨some 32,_,_,_,_,_⟩) (v:=.pointer (some ⟨lb,lo+k*2,none⟩)) rfl (Or.inl ⟨by rfl,fun W hW=>(by go_simp)⟩) (by assumption) ?_
    refine tkL (i:=10) (oi:=⟨some 33,_,_,_,_,_⟩) (v:=.int .u32 x) rfl (Or.inl ⟨by rfl,fun W hW=>(by obtain⟨x0,x1,x2,x3,x4⟩:=HC2.out W hW;go_simp)⟩) (by assumption) ?_
    refine tkL (i:=11) (oi:=⟨some 34,_,_,_,_,_⟩) (v:=.pointer (some ⟨zb+1,2,none⟩)) rfl (Or.inl ⟨by rfl,fun W hW=>(by go_simp)⟩) (by assumption) ?_
    refine tkL (i:=12) (oi:=⟨some 35,_,_,_,_,_⟩) (v:=.slice (some ⟨lb,lo,none⟩) m c10) rfl (Or.inl ⟨by rfl,fun W hW=>(by obtain⟨x0,x1,x2,x3,x4⟩:=HC2.out W hW;go_simp)⟩) (by assumption) ?_
    refine tkL (i:=13) (oi:=⟨some 36,_,_,_,_,_⟩) (v:=.int .i64 (k:Int)) rfl (Or.inl ⟨by rfl,fun W hW=>(by rfl)⟩) (by assumption) ?_
    refine tkL (i:=14) (oi:=⟨some 37,_,_,_,_,_⟩) (v:=.pointer (some ⟨lb,lo+k*2,none⟩)) rfl (Or.inl ⟨by rfl,fun W hW=>(by go_simp)⟩) (by assumption) ?_
    refine tkL (i:=15) (oi:=⟨some 38,_,_,_,_,_⟩) (v:=.pointer (some ⟨lb,lo+k*2+1,none⟩)) rfl (Or.inl ⟨by rfl,fun W hW=>(by go_simp)⟩) (by assumption) ?_
    refine tkL (i:=16) (oi:=⟨some 39,_,_,_,_,_⟩) (v:=.slice PK pk ck) rfl (Or.inl ⟨by rfl,fun W hW=>(by obtain⟨x0,x1,x2,x3,x4⟩:=HC2.out W hW;go_simp)⟩) (by assumption) ?_
    refine tkL (i:=17) (oi:=⟨some 40,_,_,_,_,_⟩) (v:=.agg #[.int .u32 x,.slice PK pk ck,.bool true]) rfl (Or.inl ⟨by rfl,fun W hW=>(by go_simp)⟩) (by assumption) ?_
    refine wpAnyL_one (i:=18) (o:=⟨some 41,_,_,_,_,_⟩) (by kernel_rfl) rfl (fun K hK=>?_)
    rw[if_pos (by rfl)]
    go_simp
    obtain⟨u2,hu2⟩:∃X,X=w0.alloc (.cells #[.int .u32 x,.slice PK pk ck,.bool true] 78):=⟨_,rfl⟩
    obtain⟨ab,hab⟩:∃ab,ab=w0.heap.size:=⟨_,rfl⟩
    have hNB:Blk u2 ab 78 #[.int .u32 x,.slice PK pk ck,.bool true]:=by rw[hu2,hab];exact Blk.new _ _ _
    have hb3:Below wr.heap.size wr u2:=by rw[hu2];exact hb0.alloc hb0.size _
    have hE2:KeepF (aBlk A) wr u2:=KeepF.of_below hb3
    rw[←hu2,←hab]
    refine hK.out _ _ hE2 (fun hHeld=>?_)
    clear hK K hu2 hab
    try simp only[Act.put,List.setIfInBounds_toArray,List.set_cons_zero,List.set_cons_succ]
    refine wpAnyL_one (i:=19) (o:=⟨some 42,_,_,_,_,_⟩) (by kernel_rfl) rfl (fun K hK=>?_)
    rw[if_pos (by rfl)]
    refine wp_sl_append _ _ 74 74 rfl u2 78 ip (.agg #[.int .u32 0,.slice none 0 0,.bool false]) 3 40 Tryz.underlying74 hip hipz hips hipb rfl A k c (lp.flatMap PE.cells) rfl ((by have h1:=HR.out.m.p;rw[HLE.out]at h1;exact h1:SL wr 78 3 A k c (lp.flatMap PE.cells)).next hb3) (.slice (some ⟨ab,0,none⟩) 1 1) rfl 1 [.int .u32 x,.slice PK pk ck,.bool true] (Src.ofSlice _ Tryz.underlying74 ⟨ab,0,none⟩ 1 1 _ rfl (fun j u hu=>by
      have hj:j < 3:=(List.getElem?_eq_some_iff.1 hu).1
      rw[Addr.add_lit,Nat.zero_add,hNB.cell j]
      simpa using hu) (by simp[Value.oneCell'])) (by decide) (by unfold maxLen;omega) (by omega) (fun A9 c9 u3 hs9 hk9 ha9=>?_)
    have hE3:KeepF (aBlk A) wr u3:=hE2.trans hk9 (fun _ _ h=>h)
    obtain⟨xe,hxe⟩:∃xe:PE,xe=⟨⟨ct k,pn k,z k,true⟩,PA k,pc k⟩:=⟨_,rfl⟩
    have hl1:(lp++[xe]).length=k+1:=by rw[List.length_append,HLE.out];rfl
    have hs10:SL u3 78 3 A9 (lp++[xe]).length c9 ((lp++[xe]).flatMap PE.cells):=by
     rw[hl1,List.flatMap_append,hxe,show([(⟨⟨ct k,pn k,z k,true⟩,PA k,pc k⟩:PE)]).flatMap PE.cells=(⟨⟨ct k,pn k,z k,true⟩,PA k,pc k⟩:PE).cells from by simp,HEV.out]
     exact hs9
    have hN:=(HR.out.m.newP hE3 A9 c9 (lp++[xe]) hs10 (fun e he=>by
     rcases List.mem_append.1 he with he | he
     ·exact HR.out.m.pe e he
     ·rw[List.mem_singleton.1 he,hxe]
      exact HPK.out.keepF (KeepF.of_below (F:=fun q=>w.heap.size≤q) HR.out.b) HB.out (fun q hq=>Nat.le_trans HB.out hq)) (fun e he=>by
     rcases List.mem_append.1 he with he | he
     ·exact HR.out.m.pr e.v (by rw[←HR.out.m.pv];exact List.mem_map_of_mem he)
     ·rw[List.mem_singleton.1 he,hxe]
      exact HX.out.2) (fun a ha=>by
     rcases ha9 a ha with ⟨a',e1,e2⟩ | h2
     ·exact .inl ⟨a',e1,e2⟩
     ·exact .inr (Nat.le_trans hb3.size h2))).1
    have hPV:(lp++[xe]).map (·.v)=resP (k+1) ct pn z:=by rw[List.map_append,HR.out.m.pv,resP_succ,hxe];rfl
    rw[hl1,hPV]at hN
    have hkw:KeepF (uBlk rb none A (some ⟨nb,0,none⟩)) wr (u3.setCell ⟨rb,42,none⟩ (.slice A9 (k+1) c9)):=(hE3.mono (fun q hq=>(.inr (.inr (.inl hq)):uBlk rb none A (some ⟨nb,0,none⟩) q))).setCell (p:=⟨rb,42,none⟩) (.inl rfl) _
    have HN9:=zh (show RU w B rb nb cf N FV (k+1) ct pn z 0 qn y none 0 [] A9 c9 (lp++[xe]) (u3.setCell ⟨rb,42,none⟩ (.slice A9 (k+1) c9))from ⟨hN,KeepF.below HR.out.b hkw (fun q hq=>by have:=HR.out.u q hq;omega) HR.out.b.size,hkw.blk HR.out.f (fun hq=>by have:=HR.out.u _ hq;omega),fun q hq=>by
     rcases hq with h1 | h1 | ⟨a,ha,e⟩ | h1
     ·exact HR.out.u q (.inl h1)
     ·exact HR.out.u q (.inr (.inl h1))
     ·rcases ha9 a ha with ⟨a',e1,e2⟩ | h2
      ·exact HR.out.u q (.inr (.inr (.inl ⟨a',e1,by rw[e,e2]⟩)))
      ·have h3:=hb3.size
       have h4:=HR.out.f.lt
       omega
     ·exact HR.out.u q (.inr (.inr (.inr h1)))⟩)
    clear hN hPV hkw hs10 hl1
    have HE3:=zh hE3
    refine hK.out _ _ hE3 (fun hHeld=>?_)
    clear hK K hs9 hk9 ha9 hE2 hE3 hb3 hNB
    try simp only[Act.put,List.setIfInBounds_toArray,List.set_cons_zero,List.set_cons_succ]
    refine wpAnyL_one (i:=20) (o:=⟨some 43,_,_,_,_,_⟩) (by kernel_rfl) rfl (fun K hK=>?_)
    rw[if_pos (by rfl)]
    go_simp
    refine hK.out _ _ HE3.out (fun hHeld=>?_)
    clear hK K
    try simp only[Act.put,List.setIfInBounds_toArray,List.set_cons_zero,List.set_cons_succ]
    refine tkL (i:=21) (oi:=⟨some 44,_,_,_,_,_⟩) (v:=.pointer (some ⟨rb,42,none⟩)) rfl (Or.inl ⟨by rfl,fun W hW=>(by go_simp)⟩) (by assumption) ?_
    refine wpAnyL_last (o:=⟨none,_,_,_,_,_⟩) (by kernel_rfl) (by kernel_rfl) rfl (fun K hK=>?_)
    rw[if_pos (by rfl)]
    obtain⟨x0,x1,x2,x3,x4⟩:=HC2.out u3 HE3.out
    go_simp
    clear x0 x1 x2 x3 x4
    refine hK.out _ _ ?_
    clear hK K hHeld
    try simp only[Act.put]
    generalize u3.setCell ⟨rb,42,none⟩ (.slice A9 (k+1) c9)=V9 at HN9 ⊢
    go_wp2
    go_roundw
    case rel=>exact⟨k+1,A9,c9,lp++[xe],by omega,by go_num,HN9.out⟩
    case measure=>simp[intOf];omega
   ·obtain rfl:m=k:=by omega
    have k1:¬(m:Int) < (m:Int):=by omega
    clear hlt hk
    go_upto_region 6 with (fail)
    clear y2
    go_wp2
    go_loopw [7] (fun v7 wr=>∃(k:Nat) (A2:Option Addr) (c2:Nat) (lq:List WE),k≤mq∧v7=.int .i64 k∧RU w B rb nb cf N FV m ct pn z k qn y A2 c2 lq A c lp wr) (fun v7 _=>mq+1-(intOf v7).toNat)
    case atStart=>exact⟨0,none,0,[],by omega,rfl,HR.out⟩
    case round=>
     obtain⟨k,A2,c2,lq,hk,rfl,hR2⟩:=hrel
     have HR2:=zh hR2
     have k0':(0:Int)≤(k:Int):=by omega
     have y3:wr.cell? ⟨zb+1,3,none⟩=some (.slice A20 mq c20):=by
      have h1:=hR2.f.cell 3
      rw[←HZB.out,HFV.out]at h1
      simpa using h1
     have hlen:lq.length=k:=by have h1:=hR2.m.qlen;rw[show(resS cf N m ct pn z k qn y).Q=resQ k qn y from rfl,resQ_len]at h1;exact h1.symm
     have HLE2:=zh hlen
     clear hR2 hlen
     by_cases hlt:k < mq
     ·have k1':(k:Int) < (mq:Int):=by omega
      have HQr:=HQ.out.below HR2.out.b
      obtain⟨lb,lo,e0,hlb,hlc⟩:=HQ.out.at_ (by omega)
      obtain⟨lb',lo',e1,_,hlc'⟩:=HQr.at_ (by omega)
      rw[e0]at e1
      cases e1
      have c0:=hlc' k hlt
      have HPK:=zh (HCQ.out k hlt)
      obtain⟨PK,hPK⟩:∃q,q=QA k:=⟨_,rfl⟩
      obtain⟨pk,hpk⟩:∃q,q=qn k:=⟨_,rfl⟩
      obtain⟨ck,hck⟩:∃q,q=qc k:=⟨_,rfl⟩
      rw[←hPK,←hpk,←hck]at c0
      have HEV:=zh (show(⟨⟨qn k,y k,0⟩,QA k,qc k⟩:WE).cells=[.slice PK pk ck,.int .i64 0] by rw[hPK,hpk,hck];rfl)
      subst e0
      have hub:=HR2.out.u
      have HC2:=zh (show ∀W,KeepF (aBlk A2) wr W→W.cell? ⟨rb,41,none⟩=some (.slice A2 k c2)∧W.cell? ⟨zb+1,3,none⟩=some (.slice (some ⟨lb,lo,none⟩) mq c20)∧W.cell? ⟨lb,lo+k,none⟩=some (.slice PK pk ck)∧W.frozen? ⟨rb,41,none⟩=false from fun W hW=>by
       have hz:=HZB.out
       have hbq:=hW.blk HR2.out.m.blk (fun⟨a,ha,e⟩=>HR2.out.m.hq a ha e)
       have hcq:W.cell? ⟨rb,41,none⟩=some (.slice A2 lq.length c2):=(hbq.cell 41).trans (uArr_high (Cfg.arr_size _) 2)
       rw[HLE2.out]at hcq
       have hbl:¬aBlk A2 lb:=fun hq=>by have h1:=hub _ (.inr (.inl hq));omega
       have hlb2:lb < wr.heap.size:=Nat.lt_of_lt_of_le hlb HR2.out.b.size
       refine⟨hcq,?_,(hW.cell (p:=⟨lb,lo+k,none⟩) hlb2 hbl).trans c0,hbq.frozen 41⟩
       exact(hW.cell (p:=⟨zb+1,3,none⟩) (by have:=HR2.out.f.lt;simp only;omega) (fun hq=>by have h1:=hub _ (.inr (.inl hq));simp only at h1;omega)).trans y3)
      have hkm:k < 1000000:=by omega
      clear hPK hpk hck hlc hlc' HQr c0 hlb hub
      go_upto_region 9 with (fail)
      clear y3
      refine wp_region_Lx (L:=15) (S:=fun w'=>KeepF (aBlk A2) wr w') (by kernel_rfl) (KeepF.refl.drew) (fun hHeld=>?_)
      obtain⟨w0,hw0⟩:∃w0,w0=wr.drew:=⟨_,rfl⟩
      rw[←hw0]
      rw[←hw0]at hHeld
      have hb0:Below wr.heap.size wr w0:=by rw[hw0];exact(Below.refl _ _).drew
      clear hw0
      refine tkL (i:=0) (oi:=⟨some 52,_,_,_,_,_⟩) (v:=.pointer (some ⟨rb,0,none⟩)) rfl (Or.inl ⟨by rfl,fun W hW=>(by rfl)⟩) (by assumption) ?_
      refine tkL (i:=1) (oi:=⟨some 53,_,_,_,_,_⟩) (v:=.pointer (some ⟨rb,0,none⟩)) rfl (Or.inl ⟨by rfl,fun W hW=>(by rfl)⟩) (by assumption) ?_
      refine tkL (i:=2) (oi:=⟨some 54,_,_,_,_,_⟩) (v:=.pointer (some ⟨rb,0,none⟩)) rfl (Or.inl ⟨by rfl,fun W hW=>(by go_simp)⟩) (by assumption) ?_
      refine tkL (i:=3) (oi:=⟨some 55,_,_,_,_,_⟩) (v:=.pointer (some ⟨rb,41,none⟩)) rfl (Or.inl ⟨by rfl,fun W hW=>(by go_simp)⟩) (by assumption) ?_
      refine tkL (i:=4) (oi:=⟨some 56,_,_,_,_,_⟩) (v:=.slice A2 k c2) rfl (Or.inl ⟨by rfl,fun W hW=>(by obtain⟨x0,x1,x2,x3⟩:=HC2.out W hW;go_simp)⟩) (by assumption) ?_
      refine tkL (i:=5) (oi:=⟨some 57,_,_,_,_,_⟩) (v:=.pointer (some ⟨zb+1,3,none⟩)) rfl (Or.inl ⟨by rfl,fun W hW=>(by go_simp)⟩) (by assumption) ?_
      refine tkL (i:=6) (oi:=⟨some 58,_,_,_,_,_⟩) (v:=.slice (some ⟨lb,lo,none⟩) mq c20) rfl (Or.inl ⟨by rfl,fun W hW=>(by obtain⟨x0,x1,x2,x3⟩:=HC2.out W hW;go_simp)⟩) (by assumption) ?_
      refine tkL (i:=7) (oi:=⟨some 59,_,_,_,_,_⟩) (v:=.int .i64 (k:Int)) rfl (Or.inl ⟨by rfl,fun W hW=>(by rfl)⟩) (by assumption) ?_
      refine tkL (i:=8) (oi:=⟨some 60,_,_,_,_,_⟩) (v:=.pointer (some ⟨lb,lo+k,none⟩)) rfl (Or.inl ⟨by rfl,fun W hW=>(by go_simp)⟩) (by assumption) ?_
      refine tkL (i:=9) (oi:=⟨some 61,_,_,_,_,_⟩) (v:=.slice PK pk ck) rfl (Or.inl ⟨by rfl,fun W hW=>(by obtain⟨x0,x1,x2,x3⟩:=HC2.out W hW;go_simp)⟩) (by assumption) ?_
      refine tkL (i:=10) (oi:=⟨some 62,_,_,_,_,_⟩) (v:=.agg #[.slice PK pk ck,.int .i64 0]) rfl (Or.inl ⟨by rfl,fun W hW=>(by go_simp)⟩) (by assumption) ?_
      refine wpAnyL_one (i:=11) (o:=⟨some 63,_,_,_,_,_⟩) (by kernel_rfl) rfl (fun K hK=>?_)
      rw[if_pos (by rfl)]
      go_simp
      obtain⟨u2,hu2⟩:∃X,X=w0.alloc (.cells #[.slice PK pk ck,.int .i64 0] 80):=⟨_,rfl⟩
      obtain⟨ab,hab⟩:∃ab,ab=w0.heap.size:=⟨_,rfl⟩
      have hNB:Blk u2 ab 80 #[.slice PK pk ck,.int .i64 0]:=by rw[hu2,hab];exact Blk.new _ _ _
      have hb3:Below wr.heap.size wr u2:=by rw[hu2];exact hb0.alloc hb0.size _
      have hE2:KeepF (aBlk A2) wr u2:=KeepF.of_below hb3
      rw[←hu2,←hab]
      refine hK.out _ _ hE2 (fun hHeld=>?_)
      clear hK K hu2 hab
      try simp only[Act.put,List.setIfInBounds_toArray,List.set_cons_zero,List.set_cons_succ]
      refine wpAnyL_one (i:=12) (o:=⟨some 64,_,_,_,_,_⟩) (by kernel_rfl) rfl (fun K hK=>?_)
      rw[if_pos (by rfl)]
      refine wp_sl_append _ _ 73 73 rfl u2 80 iw (.agg #[.slice none 0 0,.int .i64 0]) 2 32 Tryz.underlying73 hiw hiwz hiws hiwb rfl A2 k c2 (lq.flatMap WE.cells) rfl ((by have h1:=HR2.out.m.q;rw[HLE2.out]at h1;exact h1:SL wr 80 2 A2 k c2 (lq.flatMap WE.cells)).next hb3) (.slice (some ⟨ab,0,none⟩) 1 1) rfl 1 [.slice PK pk ck,.int .i64 0] (Src.ofSlice _ Tryz.underlying73 ⟨ab,0,none⟩ 1 1 _ rfl (fun j u hu=>by
        have hj:j < 2:=(List.getElem?_eq_some_iff.1 hu).1
        rw[Addr.add_lit,Nat.zero_add,hNB.cell j]
        simpa using hu) (by simp[Value.oneCell'])) (by decide) (by unfold maxLen;omega) (by omega) (fun A9 c9 u3 hs9 hk9 ha9=>?_)
      have hE3:KeepF (aBlk A2) wr u3:=hE2.trans hk9 (fun _ _ h=>h)
      obtain⟨xe,hxe⟩:∃xe:WE,xe=⟨⟨qn k,y k,0⟩,QA k,qc k⟩:=⟨_,rfl⟩
      have hl1:(lq++[xe]).length=k+1:=by rw[List.length_append,HLE2.out];rfl
      have hs10:SL u3 80 2 A9 (lq++[xe]).length c9 ((lq++[xe]).flatMap WE.cells):=by
       rw[hl1,List.flatMap_append,hxe,show([(⟨⟨qn k,y k,0⟩,QA k,qc k⟩:WE)]).flatMap WE.cells=(⟨⟨qn k,y k,0⟩,QA k,qc k⟩:WE).cells from by simp,HEV.out]
       exact hs9
      have hN:=(HR2.out.m.newQ hE3 A9 c9 (lq++[xe]) hs10 (fun e he=>by
       rcases List.mem_append.1 he with he | he
       ·exact HR2.out.m.qe e he
       ·rw[List.mem_singleton.1 he,hxe]
        exact HPK.out.keepF (KeepF.of_below (F:=fun q=>w.heap.size≤q) HR2.out.b) HB.out (fun q hq=>Nat.le_trans HB.out hq)) (fun a ha=>by
       rcases ha9 a ha with ⟨a',e1,e2⟩ | h2
       ·exact .inl ⟨a',e1,e2⟩
       ·exact .inr (Nat.le_trans hb3.size h2))).1
      have hPV:(lq++[xe]).map (·.v)=resQ (k+1) qn y:=by rw[List.map_append,HR2.out.m.qv,resQ_succ,hxe];rfl
      rw[hl1,hPV]at hN
      have hkw:KeepF (uBlk rb A2 A (some ⟨nb,0,none⟩)) wr (u3.setCell ⟨rb,41,none⟩ (.slice A9 (k+1) c9)):=(hE3.mono (fun q hq=>(.inr (.inl hq):uBlk rb A2 A (some ⟨nb,0,none⟩) q))).setCell (p:=⟨rb,41,none⟩) (.inl rfl) _
      have HN9:=zh (show RU w B rb nb cf N FV m ct pn z (k+1) qn y A9 c9 (lq++[xe]) A c lp (u3.setCell ⟨rb,41,none⟩ (.slice A9 (k+1) c9))from ⟨hN,KeepF.below HR2.out.b hkw (fun q hq=>by have:=HR2.out.u q hq;omega) HR2.out.b.size,hkw.blk HR2.out.f (fun hq=>by have:=HR2.out.u _ hq;omega),fun q hq=>by
       rcases hq with h1 | ⟨a,ha,e⟩ | h1
       ·exact HR2.out.u q (.inl h1)
       ·rcases ha9 a ha with ⟨a',e1,e2⟩ | h2
        ·exact HR2.out.u q (.inr (.inl ⟨a',e1,by rw[e,e2]⟩))
        ·have h3:=hb3.size
         have h4:=HR2.out.f.lt
         omega
       ·exact HR2.out.u q (.inr (.inr h1))⟩)
      clear hN hPV hkw hs10 hl1
      have HE3:=zh hE3
      refine hK.out _ _ hE3 (fun hHeld=>?_)
      clear hK K hs9 hk9 ha9 hE2 hE3 hb3 hNB
      try simp only[Act.put,List.setIfInBounds_toArray,List.set_cons_zero,List.set_cons_succ]
      refine wpAnyL_one (i:=13) (o:=⟨some 65,_,_,_,_,_⟩) (by kernel_rfl) rfl (fun K hK=>?_)
      rw[if_pos (by rfl)]
      go_simp
      refine hK.out _ _ HE3.out (fun hHeld=>?_)
      clear hK K
      try simp only[Act.put,List.setIfInBounds_toArray,List.set_cons_zero,List.set_cons_succ]
      refine tkL (i:=14) (oi:=⟨some 66,_,_,_,_,_⟩) (v:=.pointer (some ⟨rb,41,none⟩)) rfl (Or.inl ⟨by rfl,fun W hW=>(by go_simp)⟩) (by assumption) ?_
      refine wpAnyL_last (o:=⟨none,_,_,_,_,_⟩) (by kernel_rfl) (by kernel_rfl) rfl (fun K hK=>?_)
      rw[if_pos (by rfl)]
      obtain⟨x0,x1,x2,x3⟩:=HC2.out u3 HE3.out
      go_simp
      clear x0 x1 x2 x3
      refine hK.out _ _ ?_
      clear hK K hHeld
      try simp only[Act.put]
      generalize u3.setCell ⟨rb,41,none⟩ (.slice A9 (k+1) c9)=V9 at HN9 ⊢
      go_wp2
      go_roundw
      case rel=>exact⟨k+1,A9,c9,lq++[xe],by omega,by go_num,HN9.out⟩
      case measure=>simp[intOf];omega
     ·obtain rfl:mq=k:=by omega
      have k1':¬(mq:Int) < (mq:Int):=by omega
      clear hlt hk
      go_wp2
      go_ret
      have hfin:∃A2 c2 lq A c lp uA uc ks,UM wr B rb (resS cf N m ct pn z mq qn y) A2 c2 lq A c lp uA uc ks∧Below w.heap.size w wr∧∀q,uBlk rb A2 A uA q→w.heap.size≤q:=⟨A2,c2,lq,A,c,lp,_,_,_,HR2.out.m,HR2.out.b,fun q hq=>by have:=HR2.out.u q hq;omega⟩
      obtain⟨a1,a2,a3,a4,a5,a6,a7,a8,a9,g1,g2⟩:=hfin
      exact⟨rb,rfl,a1,a2,a3,a4,a5,a6,a7,⟨a8,a9,g1⟩,g2⟩
end Go.Proofs.YtjanmleoomoedaaGreat
