import Derived.Test.YtjanmleoomoedaaGreatMUC
namespace Go.Proofs.YtjanmleoomoedaaGreat
open Go.RowKit
set_option linter.unusedVariables false
set_option linter.unusedSimpArgs false
attribute [local go_sem ↓] Go.wp_at_zero Go.wp_at_succ
private theorem zh {p:Prop} (h:p):Hid p:=h
private theorem tkH {P:Program} {ops:Array Oper} {Q:Exit→Act→World→Prop} {md:Region.Mode} {S:World→Prop} {i:Nat} {oi:Oper} {v:Value} {fuel:Nat} {listed l':Array Bool} {a a':Act} {w:World} (hi:ops[i]? = some oi) (hy:YieldsIf P ops S oi v a) (hS:S w)
  (h:wpAnyH P md ops Q S fuel l' a' w) (hl:listed.setIfInBounds i true=l':=by(try simp only[List.setIfInBounds_toArray,List.set_cons_zero,List.set_cons_succ]);rfl) (ha:a.put oi.dst v=a':=by(try simp only[Act.put,List.setIfInBounds_toArray,List.set_cons_zero,List.set_cons_succ]);rfl) (hs:Region.noSelect ops=true:=by kernel_rfl) (hf:Region.free md ops listed i=true:=by kernel_rfl) (hr:(Region.ready md ops listed).contains i=true:=by kernel_rfl)
  (hQ:∀c a w,Q (.panic c) (a.put oi.dst v) w→Q (.panic c) a w:=by exact fun _ _ _ h=>h):wpAnyH P md ops Q S (fuel+1) listed a w:=by subst hl;subst ha;exact wpAnyH_take hi hs hf hr hQ hy hS h
private theorem tkL {P:Program} {ops:Array Oper} {Q:Exit→Act→World→Prop} {md:Region.Mode} {S:World→Prop} {L i:Nat} {oi:Oper} {v:Value} {fuel:Nat} {listed l':Array Bool} {a a':Act} {w:World} (hi:ops[i]? = some oi) (hy:YieldsIf P ops S oi v a) (hS:S w)
  (h:wpAnyL P md ops Q S L fuel l' a' w) (hl:listed.setIfInBounds i true=l':=by(try simp only[List.setIfInBounds_toArray,List.set_cons_zero,List.set_cons_succ]);rfl) (ha:a.put oi.dst v=a':=by(try simp only[Act.put,List.setIfInBounds_toArray,List.set_cons_zero,List.set_cons_succ]);rfl) (hL:waitsFor md ops L i=true:=by kernel_rfl) (hs:Region.noSelect ops=true:=by kernel_rfl) (hf:Region.free md ops listed i=true:=by kernel_rfl) (hr:(Region.ready md ops listed).contains i=true:=by kernel_rfl)
  (hQ:∀c a w,Q (.panic c) (a.put oi.dst v) w→Q (.panic c) a w:=by exact fun _ _ _ h=>h):wpAnyL P md ops Q S L (fuel+1) listed a w:=by subst hl;subst ha;exact wpAnyL_take hi hL hs hf hr hQ hy hS h
theorem build_key (f:Nat→Int) (w:World):(Instr.buildSlice 72 1 #[(0,.agg (kArr f))]).run Tryz.prog w=.ok (.slice (some ⟨w.heap.size,0,none⟩) 1 1) (w.alloc (.cells (kArr f) 23)):=by kernel_rfl
theorem wp_build_key {o:Oper} {a:Act} {K:Act→World→Prop} {Q:Exit→Act→World→Prop} (x:Operand) (ho:o.op=.buildSlice 72 1 #[(0,x)]) (w:World) (KF:Array Value) (f:Nat→Int) (hx:a.eval x=.agg KF) (hv:KF=kArr f)
  (h:K (a.put o.dst (.slice (some ⟨w.heap.size,0,none⟩) 1 1)) (w.alloc (.cells KF 23))):o.wp Tryz.prog a w K Q:=by
 subst hv
 unfold Oper.wp execOp
 simp only[ho,Sem.run_bind,List.map_toArray,List.map_cons,List.map_nil,hx,build_key,Result.andThen_ok]
 exact h
section
variable {w w1 w' V:World} {B h:Nat} {s:TS} {qA:Option Addr} {qc:Nat} {lq:List WE} {pA:Option Addr} {pc:Nat} {lp:List PE} {uA:Option Addr} {uc:Nat} {ks:List (Nat→Int)} {F N N':Nat→Prop}
theorem UM.newU (m:UM w B h s qA qc lq pA pc lp uA uc ks) (hk:KeepF (aBlk uA) w w1) (A:Option Addr) (c:Nat) (l:List (Nat→Int)) (hs:SL w1 23 16 A l.length c (l.flatMap kCells)) (hA:∀a,A=some a→aBlk uA a.block∨w.heap.size≤a.block) :
  UM (w1.setCell ⟨h,43,none⟩ (.slice A l.length c)) B h { s with used:=l.map kArr } qA qc lq pA pc lp A c l:=by
 have hB:∀k,aBlk uA k→B≤k:=fun k ⟨a,ha,e⟩=>by rw[e];exact m.bu a ha
 have hb1:Blk w1 h 76 (uArr s.C.arr s.now s.next (.slice qA lq.length qc) (.slice pA lp.length pc) (.slice uA ks.length uc)):=hk.blk m.blk (fun⟨a,ha,e⟩=>m.hu a ha e)
 have hks:KeepF (fun k=>k=h) w1 (w1.setCell ⟨h,43,none⟩ (.slice A l.length c)):=(KeepF.refl (F:=fun k=>k=h) (w:=w1)).setCell (p:=⟨h,43,none⟩) rfl _
 have hh:∀k,k=h→B≤k:=fun k hf=>by rw[hf];exact m.bh
 have hw1:B≤w1.heap.size:=Nat.le_trans m.bw hk.size
 refine⟨by rw[←uArr_u s.C.arr_size];exact hb1.set_ 43 _,m.qv,m.pv,rfl,(m.q.keepF hk (fun a e ⟨a',e',hf⟩=>m.qu a a' e e' hf)).keepF hks (fun a e hf=>m.hq a e hf.symm),(m.p.keepF hk (fun a e ⟨a',e',hf⟩=>m.pu a a' e e' hf)).keepF hks (fun a e hf=>m.hp a e hf.symm),hs.keepF hks (fun a e hf=>?_),fun e he=>((m.qe e he).keepF hk m.bw hB).keepF hks hw1 hh,fun e he=>((m.pe e he).keepF hk m.bw hB).keepF hks hw1 hh,m.pr,m.bh,m.bq,m.bp,fun a ha=>(hA a ha).elim (fun h=>hB _ h) (fun h=>Nat.le_trans m.bw h),Nat.le_trans hw1 hks.size,m.now0,m.next0⟩
 obtain⟨cur,hc⟩:=hs.obj e
 exact cells_ne hb1 hc (by decide) hf.symm
theorem UM.ulow (m:UM w B h s qA qc lq pA pc lp uA uc ks) {k:Nat} (hk:uBlk h qA pA uA k):k < w.heap.size:=by
 rcases hk with hk | ⟨a,ha,e⟩ | ⟨a,ha,e⟩ | ⟨a,ha,e⟩
 ·rw[hk];exact m.blk.lt
 ·rw[e];exact m.q.lt ha
 ·rw[e];exact m.p.lt ha
 ·rw[e];exact m.u.lt ha
theorem UM.comp (m:UM w B h s qA qc lq pA pc lp uA uc ks) (o:Obj):UM w B h { s with comp:=o } qA qc lq pA pc lp uA uc ks:=
 ⟨m.blk,m.qv,m.pv,m.kv,m.q,m.p,m.u,m.qe,m.pe,m.pr,m.bh,m.bq,m.bp,m.bu,m.bw,m.now0,m.next0⟩
set_option maxRecDepth 100000 in
set_option maxHeartbeats 6400000 in
theorem urekey_ok (m:UM w B h s qA qc lq pA pc lp uA uc ks) (hlp:lp.length≤1000000) (hlu:ks.length≤1000000) (f c:Nat→Int) :
  Calls Tryz.prog 30 #[.pointer (some ⟨h,0,none⟩),.agg (kArr f),.agg (kArr c)] w fun e w'=>e=.returned (.int .i64 (s.rekey ks f c).1)∧UO w w' B h (s.rekey ks f c).2 (uBlk h qA pA uA):=by
 have HT:=zh m
 have HFR:=zh (fun(V:World) (hb:Below w.heap.size w V)=>ufresh_ok (m.below hb) hlu f)
 have HSK:=zh (k_size f)
 have HSC:=zh (k_size c)
 have HOK:=zh (k_one f)
 have HOC:=zh (k_one c)
 have HUK:=zh Tryz.underlying23
 have HU2:=zh (show(ks++[f]).map kArr=s.used++[kArr f] by rw[List.map_append,m.kv];rfl)
 have HKL:Hid (kCells f=(kArr f).toList):=zh rfl
 have HPL:=zh hlp
 have HUL:=zh hlu
 obtain⟨iu,hiu,hiz,his,hib⟩:=infoKeyU
 unfold TS.rekey
 clear hlp hlu m
 obtain⟨KF,hKF⟩:∃KF,KF=kArr f:=⟨_,rfl⟩
 obtain⟨KC,hKC⟩:∃KC,KC=kArr c:=⟨_,rfl⟩
 have HKF:=zh hKF
 have HKC:=zh hKC
 have HRK:Hid (s.rekeyed f c={ s with C:=s.C.keys f c,used:=s.used++[KF],comp:=cNew,P:=s.P.map PV.again }):=zh (by rw[hKF];rfl)
 rw[←hKF]at HFR HSK HOK HU2 HKL ⊢
 rw[←hKC]at HSC HOC ⊢
 by_cases hno:hasKey f ks=true
 ·rw[hno]at HFR
  rw[if_pos hno]
  dsimp only
  clear hKF hKC hno
  go_enter Tryz.func30,Tryz.ntmps30
  go_upto_region 1 with (fail)
  obtain⟨kb,hkb⟩:∃kb,kb=w.heap.size:=⟨_,rfl⟩
  refine wp_let (fun V=>Blk V kb 23 KF∧Below w.heap.size w V) ⟨by rw[hkb];exact(blk_atZ _ _ _ _ rfl).alloc _,((Below.refl _ w).alloc (Nat.le_refl _) _).alloc (by simp) _⟩ ?_
  rintro W1 ⟨b1,b3⟩
  have B1:=zh b1
  have B3:=zh b3
  rw[←hkb]
  have HKR:=zh (b1.range _ (show KF=KF.toList.toArray by simp))
  clear b1 b3 hkb
  go_wp2_with (first
   | (refine wpList_load_mid rfl _ _ rfl kb 0 rfl KF.toList _ HKR.out HUK.out rfl HSK.out ?_)
   | (go_at_call 28;refine(HFR.out _ B3.out).mono ?_;rintro e w3 ⟨rfl,hb⟩;have B4:=zh hb;clear hb))
  go_ret
  exact⟨rfl,(UO.same HT.out).more (B3.out.trans (B4.out.mono B3.out.size))⟩
 have hno2:hasKey f ks=false:=by simpa using hno
 rw[hno2]at HFR
 rw[if_neg hno]
 dsimp only
 clear hKF hKC hno hno2
 rw[HRK.out]
 go_enter Tryz.func30,Tryz.ntmps30
 go_upto_region 1 with (fail)
 obtain⟨kb,hkb⟩:∃kb,kb=w.heap.size:=⟨_,rfl⟩
 have HKB:=zh hkb
 refine wp_let (fun V=>Blk V kb 23 KF∧Blk V (kb+1) 23 KC∧Below w.heap.size w V) ⟨by rw[hkb];exact(blk_atZ _ _ _ _ rfl).alloc _,by rw[hkb];exact blk_atZ _ _ _ _ (by simp),((Below.refl _ w).alloc (Nat.le_refl _) _).alloc (by simp) _⟩ ?_
 rintro W1 ⟨b1,b2,b3⟩
 have B1:=zh b1
 have B2:=zh b2
 have B3:=zh b3
 rw[←hkb]
 have HKR:=zh (b1.range _ (show KF=KF.toList.toArray by simp))
 clear b1 b2 b3 hkb
 go_upto_region 3 with (first
  | (refine wpList_load_mid rfl _ _ rfl kb 0 rfl KF.toList _ HKR.out HUK.out rfl HSK.out ?_)
  | (go_at_call 28;refine(HFR.out _ B3.out).mono ?_;rintro e w3 ⟨rfl,hb⟩;have B4:=zh hb;clear hb))
 have D1:=zh (B1.out.below B4.out B1.out.lt)
 have D2:=zh (B2.out.below B4.out B2.out.lt)
 have D3:=zh (B3.out.trans (B4.out.mono B3.out.size))
 have T3:=zh (HT.out.below D3.out)
 obtain⟨un,hun⟩:∃un,un=ks.length:=⟨_,rfl⟩
 have HUN:=zh hun
 have hunl:un≤1000000:=by rw[hun];exact HUL.out
 have HKR2:=zh (show ∀W',KeepF (aBlk uA) w3 W'→W'.rangeAt kb 0 KF.toList from fun W' hW=>((hW.blk D1.out (fun⟨a,ha,e⟩=>by
  have h1:=HT.out.u.lt ha
  rw[←e,HKB.out]at h1
  exact absurd h1 (Nat.lt_irrefl _))).range _ (by simp)))
 have HC:=zh (show ∀W',KeepF (aBlk uA) w3 W'→W'.cell? ⟨h,43,none⟩=some (.slice uA un uc)∧W'.frozen? ⟨h,43,none⟩=false from fun W' hW=>by
  have hb:=hW.blk T3.out.blk (fun⟨a,ha,e⟩=>T3.out.hu a ha e)
  exact⟨(hb.cell 43).trans (by rw[hun];exact uArr_high s.C.arr_size 4),hb.frozen 43⟩)
 clear hun
 refine wp_region_L (L:=10) (S:=fun w'=>KeepF (aBlk uA) w3 w') (by kernel_rfl) (KeepF.refl.drew) (fun hHeld=>?_)
 obtain⟨w0,hw0⟩:∃w0,w0=w3.drew:=⟨_,rfl⟩
 rw[←hw0]
 rw[←hw0]at hHeld
 have hb0:Below w3.heap.size w3 w0:=by rw[hw0];exact(Below.refl _ _).drew
 clear hw0
 refine tkL (i:=0) (oi:=⟨some 12,_,_,_,_,_⟩) (v:=.pointer (some ⟨h,0,none⟩)) rfl (Or.inl ⟨by rfl,fun W hW=>(by rfl)⟩) (by assumption) ?_
 refine tkL (i:=1) (oi:=⟨some 13,_,_,_,_,_⟩) (v:=.pointer (some ⟨h,0,none⟩)) rfl (Or.inl ⟨by rfl,fun W hW=>(by rfl)⟩) (by assumption) ?_
 refine tkL (i:=2) (oi:=⟨some 14,_,_,_,_,_⟩) (v:=.pointer (some ⟨h,0,none⟩)) rfl (Or.inl ⟨by rfl,fun W hW=>(by go_simp)⟩) (by assumption) ?_
 refine tkL (i:=3) (oi:=⟨some 15,_,_,_,_,_⟩) (v:=.pointer (some ⟨h,43,none⟩)) rfl (Or.inl ⟨by rfl,fun W hW=>(by go_simp)⟩) (by assumption) ?_
 refine tkL (i:=4) (oi:=⟨some 16,_,_,_,_,_⟩) (v:=.slice uA un uc) rfl (Or.inl ⟨by rfl,fun W hW=>(by obtain⟨x0,x1⟩:=HC.out W hW;go_simp)⟩) (by assumption) ?_
 refine' tkL (i:=5) (oi:=⟨some 17,_,_,_,_,_⟩) (v:=_) rfl (yieldsIf_load_mid (by rfl) _ _ rfl kb 0 rfl KF.toList _ (fun w h=>HKR2.out w h) HUK.out rfl HSK.out) (by assumption) ?_
 refine wpAnyL_one (i:=6) (o:=⟨some 18,_,_,_,_,_⟩) (by kernel_rfl) rfl (fun K hK=>?_)
 rw[if_pos (by rfl)]
 refine wp_build_key _ rfl _ KF f rfl HKF.out ?_
 obtain⟨u2,hu2⟩:∃X,X=w0.alloc (.cells KF 23):=⟨_,rfl⟩
 obtain⟨nb,hnb⟩:∃nb,nb=w0.heap.size:=⟨_,rfl⟩
 have hNB:Blk u2 nb 23 KF:=by rw[hu2,hnb];exact Blk.new _ _ _
 have hb3:Below w3.heap.size w3 u2:=by rw[hu2];exact hb0.alloc hb0.size _
 have hE2:KeepF (aBlk uA) w3 u2:=KeepF.of_below hb3
 rw[←hu2,←hnb]
 refine hK.out _ _ hE2 (fun hHeld=>?_)
 clear hK K hu2 hnb
 try simp only[Act.put,List.setIfInBounds_toArray,List.set_cons_zero,List.set_cons_succ]
 refine wpAnyL_one (i:=7) (o:=⟨some 19,_,_,_,_,_⟩) (by kernel_rfl) rfl (fun K hK=>?_)
 rw[if_pos (by rfl)]
 refine wp_sl_append _ _ 72 72 rfl u2 23 iu (.agg #[.int .u8 0,.int .u8 0,.int .u8 0,.int .u8 0,.int .u8 0,.int .u8 0,.int .u8 0,.int .u8 0,.int .u8 0,.int .u8 0,.int .u8 0,.int .u8 0,.int .u8 0,.int .u8 0,.int .u8 0,.int .u8 0]) 16 16 Tryz.underlying72 hiu hiz his hib rfl uA un uc (ks.flatMap kCells) rfl (by rw[HUN.out];exact T3.out.u.next hb3) (.slice (some ⟨nb,0,none⟩) 1 1) rfl 1 KF.toList (Src.ofSlice _ Tryz.underlying72 ⟨nb,0,none⟩ 1 1 _ (by rw[HKF.out];rfl) (fun j u hu=>by
   rw[Addr.add_lit,Nat.zero_add,hNB.cell j,←Array.getElem?_toList]
   exact hu) (fun u hu=>by have:=HOK.out;rw[Array.all_eq_true']at this;exact this u (by simpa using hu))) (by decide) (by unfold maxLen;omega) (by omega) (fun A9 c9 u3 hs9 hk9 ha9=>?_)
 have hE3:KeepF (aBlk uA) w3 u3:=hE2.trans hk9 (fun _ _ h=>h)
 have hlen:(ks++[f]).length=un+1:=by rw[List.length_append,HUN.out];rfl
 have hs9':SL u3 23 16 A9 (ks++[f]).length c9 ((ks++[f]).flatMap kCells):=by
  rw[hlen,List.flatMap_append]
  have h1:([f]:List (Nat→Int)).flatMap kCells=KF.toList:=by rw[←HKL.out];simp
  rw[h1]
  exact hs9
 have hN:=T3.out.newU hE3 A9 c9 (ks++[f]) hs9' (fun a ha=>by
  rcases ha9 a ha with ⟨a',e1,e2⟩ | h2
  ·exact .inl ⟨a',e1,e2⟩
  ·exact .inr (Nat.le_trans hb3.size h2))
 rw[hlen,HU2.out]at hN
 have HAB:=zh (show ∀k,aBlk A9 k→aBlk uA k∨w3.heap.size≤k from fun k ⟨a,ha,e⟩=>by
  rcases ha9 a ha with ⟨a',e1,e2⟩ | h2
  ·exact .inl ⟨a',e1,by rw[e,e2]⟩
  ·exact .inr (by rw[e];exact Nat.le_trans hb3.size h2))
 have HN:=zh hN
 have HE3:=zh hE3
 refine hK.out _ _ hE3 (fun hHeld=>?_)
 clear hK K hs9 hk9 ha9 hN hs9' hlen
 try simp only[Act.put,List.setIfInBounds_toArray,List.set_cons_zero,List.set_cons_succ]
 refine wpAnyL_one (i:=8) (o:=⟨some 20,_,_,_,_,_⟩) (by kernel_rfl) rfl (fun K hK=>?_)
 rw[if_pos (by rfl)]
 go_simp
 refine hK.out _ _ HE3.out (fun hHeld=>?_)
 clear hK K
 try simp only[Act.put,List.setIfInBounds_toArray,List.set_cons_zero,List.set_cons_succ]
 refine tkL (i:=9) (oi:=⟨some 21,_,_,_,_,_⟩) (v:=.pointer (some ⟨h,43,none⟩)) rfl (Or.inl ⟨by rfl,fun W hW=>(by go_simp)⟩) (by assumption) ?_
 refine wpAnyL_last (o:=⟨none,_,_,_,_,_⟩) (by kernel_rfl) (by kernel_rfl) rfl (fun K hK=>?_)
 rw[if_pos (by rfl)]
 obtain⟨x0,x1⟩:=HC.out u3 HE3.out
 go_simp
 clear x0 x1
 refine hK.out _ _ ?_
 clear hK K hHeld
 try simp only[Act.put]
 have hK5:KeepF (uBlk h qA pA uA) w3 (u3.setCell ⟨h,43,none⟩ (.slice A9 (un+1) c9)):=(HE3.out.mono (fun k hk=>.inr (.inr (.inr hk)))).setCell (p:=⟨h,43,none⟩) (.inl rfl) _
 generalize u3.setCell ⟨h,43,none⟩ (.slice A9 (un+1) c9)=X at HN hK5 ⊢
 have HK5:=zh hK5
 have E1:=zh (HK5.out.blk D1.out (fun hk=>by have h1:=HT.out.ulow hk;rw[HKB.out]at h1;exact absurd h1 (Nat.lt_irrefl _)))
 have E2:=zh (HK5.out.blk D2.out (fun hk=>by have h1:=HT.out.ulow hk;rw[HKB.out]at h1;omega))
 have hne:¬kb=h:=fun e=>by have h1:=HT.out.blk.lt;rw[←e,HKB.out]at h1;exact absurd h1 (Nat.lt_irrefl _)
 have hne2:¬kb+1=h:=fun e=>by have h1:=HT.out.blk.lt;rw[←e,HKB.out]at h1;omega
 have HF1:=zh (show ∀W',KeepF (fun k=>k=h) X W'→W'.rangeAt kb 0 KF.toList from fun W' hW=>(hW.blk E1.out hne).range _ (by simp))
 have HF2:=zh (show ∀W',KeepF (fun k=>k=h) X W'→W'.rangeAt (kb+1) 0 KC.toList from fun W' hW=>(hW.blk E2.out hne2).range _ (by simp))
 have HSKF:Hid ((Tryz.prog.info? 23).map (·.size)=some KF.size):=zh (by rw[HKF.out];kernel_rfl)
 have HSKC:Hid ((Tryz.prog.info? 23).map (·.size)=some KC.size):=zh (by rw[HKC.out];kernel_rfl)
 clear hK5
 go_upto_region 4 with (fail)
 refine wp_region_held_drew (S:=fun w'=>KeepF (fun k=>k=h) X w') (by kernel_rfl) (KeepF.refl.drew) (fun hHeld=>?_)
 obtain⟨w6,hw6⟩:∃w6,w6=X.drew:=⟨_,rfl⟩
 have hb6:Below X.heap.size X w6:=by rw[hw6];exact(Below.refl _ _).drew
 rw[←hw6]
 rw[←hw6]at hHeld
 have hT6:=HN.out.below hb6
 clear hw6 hb6
 refine tkH (i:=0) (oi:=⟨some 22,_,_,_,_,_⟩) (v:=.pointer (some ⟨h,0,none⟩)) rfl (Or.inl ⟨by rfl,fun W hW=>(by rfl)⟩) (by assumption) ?_
 refine tkH (i:=1) (oi:=⟨some 23,_,_,_,_,_⟩) (v:=.pointer (some ⟨h,0,none⟩)) rfl (Or.inl ⟨by rfl,fun W hW=>(by rfl)⟩) (by assumption) ?_
 refine' tkH (i:=2) (oi:=⟨some 24,_,_,_,_,_⟩) (v:=_) rfl (yieldsIf_load_mid (by rfl) _ _ rfl kb 0 rfl KF.toList _ (fun w h=>HF1.out w h) HUK.out rfl HSK.out) (by assumption) ?_
 refine' tkH (i:=3) (oi:=⟨some 25,_,_,_,_,_⟩) (v:=_) rfl (yieldsIf_load_mid (by rfl) _ _ rfl (kb+1) 0 rfl KC.toList _ (fun w h=>HF2.out w h) HUK.out rfl HSC.out) (by assumption) ?_
 refine tkH (i:=4) (oi:=⟨some 26,_,_,_,_,_⟩) (v:=.pointer (some ⟨h,0,none⟩)) rfl (Or.inl ⟨by rfl,fun W hW=>(by go_simp)⟩) (by assumption) ?_
 refine tkH (i:=5) (oi:=⟨some 27,_,_,_,_,_⟩) (v:=.pointer (some ⟨h,0,none⟩)) rfl (Or.inl ⟨by rfl,fun W hW=>(by go_simp)⟩) (by assumption) ?_
 refine tkH (i:=6) (oi:=⟨some 28,_,_,_,_,_⟩) (v:=.pointer (some ⟨h,2,none⟩)) rfl (Or.inl ⟨by rfl,fun W hW=>(by go_simp)⟩) (by assumption) ?_
 refine wpAnyH_ready (rs:=[7]) (by kernel_rfl) (by simp) ?_
 refine AllReadyH.cons (o:=⟨none,_,_,_,_,_⟩) rfl (fun K hK=>?_) AllReadyH.nil
 rw[if_pos (by rfl)]
 refine wp_store_mid _ _ _ rfl h 2 KF rfl rfl (blk_there hT6.blk 2 KF.size (by rw[HKF.out,uArr_size (Cfg.arr_size _)];show 2+16≤44;decide)) HSKF.out HOK.out ?_
 have hk1:KeepF (fun k=>k=h) X (w6.setCells h 2 KF.toList):=hHeld.trans (ts_keep (F:=fun k=>k=h) rfl _ _ _) (fun _ _ h=>h)
 have hB1:=ts_setCells KF.toList 2 w6 _ hT6.blk
 obtain⟨v1,hv1⟩:∃vv,vv=w6.setCells h 2 KF.toList:=⟨_,rfl⟩
 rw[←hv1]at hk1 hB1 ⊢
 refine hK.out _ _ hk1 (fun hHeld=>?_)
 clear hK K hk1 hv1
 try simp only[Act.put]
 refine tkH (i:=8) (oi:=⟨some 29,_,_,_,_,_⟩) (v:=.pointer (some ⟨h,0,none⟩)) rfl (Or.inl ⟨by rfl,fun W hW=>(by go_simp)⟩) (by assumption) ?_
 refine tkH (i:=9) (oi:=⟨some 30,_,_,_,_,_⟩) (v:=.pointer (some ⟨h,0,none⟩)) rfl (Or.inl ⟨by rfl,fun W hW=>(by go_simp)⟩) (by assumption) ?_
 refine tkH (i:=10) (oi:=⟨some 31,_,_,_,_,_⟩) (v:=.pointer (some ⟨h,18,none⟩)) rfl (Or.inl ⟨by rfl,fun W hW=>(by go_simp)⟩) (by assumption) ?_
 refine wpAnyH_ready (rs:=[11]) (by kernel_rfl) (by simp) ?_
 refine AllReadyH.cons (o:=⟨none,_,_,_,_,_⟩) rfl (fun K hK=>?_) AllReadyH.nil
 rw[if_pos (by rfl)]
 refine wp_store_mid _ _ _ rfl h 18 KC rfl rfl (blk_there hB1 18 KC.size (by rw[HKC.out,tsAll_size,uArr_size (Cfg.arr_size _)];show 18+16≤44;decide)) HSKC.out HOC.out ?_
 have hk1:KeepF (fun k=>k=h) X (v1.setCells h 18 KC.toList):=hHeld.trans (ts_keep (F:=fun k=>k=h) rfl _ _ _) (fun _ _ h=>h)
 have hB2:=ts_setCells KC.toList 18 v1 _ hB1
 obtain⟨v2,hv1⟩:∃vv,vv=v1.setCells h 18 KC.toList:=⟨_,rfl⟩
 rw[←hv1]at hk1 hB2 ⊢
 refine hK.out _ _ hk1 (fun hHeld=>?_)
 clear hK K hk1 hv1
 try simp only[Act.put]
 refine wpAnyH_done (by kernel_rfl) ?_ _
 rw[HKF.out,HKC.out,uArr_keys]at hB2
 obtain⟨s7,hs7⟩:∃s7:TS,s7={ s with C:=s.C.keys f c,used:=s.used++[KF],comp:=cNew }:=⟨_,rfl⟩
 have HS7:=zh hs7
 have T8:=zh (show UM v2 B h s7 qA qc lq pA pc lp A9 c9 (ks++[f])from by
  rw[hs7]
  exact(HN.out.put (s':={ ({ s with used:=s.used++[KF] }:TS)with C:=s.C.keys f c }) hHeld hB2 rfl rfl rfl HN.out.now0 HN.out.next0).comp cNew)
 have HK8:=zh (show KeepF (uBlk h qA pA uA) w3 v2 from HK5.out.trans hHeld (fun _ _ e=>.inl e))
 clear hHeld hB1 hB2 hT6 hs7
 obtain⟨m,hm⟩:∃m,m=lp.length:=⟨_,rfl⟩
 have HM:=zh hm
 have m9:(m:Int)≤1000000:=by have:=HPL.out;omega
 have m0:(0:Int)≤(m:Int):=by omega
 clear hm
 go_upto_region 5 with (fail)
 go_wp2
 go_loopw [7] (fun v7 wr=>∃k:Nat,k≤m∧v7=.int .i64 k∧UM wr B h { s7 with P:=(againK lp k).map (·.v) } qA qc lq pA pc (againK lp k) A9 c9 (ks++[f])∧KeepF (uBlk h qA pA uA) w3 wr) (fun v7 _=>m+1-(intOf v7).toNat)
 case atStart=>exact⟨0,by omega,rfl,by rw[againK_zero,T8.out.pv];exact T8.out,HK8.out⟩
 case round=>
  obtain⟨k,hk,rfl,hT,hK⟩:=hrel
  have TR:=zh hT
  have KR:=zh hK
  have k0:(0:Int)≤(k:Int):=by omega
  have y42:=hT.cp
  rw[againK_len,←HM.out]at y42
  clear hT hK
  by_cases hlt:k < m
  ·have k1:(k:Int) < (m:Int):=by omega
   have hkl:k < lp.length:=by rw[←HM.out];exact hlt
   obtain⟨e,he⟩:∃e,lp[k]? = some e:=⟨_,List.getElem?_eq_getElem hkl⟩
   have hak:=againK_at lp k e he
   obtain⟨b,o,hpA,hbl,d0,d1,d2⟩:=TR.out.pcell hak
   have f2:=TR.out.p.frozen hpA (o+k*3+2)
   have hsl:=TR.out.p
   rw[hpA]at hsl y42
   have hS:=hsl.setOne (k*3+2) (by rw[againK_len];omega) (.bool true)
   rw[rep_setT (againK lp k) k e hak,againK_set lp k e he,←Nat.add_assoc,←hpA]at hS
   have hkf:KeepF (aBlk pA) wr (wr.setCell ⟨b,o+k*3+2,none⟩ (.bool true)):=KeepF.refl.setCell (p:=⟨b,o+k*3+2,none⟩) ⟨_,hpA,rfl⟩ (.bool true)
   have HT4:=zh (TR.out.inP hkf (againK lp (k+1)) (by rw[againK_len,againK_len]) hS (fun x hx=>by
    rw[←againK_set lp k e he]at hx
    rcases List.mem_or_eq_of_mem_set hx with h | h
    ·exact TR.out.pe x h
    ·subst h
     exact TR.out.pe e (List.mem_of_getElem? hak)) (fun x hx=>by
    rw[←againK_set lp k e he]at hx
    rcases List.mem_or_eq_of_mem_set hx with h | h
    ·exact TR.out.pr x.v (List.mem_map_of_mem h)
    ·subst h
     exact TR.out.pr e.v (List.mem_map_of_mem (List.mem_of_getElem? hak))))
   have HK4:=zh (KR.out.trans (hkf.mono (fun q hq=>(.inr (.inr (.inl hq)):uBlk h qA pA uA q))) (fun _ _ h=>h))
   subst hpA
   clear hak he d0 d1 hS hsl hkf
   go_wp2
   go_roundw
   case rel=>exact⟨k+1,by omega,by go_num,HT4.out,HK4.out⟩
   case measure=>simp[intOf];omega
  ·obtain rfl:m=k:=by omega
   have k1:¬(m:Int) < (m:Int):=by omega
   have HE:=zh (show({ s7 with P:=(againK lp m).map (·.v) }:TS)={ s with C:=s.C.keys f c,used:=s.used++[KF],comp:=cNew,P:=s.P.map PV.again } by rw[HS7.out,HM.out,againK_all,again_v,HT.out.pv])
   clear hlt hk
   go_wp2
   go_ret
   rw[←HE.out]
   have hU:UO w3 wr B h { s7 with P:=(againK lp m).map (·.v) } (uBlk h qA pA uA):=⟨_,_,_,_,_,_,_,_,_,TR.out,KR.out,fun k hk=>by
    rcases hk with h1 | h1 | h1 | h1
    ·exact .inl (.inl h1)
    ·exact .inl (.inr (.inl h1))
    ·exact .inl (.inr (.inr (.inl h1)))
    ·rcases HAB.out k h1 with h2 | h2
     ·exact .inl (.inr (.inr (.inr h2)))
     ·exact .inr h2⟩
   exact⟨rfl,hU.comp (KeepF.of_below D3.out) (fun k hk=>.inl hk)⟩
end
end Go.Proofs.YtjanmleoomoedaaGreat
