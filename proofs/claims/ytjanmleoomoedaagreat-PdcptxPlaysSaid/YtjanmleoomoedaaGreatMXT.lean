import Derived.Test.YtjanmleoomoedaaGreatMUD
namespace Go.Proofs.YtjanmleoomoedaaGreat
open Go.RowKit
set_option linter.unusedVariables false
set_option linter.unusedSimpArgs false
attribute [local go_sem ↓] Go.wp_at_zero Go.wp_at_succ
private theorem zh {p:Prop} (h:p):Hid p:=h
private theorem tkH {P:Program} {ops:Array Oper} {Q:Exit→Act→World→Prop} {md:Region.Mode} {S:World→Prop} {i:Nat} {oi:Oper} {v:Value} {fuel:Nat} {listed l':Array Bool} {a a':Act} {w:World} (hi:ops[i]? = some oi) (hy:YieldsIf P ops S oi v a) (hS:S w)
  (h:wpAnyH P md ops Q S fuel l' a' w) (hl:listed.setIfInBounds i true=l':=by(try simp only[List.setIfInBounds_toArray,List.set_cons_zero,List.set_cons_succ]);rfl) (ha:a.put oi.dst v=a':=by(try simp only[Act.put,List.setIfInBounds_toArray,List.set_cons_zero,List.set_cons_succ]);rfl) (hs:Region.noSelect ops=true:=by kernel_rfl) (hf:Region.free md ops listed i=true:=by kernel_rfl) (hr:(Region.ready md ops listed).contains i=true:=by kernel_rfl)
  (hQ:∀c a w,Q (.panic c) (a.put oi.dst v) w→Q (.panic c) a w:=by exact fun _ _ _ h=>h):wpAnyH P md ops Q S (fuel+1) listed a w:=by subst hl;subst ha;exact wpAnyH_take hi hs hf hr hQ hy hS h
section
variable {w w1 w' V w0:World} {B g h:Nat} {s r s' r':TS} {U:List (Nat→Int)} {X X':Nat→Prop} {i:Nat}
theorem PW.other (hp:PW w0 w g h s r X) (hk:KeepF X w w'):PW w0 w' g h s r X:=by
 have hlt:=fun k (hk:X k)=>hp.lt hk
 obtain⟨qA,qc,lq,pA,pc,lp,uA,uc,ks,h2,h3,h4⟩:=hp
 have hB:∀k,X k→w0.heap.size≤k:=fun k hx=>by
  obtain⟨W,R,g1,g2,g3,g4⟩:=h2
  exact(g4 k (.inr hx)).1
 refine⟨qA,qc,lq,pA,pc,lp,uA,uc,ks,h2.other (hk.mono (fun k hx=>.inr hx)) (fun k hk2=>⟨.inl hk2,?_⟩),h3.keepF hk hB h4,h4⟩
 rcases hk2 with hk2 | hk2
 ·exact Nat.lt_of_lt_of_le (h3.ulow hk2) hk.size
 ·exact Nat.lt_of_lt_of_le (hlt k hk2) hk.size
theorem PW.both {u2 u3 u4:World} {W R:Nat→Prop} {g' rb:Nat} {A2:Option Addr} {c2:Nat} {lq:List WE} {A:Option Addr} {c:Nat} {lp:List PE} {uA:Option Addr} {uc:Nat} {ks:List (Nat→Int)} (hb1:Below w0.heap.size w0 w1) (hT:TxI u2 g' s W R) (hW:∀k,W k→w1.heap.size≤k) (hb:Below w1.heap.size w1 u2) (hb2:Below u2.heap.size u2 u3) (hm:UM u4 w0.heap.size rb r A2 c2 lq A c lp uA uc ks) (hb3:Below u3.heap.size u3 u4) (hu:∀q,uBlk rb A2 A uA q→u3.heap.size≤q):PW w0 u4 g' rb s r (fun _=>False):=by
 have hb24:=hb2.trans (hb3.mono hb2.size)
 have hw01:=hb1.size
 have hw12:=hb.size
 refine⟨A2,c2,lq,A,c,lp,uA,uc,ks,⟨W,R,hT.below hb24,fun k hk=>Nat.le_trans hw01 (hW k hk),(hb1.trans (hb.mono hw01)).trans (hb24.mono (Nat.le_trans hw01 hw12)),fun k hk=>?_⟩,hm,fun k hk=>hk.elim⟩
 rcases hk with hk | hk
 ·have h5:=hu k hk
  have h6:=hb2.size
  exact⟨by omega,hm.ulow hk,fun hw=>by have:=hT.win k hw;omega,fun hr=>by have:=hT.rin k hr;omega⟩
 ·exact hk.elim
def PlayO (w0:World) (i:Nat) (e:Ending) (w':World):Prop:=∃g h,e=.returned (.tuple #[.pointer (some ⟨g,0,none⟩),.pointer (some ⟨h,0,none⟩)])∧∃s U,PW w0 w' g h s s (fun _=>False)∧PI s U i∧U.length≤i
set_option maxRecDepth 100000 in
set_option maxHeartbeats 12800000 in
theorem play_ok (hp:PW w0 w g h s s (fun _=>False)) (hi:PI s U i) (hi9:i≤900) (hul:U.length≤i) (x:SV) (hx:SVOk w0 x) (XC:Array Value) (hXs:(Tryz.prog.info? 48).map (·.size)=some XC.size) (hX:∀j,j < 36→XC[j]? = some (x.cell j)) :
  Calls Tryz.prog 12 #[.pointer (some ⟨g,0,none⟩),.pointer (some ⟨h,0,none⟩),.agg XC] w (PlayO w0 (i+1)):=by
 have HP:=zh hp
 have HI:=zh hi
 have HX:=zh hx
 have HUL:=zh hul
 have HXC:=zh hX
 have HUK:=zh Tryz.underlying23
 have HSK1:=zh (k_size x.key)
 have HSK2:=zh (k_size x.code)
 obtain⟨kd,hkd⟩:∃k,k=x.kind:=⟨_,rfl⟩
 obtain⟨nw,hnw⟩:∃k,k=x.now:=⟨_,rfl⟩
 obtain⟨ct,hct⟩:∃k,k=x.cnt:=⟨_,rfl⟩
 obtain⟨A,hA⟩:∃k,k=x.A:=⟨_,rfl⟩
 obtain⟨n,hn⟩:∃k,k=x.n:=⟨_,rfl⟩
 obtain⟨c,hc⟩:∃k,k=x.c:=⟨_,rfl⟩
 obtain⟨z,hz⟩:∃k,k=x.z:=⟨_,rfl⟩
 obtain⟨kf,hkf⟩:∃k,k=x.key:=⟨_,rfl⟩
 obtain⟨kc,hkc⟩:∃k,k=x.code:=⟨_,rfl⟩
 have HKB:=zh (And.intro hx.key hx.code)
 have HXX:=zh (And.intro hx.now (And.intro hx.cnt (And.intro hx.mx (And.intro hx.cap (And.intro hx.byte hx.row)))))
 rw[←hnw,←hct,←hA,←hn,←hc,←hz]at HXX
 rw[←hkf,←hkc]at HKB
 rw[←hkf]at HSK1
 rw[←hkc]at HSK2
 have HE0:=zh (show x.cell 0=.int .i64 kd∧x.cell 1=.int .i64 nw∧x.cell 2=.int .u32 ct∧x.cell 3=.slice A n c from ⟨by rw[hkd];rfl,by rw[hnw];rfl,by rw[hct];rfl,by rw[hA,hn,hc];rfl⟩)
 have HE1:=zh (show(∀j,j < 16→x.cell (4+j)=.int .u8 (kf j))∧∀j,j < 16→x.cell (20+j)=.int .u8 (kc j)from ⟨fun j hj=>by
  unfold SV.cell
  rw[if_neg (by omega),if_neg (by omega),if_neg (by omega),if_neg (by omega),if_pos (by omega),show 4+j-4=j by omega,hkf],fun j hj=>by
  unfold SV.cell
  rw[if_neg (by omega),if_neg (by omega),if_neg (by omega),if_neg (by omega),if_neg (by omega),show 20+j-20=j by omega,hkc]⟩)
 clear hp hi hx hul hX hkd hnw hct hA hn hc hz hkf hkc hXs
 go_enter Tryz.func12,Tryz.ntmps12
 go_upto_region 1 with (fail)
 obtain⟨xb,hxb⟩:∃xb,xb=w.heap.size:=⟨_,rfl⟩
 refine wp_let (fun V=>Blk V xb 48 XC∧Below w.heap.size w V) ⟨by rw[hxb];exact Blk.new _ _ _,(Below.refl _ w).alloc (Nat.le_refl _) _⟩ ?_
 rintro V ⟨b1,b2⟩
 rw[←hxb]
 have HPV:=zh (HP.out.add b2 xb (Nat.le_of_eq hxb.symm) b1.lt)
 have HBW:=zh b2
 have HC:=zh (show ∀W:World,W.heap[xb]? = V.heap[xb]?→W.cell? ⟨xb,1,none⟩=some (.int .i64 nw)∧W.cell? ⟨xb,2,none⟩=some (.int .u32 ct)∧W.cell? ⟨xb,3,none⟩=some (.slice A n c)from fun W hW=>by
  have hb:Blk W xb 48 XC:=hW.trans b1
  exact⟨(hb.cell 1).trans ((HXC.out 1 (by decide)).trans (by rw[HE0.out.2.1])),(hb.cell 2).trans ((HXC.out 2 (by decide)).trans (by rw[HE0.out.2.2.1])),(hb.cell 3).trans ((HXC.out 3 (by decide)).trans (by rw[HE0.out.2.2.2]))⟩)
 have HR1:=zh (show ∀W:World,W.heap[xb]? = V.heap[xb]?→W.rangeAt xb 4 (kArr kf).toList from fun W hW j y hy=>by
  have hb:Blk W xb 48 XC:=hW.trans b1
  have hj:j < 16:=(List.getElem?_eq_some_iff.1 hy).1
  rw[hb.cell,HXC.out _ (by omega),HE1.out.1 j hj,←hy,Array.getElem?_toList,kArr_at _ j hj])
 have HR2:=zh (show ∀W:World,W.heap[xb]? = V.heap[xb]?→W.rangeAt xb 20 (kArr kc).toList from fun W hW j y hy=>by
  have hb:Blk W xb 48 XC:=hW.trans b1
  have hj:j < 16:=(List.getElem?_eq_some_iff.1 hy).1
  rw[hb.cell,HXC.out _ (by omega),HE1.out.2 j hj,←hy,Array.getElem?_toList,kArr_at _ j hj])
 have x0:V.cell? ⟨xb,0,none⟩=some (.int .i64 kd):=(b1.cell 0).trans ((HXC.out 0 (by decide)).trans (by rw[HE0.out.1]))
 obtain⟨x1,x2,x3⟩:=HC.out V rfl
 obtain⟨KF,hKF⟩:∃KF,KF=kArr kf:=⟨_,rfl⟩
 obtain⟨KC,hKC⟩:∃KC,KC=kArr kc:=⟨_,rfl⟩
 have HKF:=zh hKF
 have HKC:=zh hKC
 rw[←hKF]at HR1 HSK1
 rw[←hKC]at HR2 HSK2
 clear b1 b2 hxb hKF hKC
 by_cases q1:kd=1
 ·subst q1
  clear x1 x2 x3
  go_upto_region 3 with (fail)
  clear x0
  refine wp_region_held_drew (S:=fun w'=>w'.heap[xb]? = V.heap[xb]?) (by kernel_rfl) rfl (fun hHeld=>?_)
  obtain⟨u0,hu0⟩:∃u0,u0=V.drew:=⟨_,rfl⟩
  have HP0:=zh (HPV.out.below (w':=u0) (by rw[hu0];exact(Below.refl _ V).drew))
  rw[←hu0]
  rw[←hu0]at hHeld
  clear hu0
  refine tkH (i:=0) (oi:=⟨some 21,_,_,_,_,_⟩) (v:=.pointer (some ⟨g,0,none⟩)) rfl (Or.inl ⟨by rfl,fun W hW=>(by rfl)⟩) (by assumption) ?_
  refine tkH (i:=1) (oi:=⟨some 22,_,_,_,_,_⟩) (v:=.pointer (some ⟨xb,1,none⟩)) rfl (Or.inl ⟨by rfl,fun W hW=>(by go_simp)⟩) (by assumption) ?_
  refine tkH (i:=2) (oi:=⟨some 23,_,_,_,_,_⟩) (v:=.int .i64 nw) rfl (Or.inl ⟨by rfl,fun W hW=>(by obtain⟨y1,y2,y3⟩:=HC.out W hW;go_simp)⟩) (by assumption) ?_
  refine tkH (i:=3) (oi:=⟨some 24,_,_,_,_,_⟩) (v:=.pointer (some ⟨xb,3,none⟩)) rfl (Or.inl ⟨by rfl,fun W hW=>(by go_simp)⟩) (by assumption) ?_
  refine tkH (i:=4) (oi:=⟨some 25,_,_,_,_,_⟩) (v:=.slice A n c) rfl (Or.inl ⟨by rfl,fun W hW=>(by obtain⟨y1,y2,y3⟩:=HC.out W hW;go_simp)⟩) (by assumption) ?_
  refine tkH (i:=6) (oi:=⟨some 27,_,_,_,_,_⟩) (v:=.pointer (some ⟨h,0,none⟩)) rfl (Or.inl ⟨by rfl,fun W hW=>(by rfl)⟩) (by assumption) ?_
  refine tkH (i:=7) (oi:=⟨some 28,_,_,_,_,_⟩) (v:=.pointer (some ⟨xb,1,none⟩)) rfl (Or.inl ⟨by rfl,fun W hW=>(by go_simp)⟩) (by assumption) ?_
  refine tkH (i:=8) (oi:=⟨some 29,_,_,_,_,_⟩) (v:=.int .i64 nw) rfl (Or.inl ⟨by rfl,fun W hW=>(by obtain⟨y1,y2,y3⟩:=HC.out W hW;go_simp)⟩) (by assumption) ?_
  refine tkH (i:=9) (oi:=⟨some 30,_,_,_,_,_⟩) (v:=.pointer (some ⟨xb,3,none⟩)) rfl (Or.inl ⟨by rfl,fun W hW=>(by go_simp)⟩) (by assumption) ?_
  refine tkH (i:=10) (oi:=⟨some 31,_,_,_,_,_⟩) (v:=.slice A n c) rfl (Or.inl ⟨by rfl,fun W hW=>(by obtain⟨y1,y2,y3⟩:=HC.out W hW;go_simp)⟩) (by assumption) ?_
  refine wpAnyH_ready (rs:=[5]) (by kernel_rfl) (by simp) ?_
  refine AllReadyH.cons (o:=⟨some 26,_,_,_,_,_⟩) rfl (fun K hK=>?_) AllReadyH.nil
  rw[if_pos (by rfl)]
  go_simp
  refine(HP0.out.tsubmit HI.out (by omega) nw HXX.out.1 A n c z HXX.out.2.2.2.2.2 HXX.out.2.2.2.2.1 HXX.out.2.2.1).mono ?_
  rintro e u1 ⟨rfl,hO⟩
  dsimp only
  have HH:=zh ((hO.2 xb (.inr rfl)).trans hHeld)
  have HP1:=zh hO.1
  clear hO
  refine hK.out _ _ HH.out (fun hHeld=>?_)
  clear hK K HH
  try simp only[Act.put,List.setIfInBounds_toArray,List.set_cons_zero,List.set_cons_succ]
  refine wpAnyH_ready (rs:=[11]) (by kernel_rfl) (by simp) ?_
  refine AllReadyH.cons (o:=⟨some 32,_,_,_,_,_⟩) rfl (fun K hK=>?_) AllReadyH.nil
  rw[if_pos (by rfl)]
  go_simp
  refine(HP1.out.usubmit HI.out (by omega) nw HXX.out.1 A n c z HXX.out.2.2.2.2.2 HXX.out.2.2.2.2.1 HXX.out.2.2.2.1 HXX.out.2.2.1).mono ?_
  rintro e u2 ⟨rfl,hO⟩
  dsimp only
  have HH:=zh ((hO.2 xb (.inr rfl)).trans hHeld)
  have HP2:=zh hO.1
  clear hO
  refine hK.out _ _ HH.out (fun hHeld=>?_)
  clear hK K HH
  try simp only[Act.put,List.setIfInBounds_toArray,List.set_cons_zero,List.set_cons_succ]
  refine tkH (i:=12) (oi:=⟨some 33,_,_,_,_,_⟩) (v:=.bool false) rfl (Or.inl ⟨by rfl,fun W hW=>(by go_simp)⟩) (by assumption) ?_
  refine wpAnyH_done (by kernel_rfl) ?_ _
  clear hHeld
  go_wp2
  go_ret2
  exact⟨g,h,rfl,_,U,HP2.out.less (fun k hk=>hk.elim),HI.out.submit nw n z HXX.out.2.2.2.2.1,Nat.le_succ_of_le HUL.out⟩
 have t1:(kd == 1)=false:=by simpa using q1
 by_cases q2:kd=2
 ·subst q2
  clear q1 t1
  obtain⟨ns,hns⟩:∃ns,ns=s.send nw:=⟨_,rfl⟩
  have hTN:=HPV.out.tnext HI.out (by omega) nw HXX.out.1
  have hUS:=fun(u1:World) (Y:Nat→Prop) (hp:PW w0 u1 g h ns.s s Y)=>hp.usend HI.out (by omega) nw HXX.out.1
  rw[←hns]at hTN hUS
  have HTN:=zh hTN
  have HUS:=zh hUS
  have HNS:=zh hns
  clear hTN hUS hns
  go_upto_region 8 with (first
   | (go_at_call 16;refine(HTN.out).mono ?_;rintro e u1 ⟨A5,c5,rfl,hc5,hr5,hp5,hk5⟩;have HR5:=zh hr5;have HP5:=zh hp5;have HK5:=zh hk5;have y1:=(HC.out u1 (hk5 xb (.inr rfl))).1;clear hc5 hr5 hp5 hk5)
   | (go_at_call 25;refine(HUS.out _ _ HP5.out).mono ?_;rintro e u2 ⟨A6,c6,rfl,hc6,hr6,hp6⟩;have HR6:=zh hr6;have HP6:=zh hp6;clear hc6 hr6 hp6))
  have HR7:=zh (show Row u2 u2.heap.size A5 ns.n (fun j=>.int .u8 ((ns.z j:Nat):Int))from fun h0=>by
   obtain⟨b,o,e,hb,hcl⟩:=HR5.out h0
   have hx:(fun k=>(False∨k=xb)∨blkOf A5 k) b:=.inr ⟨_,e,rfl⟩
   exact⟨b,o,e,HP6.out.1.lt hx,fun j hj=>(World.cell?_of_block (a:=⟨b,o+j,none⟩) (HP6.out.2 b hx)).trans (hcl j hj)⟩)
  have s1:=row_string (P:=Tryz.prog) (w:=u2) 46 9 5 Tryz.underlying46 Tryz.underlying5 Tryz.underlying9 HR7.out c5
  have s2:=row_string (P:=Tryz.prog) (w:=u2) 46 9 5 Tryz.underlying46 Tryz.underlying5 Tryz.underlying9 HR6.out c6
  obtain⟨nn,hnn⟩:∃q,q=ns.n:=⟨_,rfl⟩
  obtain⟨nc,hnc⟩:∃q,q=ns.ct:=⟨_,rfl⟩
  obtain⟨ne,hne⟩:∃q,q=ns.e:=⟨_,rfl⟩
  obtain⟨bs,hbs⟩:∃q,q=bytesOf ns.n (fun j=>((ns.z j:Nat):Int)):=⟨_,rfl⟩
  rw[←hbs]at s1 s2
  rw[←hnn]at s1 s2 ⊢
  rw[←hnc,←hne]
  have g1:(nc != nc)=false:=by simp
  have g2:(ne != ne)=false:=by simp
  clear x0 x1 x2 x3 y1 hnn hnc hne hbs
  go_wp2
  go_ret2
  have hpf:=HI.out.send nw
  rw[←HNS.out]at hpf
  exact⟨g,h,rfl,ns.s,U,HP6.out.1.less (fun k hk=>hk.elim),hpf,Nat.le_succ_of_le HUL.out⟩
 have t2:(kd == 2)=false:=by simpa using q2
 by_cases q3:kd=3
 ·subst q3
  clear x1 x2 x3 q1 q2 t1 t2
  go_upto_region 11 with (fail)
  clear x0
  refine wp_region_held_drew (S:=fun w'=>w'.heap[xb]? = V.heap[xb]?) (by kernel_rfl) rfl (fun hHeld=>?_)
  obtain⟨u0,hu0⟩:∃u0,u0=V.drew:=⟨_,rfl⟩
  have HP0:=zh (HPV.out.below (w':=u0) (by rw[hu0];exact(Below.refl _ V).drew))
  rw[←hu0]
  rw[←hu0]at hHeld
  clear hu0
  refine tkH (i:=0) (oi:=⟨some 69,_,_,_,_,_⟩) (v:=.pointer (some ⟨g,0,none⟩)) rfl (Or.inl ⟨by rfl,fun W hW=>(by rfl)⟩) (by assumption) ?_
  refine tkH (i:=1) (oi:=⟨some 70,_,_,_,_,_⟩) (v:=.pointer (some ⟨xb,2,none⟩)) rfl (Or.inl ⟨by rfl,fun W hW=>(by go_simp)⟩) (by assumption) ?_
  refine tkH (i:=2) (oi:=⟨some 71,_,_,_,_,_⟩) (v:=.int .u32 ct) rfl (Or.inl ⟨by rfl,fun W hW=>(by obtain⟨y1,y2,y3⟩:=HC.out W hW;go_simp)⟩) (by assumption) ?_
  refine tkH (i:=4) (oi:=⟨some 73,_,_,_,_,_⟩) (v:=.pointer (some ⟨h,0,none⟩)) rfl (Or.inl ⟨by rfl,fun W hW=>(by rfl)⟩) (by assumption) ?_
  refine tkH (i:=5) (oi:=⟨some 74,_,_,_,_,_⟩) (v:=.pointer (some ⟨xb,2,none⟩)) rfl (Or.inl ⟨by rfl,fun W hW=>(by go_simp)⟩) (by assumption) ?_
  refine tkH (i:=6) (oi:=⟨some 75,_,_,_,_,_⟩) (v:=.int .u32 ct) rfl (Or.inl ⟨by rfl,fun W hW=>(by obtain⟨y1,y2,y3⟩:=HC.out W hW;go_simp)⟩) (by assumption) ?_
  refine wpAnyH_ready (rs:=[3]) (by kernel_rfl) (by simp) ?_
  refine AllReadyH.cons (o:=⟨some 72,_,_,_,_,_⟩) rfl (fun K hK=>?_) AllReadyH.nil
  rw[if_pos (by rfl)]
  go_simp
  refine(HP0.out.tconfirm ct).mono ?_
  rintro e u1 ⟨rfl,hO⟩
  dsimp only
  have HH:=zh ((hO.2 xb (.inr rfl)).trans hHeld)
  have HP1:=zh hO.1
  clear hO
  refine hK.out _ _ HH.out (fun hHeld=>?_)
  clear hK K HH
  try simp only[Act.put,List.setIfInBounds_toArray,List.set_cons_zero,List.set_cons_succ]
  refine wpAnyH_ready (rs:=[7]) (by kernel_rfl) (by simp) ?_
  refine AllReadyH.cons (o:=⟨some 76,_,_,_,_,_⟩) rfl (fun K hK=>?_) AllReadyH.nil
  rw[if_pos (by rfl)]
  go_simp
  refine(HP1.out.uconfirm HI.out (by omega) ct HXX.out.2.1).mono ?_
  rintro e u2 ⟨rfl,hO⟩
  dsimp only
  have HH:=zh ((hO.2 xb (.inr rfl)).trans hHeld)
  have HP2:=zh hO.1
  clear hO
  refine hK.out _ _ HH.out (fun hHeld=>?_)
  clear hK K HH
  try simp only[Act.put,List.setIfInBounds_toArray,List.set_cons_zero,List.set_cons_succ]
  refine tkH (i:=8) (oi:=⟨some 77,_,_,_,_,_⟩) (v:=.bool false) rfl (Or.inl ⟨by rfl,fun W hW=>(by go_simp)⟩) (by assumption) ?_
  refine wpAnyH_done (by kernel_rfl) ?_ _
  clear hHeld
  go_wp2
  go_ret2
  exact⟨g,h,rfl,_,U,HP2.out.less (fun k hk=>hk.elim),HI.out.confirmed ct,Nat.le_succ_of_le HUL.out⟩
 have t3:(kd == 3)=false:=by simpa using q3
 by_cases q4:kd=4
 ·subst q4
  clear x1 x2 x3 q1 q2 q3 t1 t2 t3
  have hu9:U.length≤100000:=by have:=HUL.out;omega
  have HTF:=zh (fun(u:World) (hp:PW w0 u g h s s (fun k=>False∨k=xb))=>hp.tfresh HI.out kf)
  have HUF:=zh (fun(u:World) (hp:PW w0 u g h s s (fun k=>False∨k=xb))=>hp.ufresh HI.out hu9 kf)
  have HTR:=zh (fun(u:World) (hp:PW w0 u g h s s (fun k=>False∨k=xb))=>hp.trekey HI.out (by omega) kf kc)
  have HUR:=zh (fun(u:World) (hp:PW w0 u g h (s.rekey U kf kc).2 s (fun k=>False∨k=xb))=>hp.urekey HI.out (by omega) hu9 kf kc)
  rw[←HKF.out]at HTF HUF HTR HUR
  rw[←HKC.out]at HTR HUR
  obtain⟨hk0,hhk⟩:∃q,q = !hasKey kf U:=⟨_,rfl⟩
  obtain⟨re,hre⟩:∃q,q=(s.rekey U kf kc).1:=⟨_,rfl⟩
  rw[←hhk]at HTF HUF
  rw[←hre]at HTR HUR
  clear hhk hre hu9
  go_upto_region 14 with (fail)
  clear x0
  refine wp_region_held_drew (S:=fun w'=>w'.heap[xb]? = V.heap[xb]?) (by kernel_rfl) rfl (fun hHeld=>?_)
  obtain⟨u0,hu0⟩:∃u0,u0=V.drew:=⟨_,rfl⟩
  have HP0:=zh (HPV.out.below (w':=u0) (by rw[hu0];exact(Below.refl _ V).drew))
  have hxl:=HP0.out.lt (k:=xb) (.inr rfl)
  rw[←hu0]
  rw[←hu0]at hHeld
  clear hu0
  refine tkH (i:=0) (oi:=⟨some 80,_,_,_,_,_⟩) (v:=.pointer (some ⟨g,0,none⟩)) rfl (Or.inl ⟨by rfl,fun W hW=>(by rfl)⟩) (by assumption) ?_
  refine tkH (i:=1) (oi:=⟨some 81,_,_,_,_,_⟩) (v:=.pointer (some ⟨xb,4,none⟩)) rfl (Or.inl ⟨by rfl,fun W hW=>(by go_simp)⟩) (by assumption) ?_
  refine' tkH (i:=2) (oi:=⟨some 82,_,_,_,_,_⟩) (v:=_) rfl (yieldsIf_load_mid (by rfl) _ _ rfl xb 4 rfl KF.toList _ (fun w h=>HR1.out w h) HUK.out rfl HSK1.out) (by assumption) ?_
  refine tkH (i:=4) (oi:=⟨some 84,_,_,_,_,_⟩) (v:=.pointer (some ⟨h,0,none⟩)) rfl (Or.inl ⟨by rfl,fun W hW=>(by rfl)⟩) (by assumption) ?_
  refine tkH (i:=5) (oi:=⟨some 85,_,_,_,_,_⟩) (v:=.pointer (some ⟨xb,4,none⟩)) rfl (Or.inl ⟨by rfl,fun W hW=>(by go_simp)⟩) (by assumption) ?_
  refine' tkH (i:=6) (oi:=⟨some 86,_,_,_,_,_⟩) (v:=_) rfl (yieldsIf_load_mid (by rfl) _ _ rfl xb 4 rfl KF.toList _ (fun w h=>HR1.out w h) HUK.out rfl HSK1.out) (by assumption) ?_
  refine wpAnyH_ready (rs:=[3]) (by kernel_rfl) (by simp) ?_
  refine AllReadyH.cons (o:=⟨some 83,_,_,_,_,_⟩) rfl (fun K hK=>?_) AllReadyH.nil
  rw[if_pos (by rfl)]
  go_simp
  refine(HTF.out u0 HP0.out).mono ?_
  rintro e u1 ⟨rfl,hB⟩
  dsimp only
  have HH:=zh ((hB.block xb hxl).trans hHeld)
  have HP1:=zh (HP0.out.below hB)
  have hxl:=HP1.out.lt (k:=xb) (.inr rfl)
  clear hB
  refine hK.out _ _ HH.out (fun hHeld=>?_)
  clear hK K HH
  try simp only[Act.put,List.setIfInBounds_toArray,List.set_cons_zero,List.set_cons_succ]
  refine wpAnyH_ready (rs:=[7]) (by kernel_rfl) (by simp) ?_
  refine AllReadyH.cons (o:=⟨some 87,_,_,_,_,_⟩) rfl (fun K hK=>?_) AllReadyH.nil
  rw[if_pos (by rfl)]
  go_simp
  refine(HUF.out u1 HP1.out).mono ?_
  rintro e u2 ⟨rfl,hB⟩
  dsimp only
  have HH:=zh ((hB.block xb hxl).trans hHeld)
  have HP2:=zh (HP1.out.below hB)
  clear hB
  refine hK.out _ _ HH.out (fun hHeld=>?_)
  clear hK K HH
  try simp only[Act.put,List.setIfInBounds_toArray,List.set_cons_zero,List.set_cons_succ]
  refine tkH (i:=8) (oi:=⟨some 88,_,_,_,_,_⟩) (v:=.bool false) rfl (Or.inl ⟨by rfl,fun W hW=>(by cases hk0<;>go_simp)⟩) (by assumption) ?_
  refine tkH (i:=9) (oi:=⟨some 89,_,_,_,_,_⟩) (v:=.bool false) rfl (Or.inl ⟨by rfl,fun W hW=>(by rfl)⟩) (by assumption) ?_
  refine tkH (i:=10) (oi:=⟨some 90,_,_,_,_,_⟩) (v:=.pointer (some ⟨g,0,none⟩)) rfl (Or.inl ⟨by rfl,fun W hW=>(by rfl)⟩) (by assumption) ?_
  refine tkH (i:=11) (oi:=⟨some 91,_,_,_,_,_⟩) (v:=.pointer (some ⟨xb,4,none⟩)) rfl (Or.inl ⟨by rfl,fun W hW=>(by go_simp)⟩) (by assumption) ?_
  refine' tkH (i:=12) (oi:=⟨some 92,_,_,_,_,_⟩) (v:=_) rfl (yieldsIf_load_mid (by rfl) _ _ rfl xb 4 rfl KF.toList _ (fun w h=>HR1.out w h) HUK.out rfl HSK1.out) (by assumption) ?_
  refine tkH (i:=13) (oi:=⟨some 93,_,_,_,_,_⟩) (v:=.pointer (some ⟨xb,20,none⟩)) rfl (Or.inl ⟨by rfl,fun W hW=>(by go_simp)⟩) (by assumption) ?_
  refine' tkH (i:=14) (oi:=⟨some 94,_,_,_,_,_⟩) (v:=_) rfl (yieldsIf_load_mid (by rfl) _ _ rfl xb 20 rfl KC.toList _ (fun w h=>HR2.out w h) HUK.out rfl HSK2.out) (by assumption) ?_
  refine tkH (i:=16) (oi:=⟨some 96,_,_,_,_,_⟩) (v:=.pointer (some ⟨h,0,none⟩)) rfl (Or.inl ⟨by rfl,fun W hW=>(by rfl)⟩) (by assumption) ?_
  refine tkH (i:=17) (oi:=⟨some 97,_,_,_,_,_⟩) (v:=.pointer (some ⟨xb,4,none⟩)) rfl (Or.inl ⟨by rfl,fun W hW=>(by go_simp)⟩) (by assumption) ?_
  refine' tkH (i:=18) (oi:=⟨some 98,_,_,_,_,_⟩) (v:=_) rfl (yieldsIf_load_mid (by rfl) _ _ rfl xb 4 rfl KF.toList _ (fun w h=>HR1.out w h) HUK.out rfl HSK1.out) (by assumption) ?_
  refine tkH (i:=19) (oi:=⟨some 99,_,_,_,_,_⟩) (v:=.pointer (some ⟨xb,20,none⟩)) rfl (Or.inl ⟨by rfl,fun W hW=>(by go_simp)⟩) (by assumption) ?_
  refine' tkH (i:=20) (oi:=⟨some 100,_,_,_,_,_⟩) (v:=_) rfl (yieldsIf_load_mid (by rfl) _ _ rfl xb 20 rfl KC.toList _ (fun w h=>HR2.out w h) HUK.out rfl HSK2.out) (by assumption) ?_
  refine wpAnyH_ready (rs:=[15]) (by kernel_rfl) (by simp) ?_
  refine AllReadyH.cons (o:=⟨some 95,_,_,_,_,_⟩) rfl (fun K hK=>?_) AllReadyH.nil
  rw[if_pos (by rfl)]
  go_simp
  refine(HTR.out u2 HP2.out).mono ?_
  rintro e u3 ⟨rfl,hO⟩
  dsimp only
  have HH:=zh ((hO.2 xb (.inr rfl)).trans hHeld)
  have HP3:=zh hO.1
  clear hO
  refine hK.out _ _ HH.out (fun hHeld=>?_)
  clear hK K HH
  try simp only[Act.put,List.setIfInBounds_toArray,List.set_cons_zero,List.set_cons_succ]
  refine wpAnyH_ready (rs:=[21]) (by kernel_rfl) (by simp) ?_
  refine AllReadyH.cons (o:=⟨some 101,_,_,_,_,_⟩) rfl (fun K hK=>?_) AllReadyH.nil
  rw[if_pos (by rfl)]
  go_simp
  refine(HUR.out u3 HP3.out).mono ?_
  rintro e u4 ⟨rfl,hO⟩
  dsimp only
  have HH:=zh ((hO.2 xb (.inr rfl)).trans hHeld)
  have HP4:=zh hO.1
  clear hO
  refine hK.out _ _ HH.out (fun hHeld=>?_)
  clear hK K HH
  try simp only[Act.put,List.setIfInBounds_toArray,List.set_cons_zero,List.set_cons_succ]
  refine tkH (i:=22) (oi:=⟨some 102,_,_,_,_,_⟩) (v:=.bool false) rfl (Or.inl ⟨by rfl,fun W hW=>(by go_simp)⟩) (by assumption) ?_
  refine tkH (i:=23) (oi:=⟨some 103,_,_,_,_,_⟩) (v:=.bool false) rfl (Or.inl ⟨by rfl,fun W hW=>(by go_simp)⟩) (by assumption) ?_
  refine wpAnyH_done (by kernel_rfl) ?_ _
  clear hHeld hxl
  go_wp2
  go_ret2
  refine⟨g,h,rfl,_,_,HP4.out.less (fun k hk=>hk.elim),HI.out.rekey kf kc HKB.out.1 HKB.out.2,?_⟩
  have hul:=HUL.out
  split
  ·omega
  ·rw[List.length_append]
   simp
   omega
 have t4:(kd == 4)=false:=by simpa using q4
 by_cases q5:kd=5
 ·subst q5
  clear x1 x2 x3 q1 q2 q3 q4 t1 t2 t3 t4
  have HS39:Hid ((Tryz.prog.info? 25).map (·.size)=some s.C.arr.toList.length):=zh (by rw[Array.length_toList,s.C.arr_size];exact infoPd)
  have HS38:Hid ((Tryz.prog.info? 25).map (·.size)=some s.C.arr.size):=zh (by rw[s.C.arr_size];exact infoPd)
  have HSN:Hid ((Tryz.prog.info? 25).map (·.size)=some (s.C.keys kf kc).arr.toList.length):=zh (by rw[Array.length_toList,Cfg.arr_size];exact infoPd)
  have HO:Hid (s.C.arr.all (·.oneCell')=true):=zh s.C.arr_one
  have HZZ:Hid (z39.size=s.C.arr.size):=zh (by rw[s.C.arr_size];rfl)
  have HU:=zh Tryz.underlying25
  have HHR:=zh (show V.rangeAt h 0 s.C.arr.toList from by
   obtain⟨qA,qc,lq,pA,pc,lp,uA,uc,ks,_,h3,_⟩:=HPV.out
   intro j y hy
   have hj:j < 39:=by have:=(List.getElem?_eq_some_iff.1 hy).1;simpa[Cfg.arr_size]using this
   rw[Nat.zero_add,h3.blk.cell j,uArr_low (Cfg.arr_size _) hj,←hy,Array.getElem?_toList])
  have HCK:=zh (cArr_keys s.C kf kc)
  have HAS:=zh s.C.arr_size
  have hv:(s.C.keys kf kc).Valid:=HI.out.fine.val
  have HTR:=zh (fun(u:World) (B:Nat) A c A2 c2 (hf:FL u B A c A2 c2 s)=>tresume_fl (s.C.keys kf kc) hv hf HI.out (by omega) rfl)
  have HUR:=zh (fun(u:World) (B:Nat) A c A2 c2 (hf:FL u B A c A2 c2 s)=>uresume_fl (s.C.keys kf kc) hf HI.out (by omega))
  have HTX:=zh (fun(u:World) (hp:PW w0 u g h s s (fun k=>(False∨k=xb)∨k=V.heap.size))=>hp.texport HI.out (by omega))
  have HUX:=zh (fun(u:World) (hp:PW w0 u g h s s (fun k=>(False∨k=xb)∨k=V.heap.size))=>hp.uexport HI.out (by omega))
  obtain⟨CA,hCA⟩:∃CA,CA=s.C.arr:=⟨_,rfl⟩
  obtain⟨CK,hCK⟩:∃CK,CK=(s.C.keys kf kc).arr:=⟨_,rfl⟩
  rw[←hCA]at HS39 HS38 HO HZZ HHR HCK HAS
  rw[←hCK]at HSN HCK HTR HUR
  rw[←HKF.out,←HKC.out]at HCK
  obtain⟨n32,hn32⟩:∃x,x=s.next % 4294967296:=⟨_,rfl⟩
  obtain⟨us,hus⟩:∃x,x=decide (s.next=4294967296):=⟨_,rfl⟩
  obtain⟨m,hm⟩:∃x,x=s.P.length:=⟨_,rfl⟩
  obtain⟨mq,hmq⟩:∃x,x=s.Q.length:=⟨_,rfl⟩
  rw[←hn32,←hus,←hm,←hmq]at HTX HUX HTR HUR
  have HSKF:Hid ((Tryz.prog.info? 23).map (·.size)=some KF.size):=zh (by rw[HKF.out];kernel_rfl)
  have HSKC:Hid ((Tryz.prog.info? 23).map (·.size)=some KC.size):=zh (by rw[HKC.out];kernel_rfl)
  have HOK:Hid (KF.all (·.oneCell')=true):=zh (by rw[HKF.out];exact k_one kf)
  have HOC:Hid (KC.all (·.oneCell')=true):=zh (by rw[HKC.out];exact k_one kc)
  clear hv hCA hCK hn32 hus hm hmq
  obtain⟨cb,hcb⟩:∃cb,cb=V.heap.size:=⟨_,rfl⟩
  rw[←hcb]at HTX HUX
  go_upto_region 18 with (first
   | (refine wpList_load_mid rfl _ _ rfl h 0 rfl CA.toList _ HHR.out HU.out rfl HS39.out ?_)
   | (refine wpList_store_row rfl _ _ _ rfl V.heap.size CA rfl rfl 25 z39 (Blk.new _ _ _) HS38.out HZZ.out HO.out ?_))
  try simp only[Act.put]
  refine wp_let (fun V2=>Blk V2 V.heap.size 25 CA∧Below V.heap.size V V2) ⟨by first | exact Blk.new V _ _ | exact setRow_heap _ _ _ _ 25 (0,0) (Blk.new _ _ _),by first | exact(Below.refl _ V).alloc (Nat.le_refl _) _ | exact belowRow ((Below.refl _ V).alloc (Nat.le_refl _) _) (Nat.le_refl _) _⟩ ?_
  rintro V2 ⟨v1,v2⟩
  rw[←hcb]at v1 ⊢
  have HPV2:=zh (HPV.out.add v2 cb (Nat.le_of_eq hcb.symm) v1.lt)
  have HB2:=zh v1
  have hxv:xb < V.heap.size:=HPV.out.lt (.inr rfl)
  have hxc:¬xb=cb:=by omega
  have HXK:=zh (show ∀W,KeepF (fun k=>k=cb) V2 W→W.heap[xb]? = V.heap[xb]? from fun W hW=>(hW.block xb (Nat.lt_of_lt_of_le hxv v2.size) hxc).trans (v2.block xb hxv))
  clear x0 v1 v2 hcb hxv hxc
  refine wp_region_held_drew (S:=fun w'=>KeepF (fun k=>k=cb) V2 w') (by kernel_rfl) (KeepF.refl.drew) (fun hHeld=>?_)
  obtain⟨w6,hw6⟩:∃w6,w6=V2.drew:=⟨_,rfl⟩
  have hT6:Blk w6 cb 25 CA:=by rw[hw6];exact HB2.out
  rw[←hw6]
  rw[←hw6]at hHeld
  clear hw6
  refine tkH (i:=0) (oi:=⟨some 110,_,_,_,_,_⟩) (v:=.pointer (some ⟨xb,4,none⟩)) rfl (Or.inl ⟨by rfl,fun W hW=>(by go_simp)⟩) (by assumption) ?_
  refine' tkH (i:=1) (oi:=⟨some 111,_,_,_,_,_⟩) (v:=_) rfl (yieldsIf_load_mid (by rfl) _ _ rfl xb 4 rfl KF.toList _ (fun W hW=>HR1.out W (HXK.out W hW)) HUK.out rfl HSK1.out) (by assumption) ?_
  refine tkH (i:=2) (oi:=⟨some 112,_,_,_,_,_⟩) (v:=.pointer (some ⟨xb,20,none⟩)) rfl (Or.inl ⟨by rfl,fun W hW=>(by go_simp)⟩) (by assumption) ?_
  refine' tkH (i:=3) (oi:=⟨some 113,_,_,_,_,_⟩) (v:=_) rfl (yieldsIf_load_mid (by rfl) _ _ rfl xb 20 rfl KC.toList _ (fun W hW=>HR2.out W (HXK.out W hW)) HUK.out rfl HSK2.out) (by assumption) ?_
  refine tkH (i:=4) (oi:=⟨some 114,_,_,_,_,_⟩) (v:=.pointer (some ⟨cb,2,none⟩)) rfl (Or.inl ⟨by rfl,fun W hW=>(by go_simp)⟩) (by assumption) ?_
  refine wpAnyH_ready (rs:=[5]) (by kernel_rfl) (by simp) ?_
  refine AllReadyH.cons (o:=⟨none,_,_,_,_,_⟩) rfl (fun K hK=>?_) AllReadyH.nil
  rw[if_pos (by rfl)]
  refine wp_store_mid _ _ _ rfl cb 2 KF rfl rfl (blk_there hT6 2 KF.size (by rw[HKF.out,HAS.out];show 2+16≤39;decide)) HSKF.out HOK.out ?_
  have hk1:KeepF (fun k=>k=cb) V2 (w6.setCells cb 2 KF.toList):=hHeld.trans (ts_keep (F:=fun k=>k=cb) rfl _ _ _) (fun _ _ h=>h)
  have hB1:=ts_setCells KF.toList 2 w6 _ hT6
  obtain⟨v1,hv1⟩:∃vv,vv=w6.setCells cb 2 KF.toList:=⟨_,rfl⟩
  rw[←hv1]at hk1 hB1 ⊢
  refine hK.out _ _ hk1 (fun hHeld=>?_)
  clear hK K hk1 hv1
  try simp only[Act.put]
  refine tkH (i:=6) (oi:=⟨some 115,_,_,_,_,_⟩) (v:=.pointer (some ⟨cb,18,none⟩)) rfl (Or.inl ⟨by rfl,fun W hW=>(by go_simp)⟩) (by assumption) ?_
  refine wpAnyH_ready (rs:=[7]) (by kernel_rfl) (by simp) ?_
  refine AllReadyH.cons (o:=⟨none,_,_,_,_,_⟩) rfl (fun K hK=>?_) AllReadyH.nil
  rw[if_pos (by rfl)]
  refine wp_store_mid _ _ _ rfl cb 18 KC rfl rfl (blk_there hB1 18 KC.size (by rw[HKC.out,tsAll_size,HAS.out];show 18+16≤39;decide)) HSKC.out HOC.out ?_
  have hk1:KeepF (fun k=>k=cb) V2 (v1.setCells cb 18 KC.toList):=hHeld.trans (ts_keep (F:=fun k=>k=cb) rfl _ _ _) (fun _ _ h=>h)
  have hB2:=ts_setCells KC.toList 18 v1 _ hB1
  obtain⟨v2,hv1⟩:∃vv,vv=v1.setCells cb 18 KC.toList:=⟨_,rfl⟩
  rw[←hv1]at hk1 hB2 ⊢
  refine hK.out _ _ hk1 (fun hHeld=>?_)
  clear hK K hk1 hv1
  try simp only[Act.put]
  refine wpAnyH_done (by kernel_rfl) ?_ _
  rw[HCK.out]at hB2
  have HPV4:=zh (HPV2.out.other (hHeld.mono (fun k hk=>(.inr hk:(fun k=>(False∨k=xb)∨k=cb) k))))
  have HB4:=zh hB2
  clear hHeld hB1 hB2 hT6
  obtain⟨V4,hV4⟩:∃V4,V4=v2:=⟨_,rfl⟩
  rw[←hV4]at HPV4 HB4 ⊢
  clear hV4
  have HCR:=zh (show ∀W,Below V4.heap.size V4 W→W.rangeAt cb 0 CK.toList from fun W hW=>(HB4.out.below hW HB4.out.lt).range _ (by simp))
  go_upto_region 19 with (fail)
  refine wp_region_held_drew (S:=fun w'=>Below V4.heap.size V4 w') (by kernel_rfl) ((Below.refl _ V4).drew) (fun hHeld=>?_)
  obtain⟨u0,hu0⟩:∃u0,u0=V4.drew:=⟨_,rfl⟩
  rw[←hu0]
  rw[←hu0]at hHeld
  clear hu0
  refine' tkH (i:=0) (oi:=⟨some 117,_,_,_,_,_⟩) (v:=_) rfl (yieldsIf_load_mid (by rfl) _ _ rfl cb 0 rfl CK.toList _ (fun w h=>HCR.out w h) HU.out rfl HSN.out) (by assumption) ?_
  refine tkH (i:=1) (oi:=⟨some 118,_,_,_,_,_⟩) (v:=.pointer (some ⟨g,0,none⟩)) rfl (Or.inl ⟨by rfl,fun W hW=>(by rfl)⟩) (by assumption) ?_
  refine wpAnyH_ready (rs:=[2]) (by kernel_rfl) (by simp) ?_
  refine AllReadyH.cons (o:=⟨some 119,_,_,_,_,_⟩) rfl (fun K hK=>?_) AllReadyH.nil
  rw[if_pos (by rfl)]
  go_simp
  refine(HTX.out u0 (HPV4.out.below hHeld)).mono ?_
  rintro e u1 ⟨A5,c5,A6,c6,rfl,hF,hB⟩
  dsimp only
  have HH:=zh (hHeld.trans (hB.mono hHeld.size))
  have HF1:=zh hF
  have HH1:=zh HH.out
  clear hF hB
  refine hK.out _ _ HH.out (fun hHeld=>?_)
  clear hK K HH
  try simp only[Act.put,List.setIfInBounds_toArray,List.set_cons_zero,List.set_cons_succ]
  refine wpAnyH_ready (rs:=[3]) (by kernel_rfl) (by simp) ?_
  refine AllReadyH.cons (o:=⟨some 120,_,_,_,_,_⟩) rfl (fun K hK=>?_) AllReadyH.nil
  rw[if_pos (by rfl)]
  go_simp
  refine(HTR.out u1 _ A5 c5 A6 c6 HF1.out).mono ?_
  rintro e u2 ⟨g2,W2,R2,rfl,hT2,hW2,hR2,hB⟩
  dsimp only
  have HH:=zh (hHeld.trans (hB.mono hHeld.size))
  have HT2:=zh hT2
  have HW2:=zh hW2
  have HB2b:=zh hB
  have HH2:=zh HH.out
  clear hT2 hW2 hR2 hB
  refine hK.out _ _ HH.out (fun hHeld=>?_)
  clear hK K HH
  try simp only[Act.put,List.setIfInBounds_toArray,List.set_cons_zero,List.set_cons_succ]
  refine tkH (i:=4) (oi:=⟨some 116,_,_,_,_,_⟩) (v:=.tuple #[.pointer (some ⟨g2,0,none⟩),.int .i64 0]) rfl (Or.inl ⟨by rfl,fun W hW=>(by rfl)⟩) (by assumption) ?_
  refine tkH (i:=5) (oi:=⟨some 121,_,_,_,_,_⟩) (v:=.pointer (some ⟨g2,0,none⟩)) rfl (Or.inl ⟨by rfl,fun W hW=>(by go_simp)⟩) (by assumption) ?_
  refine tkH (i:=6) (oi:=⟨some 122,_,_,_,_,_⟩) (v:=.int .i64 0) rfl (Or.inl ⟨by rfl,fun W hW=>(by go_simp)⟩) (by assumption) ?_
  refine tkH (i:=7) (oi:=⟨some 15,_,_,_,_,_⟩) (v:=.pointer (some ⟨g2,0,none⟩)) rfl (Or.inl ⟨by rfl,fun W hW=>(by rfl)⟩) (by assumption) ?_
  refine tkH (i:=8) (oi:=⟨some 16,_,_,_,_,_⟩) (v:=.int .i64 0) rfl (Or.inl ⟨by rfl,fun W hW=>(by rfl)⟩) (by assumption) ?_
  refine wpAnyH_done (by kernel_rfl) ?_ _
  clear hHeld
  go_upto_region 22 with (fail)
  refine wp_region_held_drew (S:=fun w'=>Below u2.heap.size u2 w') (by kernel_rfl) ((Below.refl _ u2).drew) (fun hHeld=>?_)
  obtain⟨u3,hu3⟩:∃u3,u3=u2.drew:=⟨_,rfl⟩
  rw[←hu3]
  rw[←hu3]at hHeld
  clear hu3
  have HWW:=zh (show ∀W,Below u2.heap.size u2 W→Below V4.heap.size V4 W from fun W hW=>HH2.out.trans (hW.mono HH2.out.size))
  refine tkH (i:=0) (oi:=⟨some 125,_,_,_,_,_⟩) (v:=.pointer (some ⟨g2,0,none⟩)) rfl (Or.inl ⟨by rfl,fun W hW=>(by rfl)⟩) (by assumption) ?_
  refine' tkH (i:=1) (oi:=⟨some 126,_,_,_,_,_⟩) (v:=_) rfl (yieldsIf_load_mid (by rfl) _ _ rfl cb 0 rfl CK.toList _ (fun W hW=>HCR.out W (HWW.out W hW)) HU.out rfl HSN.out) (by assumption) ?_
  refine tkH (i:=2) (oi:=⟨some 127,_,_,_,_,_⟩) (v:=.pointer (some ⟨h,0,none⟩)) rfl (Or.inl ⟨by rfl,fun W hW=>(by rfl)⟩) (by assumption) ?_
  refine wpAnyH_ready (rs:=[3]) (by kernel_rfl) (by simp) ?_
  refine AllReadyH.cons (o:=⟨some 128,_,_,_,_,_⟩) rfl (fun K hK=>?_) AllReadyH.nil
  rw[if_pos (by rfl)]
  go_simp
  refine(HUX.out u3 (HPV4.out.below (HWW.out u3 hHeld))).mono ?_
  rintro e u4 ⟨A7,c7,A8,c8,rfl,hF,hB⟩
  dsimp only
  have HH:=zh (hHeld.trans (hB.mono hHeld.size))
  have HF4:=zh hF
  have HH4:=zh HH.out
  clear hF hB
  refine hK.out _ _ HH.out (fun hHeld=>?_)
  clear hK K HH
  try simp only[Act.put,List.setIfInBounds_toArray,List.set_cons_zero,List.set_cons_succ]
  refine wpAnyH_ready (rs:=[4]) (by kernel_rfl) (by simp) ?_
  refine AllReadyH.cons (o:=⟨some 129,_,_,_,_,_⟩) rfl (fun K hK=>?_) AllReadyH.nil
  rw[if_pos (by rfl)]
  go_simp
  refine(HUR.out u4 _ A7 c7 A8 c8 HF4.out).mono ?_
  rintro e u5 ⟨rb,rfl,A9,c9,l9,A10,c10,l10,uA,uc,ks,hM,hB,hu⟩
  dsimp only
  have HH:=zh (hHeld.trans (hB.mono hHeld.size))
  have HM5:=zh hM
  have HB5:=zh hB
  have HU5:=zh hu
  clear hM hB hu
  refine hK.out _ _ HH.out (fun hHeld=>?_)
  clear hK K HH
  try simp only[Act.put,List.setIfInBounds_toArray,List.set_cons_zero,List.set_cons_succ]
  refine tkH (i:=5) (oi:=⟨some 6,_,_,_,_,_⟩) (v:=.pointer (some ⟨g2,0,none⟩)) rfl (Or.inl ⟨by rfl,fun W hW=>(by rfl)⟩) (by assumption) ?_
  refine tkH (i:=6) (oi:=⟨some 7,_,_,_,_,_⟩) (v:=.pointer (some ⟨rb,0,none⟩)) rfl (Or.inl ⟨by rfl,fun W hW=>(by rfl)⟩) (by assumption) ?_
  refine wpAnyH_done (by kernel_rfl) ?_ _
  clear hHeld
  go_wp2
  go_ret2
  have hlow:=HPV4.out.low
  have hu1:=hlow.trans (HH1.out.mono hlow.size)
  exact⟨g2,rb,rfl,_,[kf],PW.both hu1 HT2.out HW2.out HB2b.out HH4.out HM5.out HB5.out HU5.out,(HI.out.resumed kf kc HKB.out.1 HKB.out.2).more,by simp⟩
 have t5:(kd == 5)=false:=by simpa using q5
 clear q1 q2 q3 q4 q5
 go_wp2
 go_ret2
 exact⟨g,h,rfl,s,U,HPV.out.less (fun k hk=>hk.elim),HI.out.more,Nat.le_succ_of_le HUL.out⟩
end
end Go.Proofs.YtjanmleoomoedaaGreat
