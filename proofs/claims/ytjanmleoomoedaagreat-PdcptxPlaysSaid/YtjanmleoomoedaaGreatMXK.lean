import Derived.Test.YtjanmleoomoedaaGreatMXJ
namespace Go.Proofs.YtjanmleoomoedaaGreat
open Go.RowKit
set_option linter.unusedVariables false
set_option linter.unusedSimpArgs false
attribute [local go_sem ↓] Go.wp_at_zero Go.wp_at_succ
private theorem zh {p:Prop} (h:p):Hid p:=h
private theorem tkH {P:Program} {ops:Array Oper} {Q:Exit→Act→World→Prop} {md:Region.Mode} {S:World→Prop} {i:Nat} {oi:Oper} {v:Value} {fuel:Nat} {listed l':Array Bool} {a a':Act} {w:World} (hi:ops[i]? = some oi) (hy:YieldsIf P ops S oi v a) (hS:S w)
  (h:wpAnyH P md ops Q S fuel l' a' w) (hl:listed.setIfInBounds i true=l':=by(try simp only[List.setIfInBounds_toArray,List.set_cons_zero,List.set_cons_succ]);rfl) (ha:a.put oi.dst v=a':=by(try simp only[Act.put,List.setIfInBounds_toArray,List.set_cons_zero,List.set_cons_succ]);rfl) (hs:Region.noSelect ops=true:=by kernel_rfl) (hf:Region.free md ops listed i=true:=by kernel_rfl) (hr:(Region.ready md ops listed).contains i=true:=by kernel_rfl)
  (hQ:∀c a w,Q (.panic c) (a.put oi.dst v) w→Q (.panic c) a w:=by exact fun _ _ _ h=>h):wpAnyH P md ops Q S (fuel+1) listed a w:=by subst hl;subst ha;exact wpAnyH_take hi hs hf hr hQ hy hS h
private theorem tkL {P:Program} {ops:Array Oper} {Q:Exit→Act→World→Prop} {md:Region.Mode} {S:World→Prop} {L i:Nat} {oi:Oper} {v:Value} {fuel:Nat} {listed l':Array Bool} {a a':Act} {w:World} (hi:ops[i]? = some oi) (hy:YieldsIf P ops S oi v a) (hS:S w)
  (h:wpAnyL P md ops Q S L fuel l' a' w) (hl:listed.setIfInBounds i true=l':=by(try simp only[List.setIfInBounds_toArray,List.set_cons_zero,List.set_cons_succ]);rfl) (ha:a.put oi.dst v=a':=by(try simp only[Act.put,List.setIfInBounds_toArray,List.set_cons_zero,List.set_cons_succ]);rfl) (hL:waitsFor md ops L i=true:=by kernel_rfl) (hs:Region.noSelect ops=true:=by kernel_rfl) (hf:Region.free md ops listed i=true:=by kernel_rfl) (hr:(Region.ready md ops listed).contains i=true:=by kernel_rfl)
  (hQ:∀c a w,Q (.panic c) (a.put oi.dst v) w→Q (.panic c) a w:=by exact fun _ _ _ h=>h):wpAnyL P md ops Q S L (fuel+1) listed a w:=by subst hl;subst ha;exact wpAnyL_take hi hL hs hf hr hQ hy hS h
theorem infoCntU:∃i:TypeInfo,Tryz.prog.info? 52 = some i∧i.zero=some (.agg #[.int .u32 0,.slice none 0 0])∧i.size=2∧i.bytes=32:=by
 have h:(Tryz.prog.info? 52).map (fun i=>(i.zero,i.size,i.bytes))=some (some (.agg #[.int .u32 0,.slice none 0 0]),2,32):=by kernel_rfl
 cases hi:Tryz.prog.info? 52 with
 | none=>rw[hi]at h;cases h
 | some i=>
  rw[hi]at h
  simp only[Option.map_some,Option.some.injEq,Prod.mk.injEq]at h
  exact⟨i,rfl,h.1,h.2.1,h.2.2⟩
theorem infoSlU:∃i:TypeInfo,Tryz.prog.info? 46 = some i∧i.zero=some (.slice none 0 0)∧i.size=1∧i.bytes=24:=by
 have h:(Tryz.prog.info? 46).map (fun i=>(i.zero,i.size,i.bytes))=some (some (.slice none 0 0),1,24):=by kernel_rfl
 cases hi:Tryz.prog.info? 46 with
 | none=>rw[hi]at h;cases h
 | some i=>
  rw[hi]at h
  simp only[Option.map_some,Option.some.injEq,Prod.mk.injEq]at h
  exact⟨i,rfl,h.1,h.2.1,h.2.2⟩
theorem take_cc {l:List PE} {k:Nat} {e:PE} (h:l[k]? = some e):(l.take (k+1)).flatMap PE.cc=(l.take k).flatMap PE.cc++PE.cc e:=by
 rw[List.take_add_one,h,List.flatMap_append]
 simp
theorem take_wc {l:List WE} {k:Nat} {e:WE} (h:l[k]? = some e):(l.take (k+1)).flatMap WE.cc=(l.take k).flatMap WE.cc++WE.cc e:=by
 rw[List.take_add_one,h,List.flatMap_append]
 simp
structure ExF (fb:Nat) (nx:Int) (us:Bool) (V:World) (k1:Nat) (A:Option Addr) (c:Nat) (lp:List PE) (k2:Nat) (A2:Option Addr) (c2:Nat) (lq:List WE) (wr:World):Prop where
 blk:Blk wr fb 30 #[.int .u32 nx,.bool us,.slice A k1 c,.slice A2 k2 c2]
 p:SL wr 52 2 A k1 c ((lp.take k1).flatMap PE.cc)
 q:SL wr 46 1 A2 k2 c2 ((lq.take k2).flatMap WE.cc)
 fp:∀a,A=some a→V.heap.size≤a.block
 fq:∀a,A2=some a→V.heap.size≤a.block
 k:KeepF (fun q=>q=fb) V wr
 lt:fb < V.heap.size
section
variable {w w1 w' V:World} {B h:Nat} {s:TS} {qA:Option Addr} {qc:Nat} {lq:List WE} {pA:Option Addr} {pc:Nat} {lp:List PE} {uA:Option Addr} {uc:Nat} {ks:List (Nat→Int)} {F N N':Nat→Prop}
set_option maxRecDepth 100000 in
set_option maxHeartbeats 6400000 in
theorem uexport_ok (m:UM w B h s qA qc lq pA pc lp uA uc ks) (hlp:lp.length≤1000000) (hlq:lq.length≤1000000) :
  Calls Tryz.prog 32 #[.pointer (some ⟨h,0,none⟩)] w fun e w'=>∃A c A2 c2,e=.returned (.agg #[.int .u32 (s.next % 4294967296),.bool (decide (s.next=4294967296)),.slice A lp.length c,.slice A2 lq.length c2])∧SL w' 52 2 A lp.length c (lp.flatMap PE.cc)∧SL w' 46 1 A2 lq.length c2 (lq.flatMap WE.cc)∧Below w.heap.size w w':=by
 have HM:=zh m
 obtain⟨n,hn⟩:∃n,n=lp.length:=⟨_,rfl⟩
 obtain⟨nq,hnq⟩:∃nq,nq=lq.length:=⟨_,rfl⟩
 have HLN:=zh hn
 have HLQ:=zh hnq
 have n9:n≤1000000:=by rw[hn];exact hlp
 have n0:(0:Int)≤(n:Int):=by omega
 have n91:(n:Int)≤1000000:=by omega
 have m9:nq≤1000000:=by rw[hnq];exact hlq
 have m0:(0:Int)≤(nq:Int):=by omega
 have m91:(nq:Int)≤1000000:=by omega
 rw[←hn,←hnq]
 obtain⟨nx,hnx⟩:∃nx,nx=s.next:=⟨_,rfl⟩
 have hn0:=m.next0
 rw[←hnx]at hn0 ⊢
 obtain⟨us,hus⟩:∃us,us=decide (nx=4294967296):=⟨_,rfl⟩
 obtain⟨n32,hn32⟩:∃x,x=nx % 4294967296:=⟨_,rfl⟩
 rw[←hus,←hn32]
 have HUS:=zh hus
 have HN32:=zh (show IntKind.u32.wrap nx=n32 by rw[hn32,IntKind.wrap_u32])
 have HBQ:=zh (show ∀b:Bool,(nx == 4294967296)=us by intro _;rw[hus];by_cases e:nx=4294967296<;>simp[e])
 have HC0:=zh (show ∀W,Below w.heap.size w W→W.cell? ⟨h,40,none⟩=some (.int .u64 nx)from fun W hW=>by rw[hnx];exact(m.below hW).cnext)
 obtain⟨ic,hic,hicz,hics,hicb⟩:=infoCntU
 obtain⟨is,his,hisz,hiss,hisb⟩:=infoSlU
 clear m hn hnq hlp hlq hnx hus hn32
 go_enter Tryz.func32,Tryz.ntmps32
 go_upto_region 1 with (fail)
 obtain⟨rb,hrb⟩:∃rb,rb=w.heap.size:=⟨_,rfl⟩
 have HRB:=zh hrb
 refine wp_let (fun V=>Blk V rb 30 #[.int .u32 0,.bool false,.slice none 0 0,.slice none 0 0]∧Below w.heap.size w V) ⟨by rw[hrb];exact Blk.new _ _ _,(Below.refl _ w).alloc (Nat.le_refl _) _⟩ ?_
 rintro W1 ⟨b1,b2⟩
 rw[←hrb]
 have B1:=zh b1
 have B2:=zh b2
 clear b1 b2 hrb
 refine wp_region_held_drew (S:=fun w'=>Below w.heap.size w w'∧Blk w' rb 30 #[.int .u32 0,.bool false,.slice none 0 0,.slice none 0 0]) (by kernel_rfl) ⟨B2.out.drew,B1.out⟩ (fun hHeld=>?_)
 obtain⟨u0,hu0⟩:∃u0,u0=W1.drew:=⟨_,rfl⟩
 rw[←hu0]
 rw[←hu0]at hHeld
 clear hu0
 refine tkH (i:=0) (oi:=⟨some 6,_,_,_,_,_⟩) (v:=.pointer (some ⟨h,0,none⟩)) rfl (Or.inl ⟨by rfl,fun W hW=>(by rfl)⟩) (by assumption) ?_
 refine tkH (i:=1) (oi:=⟨some 7,_,_,_,_,_⟩) (v:=.pointer (some ⟨h,0,none⟩)) rfl (Or.inl ⟨by rfl,fun W hW=>(by go_simp)⟩) (by assumption) ?_
 refine tkH (i:=2) (oi:=⟨some 8,_,_,_,_,_⟩) (v:=.pointer (some ⟨h,40,none⟩)) rfl (Or.inl ⟨by rfl,fun W hW=>(by go_simp)⟩) (by assumption) ?_
 refine tkH (i:=3) (oi:=⟨some 9,_,_,_,_,_⟩) (v:=.int .u64 nx) rfl (Or.inl ⟨by rfl,fun W hW=>(by have:=HC0.out W hW.1;go_simp)⟩) (by assumption) ?_
 refine tkH (i:=4) (oi:=⟨some 10,_,_,_,_,_⟩) (v:=.int .u32 n32) rfl (Or.inl ⟨by rfl,fun W hW=>(by have:=HN32.out;go_simp)⟩) (by assumption) ?_
 refine tkH (i:=5) (oi:=⟨some 11,_,_,_,_,_⟩) (v:=.pointer (some ⟨h,0,none⟩)) rfl (Or.inl ⟨by rfl,fun W hW=>(by rfl)⟩) (by assumption) ?_
 refine tkH (i:=6) (oi:=⟨some 12,_,_,_,_,_⟩) (v:=.pointer (some ⟨h,0,none⟩)) rfl (Or.inl ⟨by rfl,fun W hW=>(by go_simp)⟩) (by assumption) ?_
 refine tkH (i:=7) (oi:=⟨some 13,_,_,_,_,_⟩) (v:=.pointer (some ⟨h,40,none⟩)) rfl (Or.inl ⟨by rfl,fun W hW=>(by go_simp)⟩) (by assumption) ?_
 refine tkH (i:=8) (oi:=⟨some 14,_,_,_,_,_⟩) (v:=.int .u64 nx) rfl (Or.inl ⟨by rfl,fun W hW=>(by have:=HC0.out W hW.1;go_simp)⟩) (by assumption) ?_
 refine tkH (i:=9) (oi:=⟨some 15,_,_,_,_,_⟩) (v:=.bool us) rfl (Or.inl ⟨by rfl,fun W hW=>(by have:=HBQ.out true;go_simp)⟩) (by assumption) ?_
 refine tkH (i:=10) (oi:=⟨some 16,_,_,_,_,_⟩) (v:=.agg #[.int .u32 n32,.bool us,.slice none 0 0,.slice none 0 0]) rfl (Or.inl ⟨by rfl,fun W hW=>(by go_simp)⟩) (by assumption) ?_
 refine wpAnyH_ready (rs:=[11]) (by kernel_rfl) (by simp) ?_
 refine AllReadyH.cons (o:=⟨some 3,_,_,_,_,_⟩) rfl (fun K hK=>?_) AllReadyH.nil
 rw[if_pos (by rfl)]
 go_simp
 obtain⟨u1,hu1⟩:∃X,X=u0.alloc (.cells #[.int .u32 0,.bool false,.slice none 0 0,.slice none 0 0] 30):=⟨_,rfl⟩
 obtain⟨fb,hfb⟩:∃fb,fb=u0.heap.size:=⟨_,rfl⟩
 have hFB:Blk u1 fb 30 #[.int .u32 0,.bool false,.slice none 0 0,.slice none 0 0]:=by rw[hu1,hfb];exact Blk.new _ _ _
 have hbk:Below u0.heap.size u0 u1:=by rw[hu1];exact(Below.refl _ _).alloc (Nat.le_refl _) _
 have hE1:Below w.heap.size w u1:=hHeld.1.trans (hbk.mono hHeld.1.size)
 have hrl:=hHeld.2.lt
 have hE2:=hHeld.2.below hbk hrl
 have hwf:w.heap.size≤fb:=by rw[hfb];exact hHeld.1.size
 have hne:rb ≠ fb:=by omega
 rw[←hu1,←hfb]
 refine hK.out _ _ ⟨hE1,hE2⟩ (fun hHeld=>?_)
 clear hK K hu1 hfb hbk hrl
 try simp only[Act.put,List.setIfInBounds_toArray,List.set_cons_zero,List.set_cons_succ]
 refine wpAnyH_ready (rs:=[12]) (by kernel_rfl) (by simp) ?_
 refine AllReadyH.cons (o:=⟨none,_,_,_,_,_⟩) rfl (fun K hK=>?_) AllReadyH.nil
 rw[if_pos (by rfl)]
 have c0:=hFB.cell 0
 have c1:=hFB.cell 1
 have c2:=hFB.cell 2
 have c3:=hFB.cell 3
 simp only[List.getElem?_toArray,List.getElem?_cons_zero,List.getElem?_cons_succ]at c0 c1 c2 c3
 have f0:=hFB.frozen 0
 have f1:=hFB.frozen 1
 have f2:=hFB.frozen 2
 have f3:=hFB.frozen 3
 go_simp
 clear c0 c1 c2 c3 f0 f1 f2 f3
 obtain⟨V1,hV1⟩:∃X,X=(((u1.setCell ⟨fb,0,none⟩ (.int .u32 n32)).setCell ⟨fb,1,none⟩ (.bool us)).setCell ⟨fb,2,none⟩ (.slice none 0 0)).setCell ⟨fb,3,none⟩ (.slice none 0 0):=⟨_,rfl⟩
 have hk1:KeepF (fun q=>q=fb) u1 V1:=by rw[hV1];exact((((KeepF.refl (F:=fun q=>q=fb) (w:=u1)).setCell (p:=⟨fb,0,none⟩) rfl _).setCell (p:=⟨fb,1,none⟩) rfl _).setCell (p:=⟨fb,2,none⟩) rfl _).setCell (p:=⟨fb,3,none⟩) rfl _
 have hF1:Blk V1 fb 30 #[.int .u32 n32,.bool us,.slice none 0 0,.slice none 0 0]:=by
  have:=(((hFB.set_ 0 (.int .u32 n32)).set_ 1 (.bool us)).set_ 2 (.slice none 0 0)).set_ 3 (.slice none 0 0)
  rw[hV1]
  simpa using this
 have hE3:Below w.heap.size w V1:=KeepF.below hE1 hk1 (fun q hq=>by rw[hq];exact hwf) hE1.size
 have hE4:=hk1.blk hE2 hne
 rw[←hV1]
 refine hK.out _ _ ⟨hE3,hE4⟩ (fun hHeld=>?_)
 clear hK K hV1 hFB hk1
 try simp only[Act.put]
 refine wpAnyH_done (by kernel_rfl) ?_ _
 have HB3:=zh hE3
 have HR3:=zh hE4
 have HF1:=zh hF1
 have HNE:=zh (And.intro hne hwf)
 have HMV:=zh (HM.out.below hE3)
 clear hHeld hE1 hE2 hE3 hE4 hF1 hne hwf
 go_upto_region 2 with (fail)
 go_wp2
 go_loopw [4] (fun v4 wr=>∃(k:Nat) (A:Option Addr) (c:Nat),k≤n∧v4=.int .i64 k∧ExF fb n32 us V1 k A c lp 0 none 0 lq wr) (fun v4 _=>n+1-(intOf v4).toNat)
 case atStart=>exact⟨0,none,0,by omega,rfl,⟨HF1.out,SL.nil _ _ _,SL.nil _ _ _,fun a ha=>(by cases ha),fun a ha=>(by cases ha),KeepF.refl,HF1.out.lt⟩⟩
 case round=>
  obtain⟨k,A,c,hk,rfl,hE⟩:=hrel
  have HE:=zh hE
  have k0:(0:Int)≤(k:Int):=by omega
  have hUF:∀q,uBlk h qA pA uA q→q ≠ fb:=fun q hq e=>by have h1:=HM.out.ulow hq;have h2:=HNE.out.2;omega
  have HMR:=zh (HMV.out.keepF hE.k (fun q hq=>by rw[hq];exact Nat.le_trans HM.out.bw HNE.out.2) (fun q hq hu=>hUF q hu hq))
  have y42:=HMR.out.cp
  rw[←HLN.out]at y42
  clear hE
  by_cases hkn:k < n
  ·have k1:(k:Int) < (n:Int):=by omega
   obtain⟨e,he⟩:∃e,lp[k]? = some e:=⟨_,List.getElem?_eq_getElem (by rw[←HLN.out];exact hkn)⟩
   obtain⟨b,o,hpA,hb,d0,d1,d2⟩:=HMR.out.pcell he
   subst hpA
   have HEK:=zh he
   obtain⟨x,hx⟩:∃x,x=e.v.ct:=⟨_,rfl⟩
   obtain⟨pn,hpn⟩:∃pn,pn=e.v.n:=⟨_,rfl⟩
   rw[←hx]at d0
   rw[←hpn]at d1
   have HCC:=zh (show PE.cc e=[.int .u32 x,.slice e.A pn e.c] by rw[hx,hpn];rfl)
   have hAb:∀q,aBlk A q→V1.heap.size≤q:=fun q ⟨a,ha,e⟩=>by rw[e];exact HE.out.fp a ha
   have hflt:=HE.out.lt
   have HC:=zh (show ∀W,KeepF (aBlk A) wr W→W.cell? ⟨fb,2,none⟩=some (.slice A k c)∧W.cell? ⟨h,42,none⟩=some (.slice (some ⟨b,o,none⟩) n pc)∧W.cell? ⟨b,o+k*3,none⟩=some (.int .u32 x)∧W.cell? ⟨b,o+k*3+1,none⟩=some (.slice e.A pn e.c)∧W.frozen? ⟨fb,2,none⟩=false from fun W hW=>by
    have hbf:=hW.blk HE.out.blk (fun hq=>by have:=hAb _ hq;omega)
    have hbh:=hW.blk HMR.out.blk (fun hq=>by have h1:=hAb _ hq;have h2:=HMV.out.blk.lt;omega)
    have hbl:¬aBlk A b:=fun hq=>by have h1:=hAb _ hq;have h2:=HMV.out.p.lt rfl;simp only at h2;omega
    have c2:=hbf.cell 2
    simp at c2
    refine⟨c2,?_,(hW.cell (p:=⟨b,o+k*3,none⟩) hb hbl).trans d0,(hW.cell (p:=⟨b,o+k*3+1,none⟩) hb hbl).trans d1,hbf.frozen 2⟩
    exact(hW.cell (p:=⟨h,42,none⟩) HMR.out.blk.lt (fun hq=>by have h1:=hAb _ hq;have h2:=HMV.out.blk.lt;simp only at h1;omega)).trans y42)
   have HAB:=zh hAb
   clear hUF he hx hpn d0 d1 d2 hb hAb hflt
   go_upto_region 5 with (fail)
   clear y42
   refine wp_region_Lx (L:=22) (S:=fun w'=>KeepF (aBlk A) wr w') (by kernel_rfl) (KeepF.refl.drew) (fun hHeld=>?_)
   obtain⟨w0,hw0⟩:∃w0,w0=wr.drew:=⟨_,rfl⟩
   rw[←hw0]
   rw[←hw0]at hHeld
   have hb0:Below wr.heap.size wr w0:=by rw[hw0];exact(Below.refl _ _).drew
   clear hw0
   refine tkL (i:=0) (oi:=⟨some 26,_,_,_,_,_⟩) (v:=.pointer (some ⟨fb,2,none⟩)) rfl (Or.inl ⟨by rfl,fun W hW=>(by go_simp)⟩) (by assumption) ?_
   refine tkL (i:=1) (oi:=⟨some 27,_,_,_,_,_⟩) (v:=.slice A k c) rfl (Or.inl ⟨by rfl,fun W hW=>(by obtain⟨x0,x1,x2,x3,x4⟩:=HC.out W hW;go_simp)⟩) (by assumption) ?_
   refine tkL (i:=2) (oi:=⟨some 28,_,_,_,_,_⟩) (v:=.pointer (some ⟨h,0,none⟩)) rfl (Or.inl ⟨by rfl,fun W hW=>(by rfl)⟩) (by assumption) ?_
   refine tkL (i:=3) (oi:=⟨some 29,_,_,_,_,_⟩) (v:=.pointer (some ⟨h,0,none⟩)) rfl (Or.inl ⟨by rfl,fun W hW=>(by go_simp)⟩) (by assumption) ?_
   refine tkL (i:=4) (oi:=⟨some 30,_,_,_,_,_⟩) (v:=.pointer (some ⟨h,42,none⟩)) rfl (Or.inl ⟨by rfl,fun W hW=>(by go_simp)⟩) (by assumption) ?_
   refine tkL (i:=5) (oi:=⟨some 31,_,_,_,_,_⟩) (v:=.slice (some ⟨b,o,none⟩) n pc) rfl (Or.inl ⟨by rfl,fun W hW=>(by obtain⟨x0,x1,x2,x3,x4⟩:=HC.out W hW;go_simp)⟩) (by assumption) ?_
   refine tkL (i:=6) (oi:=⟨some 32,_,_,_,_,_⟩) (v:=.int .i64 (k:Int)) rfl (Or.inl ⟨by rfl,fun W hW=>(by rfl)⟩) (by assumption) ?_
   refine tkL (i:=7) (oi:=⟨some 33,_,_,_,_,_⟩) (v:=.pointer (some ⟨b,o+k*3,none⟩)) rfl (Or.inl ⟨by rfl,fun W hW=>(by go_simp)⟩) (by assumption) ?_
   refine tkL (i:=8) (oi:=⟨some 34,_,_,_,_,_⟩) (v:=.pointer (some ⟨b,o+k*3,none⟩)) rfl (Or.inl ⟨by rfl,fun W hW=>(by go_simp)⟩) (by assumption) ?_
   refine tkL (i:=9) (oi:=⟨some 35,_,_,_,_,_⟩) (v:=.int .u32 x) rfl (Or.inl ⟨by rfl,fun W hW=>(by obtain⟨x0,x1,x2,x3,x4⟩:=HC.out W hW;go_simp)⟩) (by assumption) ?_
   refine tkL (i:=10) (oi:=⟨some 36,_,_,_,_,_⟩) (v:=.pointer (some ⟨h,0,none⟩)) rfl (Or.inl ⟨by rfl,fun W hW=>(by rfl)⟩) (by assumption) ?_
   refine tkL (i:=11) (oi:=⟨some 37,_,_,_,_,_⟩) (v:=.pointer (some ⟨h,0,none⟩)) rfl (Or.inl ⟨by rfl,fun W hW=>(by go_simp)⟩) (by assumption) ?_
   refine tkL (i:=12) (oi:=⟨some 38,_,_,_,_,_⟩) (v:=.pointer (some ⟨h,42,none⟩)) rfl (Or.inl ⟨by rfl,fun W hW=>(by go_simp)⟩) (by assumption) ?_
   refine tkL (i:=13) (oi:=⟨some 39,_,_,_,_,_⟩) (v:=.slice (some ⟨b,o,none⟩) n pc) rfl (Or.inl ⟨by rfl,fun W hW=>(by obtain⟨x0,x1,x2,x3,x4⟩:=HC.out W hW;go_simp)⟩) (by assumption) ?_
   refine tkL (i:=14) (oi:=⟨some 40,_,_,_,_,_⟩) (v:=.int .i64 (k:Int)) rfl (Or.inl ⟨by rfl,fun W hW=>(by rfl)⟩) (by assumption) ?_
   refine tkL (i:=15) (oi:=⟨some 41,_,_,_,_,_⟩) (v:=.pointer (some ⟨b,o+k*3,none⟩)) rfl (Or.inl ⟨by rfl,fun W hW=>(by go_simp)⟩) (by assumption) ?_
   refine tkL (i:=16) (oi:=⟨some 42,_,_,_,_,_⟩) (v:=.pointer (some ⟨b,o+k*3+1,none⟩)) rfl (Or.inl ⟨by rfl,fun W hW=>(by go_simp)⟩) (by assumption) ?_
   refine tkL (i:=17) (oi:=⟨some 43,_,_,_,_,_⟩) (v:=.slice e.A pn e.c) rfl (Or.inl ⟨by rfl,fun W hW=>(by obtain⟨x0,x1,x2,x3,x4⟩:=HC.out W hW;go_simp)⟩) (by assumption) ?_
   refine tkL (i:=18) (oi:=⟨some 44,_,_,_,_,_⟩) (v:=.agg #[.int .u32 x,.slice e.A pn e.c]) rfl (Or.inl ⟨by rfl,fun W hW=>(by go_simp)⟩) (by assumption) ?_
   refine wpAnyL_one (i:=19) (o:=⟨some 45,_,_,_,_,_⟩) (by kernel_rfl) rfl (fun K hK=>?_)
   rw[if_pos (by rfl)]
   go_simp
   obtain⟨u2,hu2⟩:∃X,X=w0.alloc (.cells #[.int .u32 x,.slice e.A pn e.c] 52):=⟨_,rfl⟩
   obtain⟨nb,hnb⟩:∃nb,nb=w0.heap.size:=⟨_,rfl⟩
   have hNB:Blk u2 nb 52 #[.int .u32 x,.slice e.A pn e.c]:=by rw[hu2,hnb];exact Blk.new _ _ _
   have hb3:Below wr.heap.size wr u2:=by rw[hu2];exact hb0.alloc hb0.size _
   have hE2:KeepF (aBlk A) wr u2:=KeepF.of_below hb3
   rw[←hu2,←hnb]
   refine hK.out _ _ hE2 (fun hHeld=>?_)
   clear hK K hu2 hnb
   try simp only[Act.put,List.setIfInBounds_toArray,List.set_cons_zero,List.set_cons_succ]
   refine wpAnyL_one (i:=20) (o:=⟨some 46,_,_,_,_,_⟩) (by kernel_rfl) rfl (fun K hK=>?_)
   rw[if_pos (by rfl)]
   refine wp_sl_append _ _ 27 27 rfl u2 52 ic (.agg #[.int .u32 0,.slice none 0 0]) 2 32 Tryz.underlying27 hic hicz hics hicb rfl A k c ((lp.take k).flatMap PE.cc) rfl (HE.out.p.next hb3) (.slice (some ⟨nb,0,none⟩) 1 1) rfl 1 [.int .u32 x,.slice e.A pn e.c] (Src.ofSlice _ Tryz.underlying27 ⟨nb,0,none⟩ 1 1 _ rfl (fun j u hu=>by
     have hj:j < 2:=(List.getElem?_eq_some_iff.1 hu).1
     rw[Addr.add_lit,Nat.zero_add,hNB.cell j]
     simpa using hu) (by simp[Value.oneCell'])) (by decide) (by unfold maxLen;omega) (by omega) (fun A9 c9 u3 hs9 hk9 ha9=>?_)
   have hE3:KeepF (aBlk A) wr u3:=hE2.trans hk9 (fun _ _ h=>h)
   have HA9:=zh (show ∀a,A9=some a→V1.heap.size≤a.block from fun a ha=>by
    rcases ha9 a ha with ⟨a',h1,h2⟩ | h2
    ·rw[h2];exact HAB.out _ ⟨a',h1,rfl⟩
    ·exact Nat.le_trans HE.out.k.size (Nat.le_trans hb3.size h2))
   rw[←HCC.out,←take_cc HEK.out]at hs9
   have HS9:=zh hs9
   have HE3:=zh hE3
   refine hK.out _ _ hE3 (fun hHeld=>?_)
   clear hK K hs9 hk9 ha9 hE2 hE3 hb3 hNB
   try simp only[Act.put,List.setIfInBounds_toArray,List.set_cons_zero,List.set_cons_succ]
   refine tkL (i:=21) (oi:=⟨some 47,_,_,_,_,_⟩) (v:=.pointer (some ⟨fb,2,none⟩)) rfl (Or.inl ⟨by rfl,fun W hW=>(by go_simp)⟩) (by assumption) ?_
   refine wpAnyL_last (o:=⟨none,_,_,_,_,_⟩) (by kernel_rfl) (by kernel_rfl) rfl (fun K hK=>?_)
   rw[if_pos (by rfl)]
   obtain⟨x0,x1,x2,x3,x4⟩:=HC.out u3 HE3.out
   go_simp
   clear x0 x1 x2 x3 x4
   refine hK.out _ _ ?_
   clear hK K hHeld
   try simp only[Act.put]
   have hk7:=(KeepF.refl (F:=fun q=>q=fb) (w:=u3)).setCell (p:=⟨fb,2,none⟩) rfl (.slice A9 (k+1) c9)
   have hlt:=HE.out.lt
   have hB7:Blk (u3.setCell ⟨fb,2,none⟩ (.slice A9 (k+1) c9)) fb 30 #[.int .u32 n32,.bool us,.slice A9 (k+1) c9,.slice none 0 0]:=by
    have h1:=(HE3.out.blk HE.out.blk (fun hq=>by have:=HAB.out _ hq;omega)).set_ 2 (.slice A9 (k+1) c9)
    simpa using h1
   have HE9:=zh (show ExF fb n32 us V1 (k+1) A9 c9 lp 0 none 0 lq (u3.setCell ⟨fb,2,none⟩ (.slice A9 (k+1) c9))from ⟨hB7,HS9.out.keepF hk7 (fun a ha e=>by have:=HA9.out a ha;omega),SL.nil _ _ _,HA9.out,fun a ha=>(by cases ha),(HE.out.k.trans HE3.out (fun q hq h1=>by have:=HAB.out q h1;omega)).trans hk7 (fun q _ e=>e),hlt⟩)
   clear hk7 hB7 hlt
   generalize u3.setCell ⟨fb,2,none⟩ (.slice A9 (k+1) c9)=V9 at HE9 ⊢
   go_wp2
   go_roundw
   case rel=>exact⟨k+1,A9,c9,by omega,by go_num,HE9.out⟩
   case measure=>simp[intOf];omega
  ·obtain rfl:n=k:=by omega
   have k1:¬(n:Int) < (n:Int):=by omega
   clear hkn hk hUF
   go_upto_region 6 with (fail)
   clear y42
   go_wp2
   go_loopw [5] (fun v5 wr=>∃(k:Nat) (A2:Option Addr) (c2:Nat),k≤nq∧v5=.int .i64 k∧ExF fb n32 us V1 n A c lp k A2 c2 lq wr) (fun v5 _=>nq+1-(intOf v5).toNat)
   case atStart=>exact⟨0,none,0,by omega,rfl,HE.out⟩
   case round=>
    obtain⟨k,A2,c2,hk,rfl,hE⟩:=hrel
    have HE2:=zh hE
    have k0:(0:Int)≤(k:Int):=by omega
    have hUF:∀q,uBlk h qA pA uA q→q ≠ fb:=fun q hq e=>by have h1:=HM.out.ulow hq;have h2:=HNE.out.2;omega
    have HMR:=zh (HMV.out.keepF hE.k (fun q hq=>by rw[hq];exact Nat.le_trans HM.out.bw HNE.out.2) (fun q hq hu=>hUF q hu hq))
    have y41:=HMR.out.cq
    rw[←HLQ.out]at y41
    clear hE
    by_cases hkn:k < nq
    ·have k1:(k:Int) < (nq:Int):=by omega
     obtain⟨e,he⟩:∃e,lq[k]? = some e:=⟨_,List.getElem?_eq_getElem (by rw[←HLQ.out];exact hkn)⟩
     obtain⟨b,o,hqA,hb,d0,d1⟩:=HMR.out.qcell he
     subst hqA
     have HEK:=zh he
     obtain⟨pn,hpn⟩:∃pn,pn=e.v.n:=⟨_,rfl⟩
     rw[←hpn]at d0
     have HCC:=zh (show WE.cc e=[.slice e.A pn e.c] by rw[hpn];rfl)
     have hAb:∀q,aBlk A2 q→V1.heap.size≤q:=fun q ⟨a,ha,e⟩=>by rw[e];exact HE2.out.fq a ha
     have hflt:=HE2.out.lt
     have HC:=zh (show ∀W,KeepF (aBlk A2) wr W→W.cell? ⟨fb,3,none⟩=some (.slice A2 k c2)∧W.cell? ⟨h,41,none⟩=some (.slice (some ⟨b,o,none⟩) nq qc)∧W.cell? ⟨b,o+k*2,none⟩=some (.slice e.A pn e.c)∧W.frozen? ⟨fb,3,none⟩=false from fun W hW=>by
      have hbf:=hW.blk HE2.out.blk (fun hq=>by have:=hAb _ hq;omega)
      have hbl:¬aBlk A2 b:=fun hq=>by have h1:=hAb _ hq;have h2:=HMV.out.q.lt rfl;simp only at h2;omega
      have c3:=hbf.cell 3
      simp at c3
      refine⟨c3,?_,(hW.cell (p:=⟨b,o+k*2,none⟩) hb hbl).trans d0,hbf.frozen 3⟩
      exact(hW.cell (p:=⟨h,41,none⟩) HMR.out.blk.lt (fun hq=>by have h1:=hAb _ hq;have h2:=HMV.out.blk.lt;simp only at h1;omega)).trans y41)
     have HAB:=zh hAb
     clear hUF he hpn d0 d1 hb hAb hflt
     go_upto_region 9 with (fail)
     clear y41
     refine wp_region_Lx (L:=13) (S:=fun w'=>KeepF (aBlk A2) wr w') (by kernel_rfl) (KeepF.refl.drew) (fun hHeld=>?_)
     obtain⟨w0,hw0⟩:∃w0,w0=wr.drew:=⟨_,rfl⟩
     rw[←hw0]
     rw[←hw0]at hHeld
     have hb0:Below wr.heap.size wr w0:=by rw[hw0];exact(Below.refl _ _).drew
     clear hw0
     refine tkL (i:=0) (oi:=⟨some 57,_,_,_,_,_⟩) (v:=.pointer (some ⟨fb,3,none⟩)) rfl (Or.inl ⟨by rfl,fun W hW=>(by go_simp)⟩) (by assumption) ?_
     refine tkL (i:=1) (oi:=⟨some 58,_,_,_,_,_⟩) (v:=.slice A2 k c2) rfl (Or.inl ⟨by rfl,fun W hW=>(by obtain⟨x0,x1,x2,x3⟩:=HC.out W hW;go_simp)⟩) (by assumption) ?_
     refine tkL (i:=2) (oi:=⟨some 59,_,_,_,_,_⟩) (v:=.pointer (some ⟨h,0,none⟩)) rfl (Or.inl ⟨by rfl,fun W hW=>(by rfl)⟩) (by assumption) ?_
     refine tkL (i:=3) (oi:=⟨some 60,_,_,_,_,_⟩) (v:=.pointer (some ⟨h,0,none⟩)) rfl (Or.inl ⟨by rfl,fun W hW=>(by go_simp)⟩) (by assumption) ?_
     refine tkL (i:=4) (oi:=⟨some 61,_,_,_,_,_⟩) (v:=.pointer (some ⟨h,41,none⟩)) rfl (Or.inl ⟨by rfl,fun W hW=>(by go_simp)⟩) (by assumption) ?_
     refine tkL (i:=5) (oi:=⟨some 62,_,_,_,_,_⟩) (v:=.slice (some ⟨b,o,none⟩) nq qc) rfl (Or.inl ⟨by rfl,fun W hW=>(by obtain⟨x0,x1,x2,x3⟩:=HC.out W hW;go_simp)⟩) (by assumption) ?_
     refine tkL (i:=6) (oi:=⟨some 63,_,_,_,_,_⟩) (v:=.int .i64 (k:Int)) rfl (Or.inl ⟨by rfl,fun W hW=>(by rfl)⟩) (by assumption) ?_
     refine tkL (i:=7) (oi:=⟨some 64,_,_,_,_,_⟩) (v:=.pointer (some ⟨b,o+k*2,none⟩)) rfl (Or.inl ⟨by rfl,fun W hW=>(by go_simp)⟩) (by assumption) ?_
     refine tkL (i:=8) (oi:=⟨some 65,_,_,_,_,_⟩) (v:=.pointer (some ⟨b,o+k*2,none⟩)) rfl (Or.inl ⟨by rfl,fun W hW=>(by go_simp)⟩) (by assumption) ?_
     refine tkL (i:=9) (oi:=⟨some 66,_,_,_,_,_⟩) (v:=.slice e.A pn e.c) rfl (Or.inl ⟨by rfl,fun W hW=>(by obtain⟨x0,x1,x2,x3⟩:=HC.out W hW;go_simp)⟩) (by assumption) ?_
     refine wpAnyL_one (i:=10) (o:=⟨some 67,_,_,_,_,_⟩) (by kernel_rfl) rfl (fun K hK=>?_)
     rw[if_pos (by rfl)]
     go_simp
     obtain⟨u2,hu2⟩:∃X,X=w0.alloc (.cells #[.slice e.A pn e.c] 46):=⟨_,rfl⟩
     obtain⟨nb,hnb⟩:∃nb,nb=w0.heap.size:=⟨_,rfl⟩
     have hNB:Blk u2 nb 46 #[.slice e.A pn e.c]:=by rw[hu2,hnb];exact Blk.new _ _ _
     have hb3:Below wr.heap.size wr u2:=by rw[hu2];exact hb0.alloc hb0.size _
     have hE2:KeepF (aBlk A2) wr u2:=KeepF.of_below hb3
     rw[←hu2,←hnb]
     refine hK.out _ _ hE2 (fun hHeld=>?_)
     clear hK K hu2 hnb
     try simp only[Act.put,List.setIfInBounds_toArray,List.set_cons_zero,List.set_cons_succ]
     refine wpAnyL_one (i:=11) (o:=⟨some 68,_,_,_,_,_⟩) (by kernel_rfl) rfl (fun K hK=>?_)
     rw[if_pos (by rfl)]
     refine wp_sl_append _ _ 28 28 rfl u2 46 is (.slice none 0 0) 1 24 Tryz.underlying28 his hisz hiss hisb rfl A2 k c2 ((lq.take k).flatMap WE.cc) rfl (HE2.out.q.next hb3) (.slice (some ⟨nb,0,none⟩) 1 1) rfl 1 [.slice e.A pn e.c] (Src.ofSlice _ Tryz.underlying28 ⟨nb,0,none⟩ 1 1 _ rfl (fun j u hu=>by
       have hj:j < 1:=(List.getElem?_eq_some_iff.1 hu).1
       rw[Addr.add_lit,Nat.zero_add,hNB.cell j]
       simpa using hu) (by simp[Value.oneCell'])) (by decide) (by unfold maxLen;omega) (by omega) (fun A9 c9 u3 hs9 hk9 ha9=>?_)
     have hE3:KeepF (aBlk A2) wr u3:=hE2.trans hk9 (fun _ _ h=>h)
     have HA9:=zh (show ∀a,A9=some a→V1.heap.size≤a.block from fun a ha=>by
      rcases ha9 a ha with ⟨a',h1,h2⟩ | h2
      ·rw[h2];exact HAB.out _ ⟨a',h1,rfl⟩
      ·exact Nat.le_trans HE2.out.k.size (Nat.le_trans hb3.size h2))
     rw[←HCC.out,←take_wc HEK.out]at hs9
     have HS9:=zh hs9
     have HE3:=zh hE3
     refine hK.out _ _ hE3 (fun hHeld=>?_)
     clear hK K hs9 hk9 ha9 hE2 hE3 hb3 hNB
     try simp only[Act.put,List.setIfInBounds_toArray,List.set_cons_zero,List.set_cons_succ]
     refine tkL (i:=12) (oi:=⟨some 69,_,_,_,_,_⟩) (v:=.pointer (some ⟨fb,3,none⟩)) rfl (Or.inl ⟨by rfl,fun W hW=>(by go_simp)⟩) (by assumption) ?_
     refine wpAnyL_last (o:=⟨none,_,_,_,_,_⟩) (by kernel_rfl) (by kernel_rfl) rfl (fun K hK=>?_)
     rw[if_pos (by rfl)]
     obtain⟨x0,x1,x2,x3⟩:=HC.out u3 HE3.out
     go_simp
     clear x0 x1 x2 x3
     refine hK.out _ _ ?_
     clear hK K hHeld
     try simp only[Act.put]
     have hk7:=(KeepF.refl (F:=fun q=>q=fb) (w:=u3)).setCell (p:=⟨fb,3,none⟩) rfl (.slice A9 (k+1) c9)
     have hlt:=HE2.out.lt
     have hB7:Blk (u3.setCell ⟨fb,3,none⟩ (.slice A9 (k+1) c9)) fb 30 #[.int .u32 n32,.bool us,.slice A n c,.slice A9 (k+1) c9]:=by
      have h1:=(HE3.out.blk HE2.out.blk (fun hq=>by have:=HAB.out _ hq;omega)).set_ 3 (.slice A9 (k+1) c9)
      simpa using h1
     have HE9:=zh (show ExF fb n32 us V1 n A c lp (k+1) A9 c9 lq (u3.setCell ⟨fb,3,none⟩ (.slice A9 (k+1) c9))from ⟨hB7,(HE2.out.p.keepF HE3.out (fun a ha ⟨a',h1,h2⟩=>by
       obtain⟨cu1,hc1⟩:=HE2.out.p.obj ha
       obtain⟨cu2,hc2⟩:=HE2.out.q.obj h1
       exact cells_ne hc1 hc2 (by decide) h2)).keepF hk7 (fun a ha e=>by have:=HE2.out.fp a ha;omega),HS9.out.keepF hk7 (fun a ha e=>by have:=HA9.out a ha;omega),HE2.out.fp,HA9.out,(HE2.out.k.trans HE3.out (fun q hq h1=>by have:=HAB.out q h1;omega)).trans hk7 (fun q _ e=>e),hlt⟩)
     clear hk7 hB7 hlt
     generalize u3.setCell ⟨fb,3,none⟩ (.slice A9 (k+1) c9)=V9 at HE9 ⊢
     go_wp2
     go_roundw
     case rel=>exact⟨k+1,A9,c9,by omega,by go_num,HE9.out⟩
     case measure=>simp[intOf];omega
    ·obtain rfl:nq=k:=by omega
     have k1:¬(nq:Int) < (nq:Int):=by omega
     have hbr:=HE2.out.k.blk HR3.out HNE.out.1
     have HBR:=zh hbr
     have z0:=HE2.out.blk.cell 0
     have z1:=HE2.out.blk.cell 1
     have z2:=HE2.out.blk.cell 2
     have z3:=HE2.out.blk.cell 3
     have c0:=hbr.cell 0
     have c1:=hbr.cell 1
     have c2':=hbr.cell 2
     have c3:=hbr.cell 3
     simp only[List.getElem?_toArray,List.getElem?_cons_zero,List.getElem?_cons_succ]at z0 z1 z2 z3 c0 c1 c2' c3
     have f0:=hbr.frozen 0
     have f1:=hbr.frozen 1
     have f2:=hbr.frozen 2
     have f3:=hbr.frozen 3
     clear hkn hk hUF hbr
     go_wp2
     have hB:=((((HBR.out.set_ 0 (.int .u32 n32)).set_ 1 (.bool us)).set_ 2 (.slice A n c)).set_ 3 (.slice A2 nq c2))
     have hB':Blk ((((wr.setCell ⟨rb,0,none⟩ (.int .u32 n32)).setCell ⟨rb,1,none⟩ (.bool us)).setCell ⟨rb,2,none⟩ (.slice A n c)).setCell ⟨rb,3,none⟩ (.slice A2 nq c2)) rb 30 #[.int .u32 n32,.bool us,.slice A n c,.slice A2 nq c2]:=by simpa using hB
     have hkp:KeepF (fun q=>q=rb) wr ((((wr.setCell ⟨rb,0,none⟩ (.int .u32 n32)).setCell ⟨rb,1,none⟩ (.bool us)).setCell ⟨rb,2,none⟩ (.slice A n c)).setCell ⟨rb,3,none⟩ (.slice A2 nq c2)):=((((KeepF.refl (F:=fun q=>q=rb) (w:=wr)).setCell (p:=⟨rb,0,none⟩) rfl _).setCell (p:=⟨rb,1,none⟩) rfl _).setCell (p:=⟨rb,2,none⟩) rfl _).setCell (p:=⟨rb,3,none⟩) rfl _
     refine bodyPost_ret (v:=.agg #[.int .u32 n32,.bool us,.slice A n c,.slice A2 nq c2]) ?_ ?_ ?_
     case refine_1=>exact results_cell_row (g:=rb) (t:=30) (fr:=(0,0)) Tryz.results32 _ _ _ _ rfl hB' Tryz.underlying30 rfl (by kernel_rfl)
     case refine_2=>rfl
     have hrl:=HR3.out.lt
     have hp:=HE2.out.p.keepF hkp (fun a ha e=>by have:=HE2.out.fp a ha;omega)
     have hq:=HE2.out.q.keepF hkp (fun a ha e=>by have:=HE2.out.fq a ha;omega)
     rw[show lp.take n=lp from by rw[HLN.out,List.take_length]]at hp
     rw[show lq.take nq=lq from by rw[HLQ.out,List.take_length]]at hq
     refine⟨A,c,A2,c2,rfl,hp,hq,?_⟩
     exact KeepF.below (KeepF.below HB3.out HE2.out.k (fun q hq=>by rw[hq];exact HNE.out.2) HB3.out.size) hkp (fun q hq=>by rw[hq];exact Nat.le_of_eq HRB.out.symm) (Nat.le_trans HB3.out.size HE2.out.k.size)
end
end Go.Proofs.YtjanmleoomoedaaGreat
