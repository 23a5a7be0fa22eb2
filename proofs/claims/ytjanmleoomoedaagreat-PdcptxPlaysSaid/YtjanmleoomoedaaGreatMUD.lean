import Derived.Test.YtjanmleoomoedaaGreatMXM
import Derived.Test.YtjanmleoomoedaaGreatMUA
import Derived.Test.YtjanmleoomoedaaGreatMGP
import Derived.Test.YtjanmleoomoedaaGreatMRI
namespace Go.Proofs.YtjanmleoomoedaaGreat
open Go.RowKit
set_option linter.unusedVariables false
set_option linter.unusedSimpArgs false
attribute [local go_sem ↓] Go.wp_at_zero Go.wp_at_succ
private theorem zh {p:Prop} (h:p):Hid p:=h
private theorem tkH {P:Program} {ops:Array Oper} {Q:Exit→Act→World→Prop} {md:Region.Mode} {S:World→Prop} {i:Nat} {oi:Oper} {v:Value} {fuel:Nat} {listed l':Array Bool} {a a':Act} {w:World} (hi:ops[i]? = some oi) (hy:YieldsIf P ops S oi v a) (hS:S w)
  (h:wpAnyH P md ops Q S fuel l' a' w) (hl:listed.setIfInBounds i true=l':=by(try simp only[List.setIfInBounds_toArray,List.set_cons_zero,List.set_cons_succ]);rfl) (ha:a.put oi.dst v=a':=by(try simp only[Act.put,List.setIfInBounds_toArray,List.set_cons_zero,List.set_cons_succ]);rfl) (hs:Region.noSelect ops=true:=by kernel_rfl) (hf:Region.free md ops listed i=true:=by kernel_rfl) (hr:(Region.ready md ops listed).contains i=true:=by kernel_rfl)
  (hQ:∀c a w,Q (.panic c) (a.put oi.dst v) w→Q (.panic c) a w:=by exact fun _ _ _ h=>h):wpAnyH P md ops Q S (fuel+1) listed a w:=by subst hl;subst ha;exact wpAnyH_take hi hs hf hr hQ hy hS h
theorem pdu_all (cf:Cfg) (hok:cf.Ok) (hv:cf.Valid):PduOK cf:=fun x hx w B A n c z h hB=>by
 have hc:((x.toNat:Nat):Int)=x:=Int.toNat_of_nonneg hx.1
 have hr:Row w w.heap.size A n (fun j=>.int .u8 ((nf z j:Nat):Int)):=fun hn=>by
  obtain⟨b,off,e,hb,hcl⟩:=h.row hn
  exact⟨b,off,e,by omega,fun j hj=>by rw[hcl j hj];show some (Value.int .u8 (z j))=some (Value.int .u8 ((nf z j:Nat):Int));rw[nf_cast h.byte hj]⟩
 have h1:Calls Tryz.prog 50 #[.agg cf.arr,.int .u32 ((x.toNat:Nat):Int),.slice A n c] w (PduC cf x.toNat n (nf z) w):=by
  cases hig:cf.ig
  ·exact rpdu_plain cf hok hv hig x.toNat (by omega) A n c (nf z) h.pos h.max w hr (fun j hj=>nf_lt h.byte hj)
  ·exact rpdu_ig cf hok hv hig x.toNat (by omega) A n c (nf z) h.pos h.max w hr (fun j hj=>nf_lt h.byte hj)
 rw[hc]at h1
 refine h1.mono ?_
 rintro e w' ⟨A',c',he,hs,hf,hb⟩
 refine⟨A',c',he,hs.le,fun hn=>?_,hb⟩
 obtain⟨b,o,hA,hlt⟩:=hs.some_ (by omega)
 exact⟨b,o,hA,hlt,fun j hj=>by rw[hs.cell hA (by omega)];unfold pduL;rw[List.getElem?_map,List.getElem?_range hj];rfl⟩
theorem hasKey_congr (f:Nat→Int):∀(a b:List (Nat→Int)),a.map kArr=b.map kArr→hasKey f a=hasKey f b
 | [],[],_=>rfl
 | [],_ :: _,h=>by cases h
 | _ :: _,[],h=>by cases h
 | x :: a,y :: b,h=>by
  simp only[List.map_cons,List.cons.injEq]at h
  have h1:keyEq f x=keyEq f y:=by
   have hk:=kArr_inj h.1
   rw[Bool.eq_iff_iff,keyEq_iff,keyEq_iff]
   exact⟨fun q j hj=>(q j hj).trans (hk j hj),fun q j hj=>(q j hj).trans (hk j hj).symm⟩
  unfold hasKey
  rw[List.any_cons,List.any_cons,h1]
  exact congrArg _ (hasKey_congr f a b h.2)
section
variable {w w1 w' V w0:World} {B g h:Nat} {s r s' r':TS} {qA:Option Addr} {qc:Nat} {lq:List WE} {pA:Option Addr} {pc:Nat} {lp:List PE} {uA:Option Addr} {uc:Nat} {ks U:List (Nat→Int)} {F N N' X X':Nat→Prop} {i:Nat}
theorem CPk.keepN {A:Option Addr} {n c:Nat} {z:Nat→Int} (hc:CPk w B A n c z) (hlow:∀k,k < B→w'.heap[k]? = w.heap[k]?):CPk w' B A n c z:=
 ⟨hc.pos,hc.max,hc.cap,hc.byte,fun hn=>by
  obtain⟨b,o,e,hb,hcl⟩:=hc.row hn
  exact⟨b,o,e,hb,fun j hj=>(World.cell?_of_block (a:=⟨b,o+j,none⟩) (hlow b hb)).trans (hcl j hj)⟩⟩
theorem UM.keepN (m:UM w B h s qA qc lq pA pc lp uA uc ks) (hN:∀k,uBlk h qA pA uA k→w'.heap[k]? = w.heap[k]?) (hlow:∀k,k < B→w'.heap[k]? = w.heap[k]?) (hsz:B≤w'.heap.size):UM w' B h s qA qc lq pA pc lp uA uc ks:=
 ⟨(hN h (.inl rfl)).trans m.blk,m.qv,m.pv,m.kv,m.q.keep (fun a e=>hN _ (.inr (.inl ⟨a,e,rfl⟩))),m.p.keep (fun a e=>hN _ (.inr (.inr (.inl ⟨a,e,rfl⟩)))),m.u.keep (fun a e=>hN _ (.inr (.inr (.inr ⟨a,e,rfl⟩)))),fun e he=>(m.qe e he).keepN hlow,fun e he=>(m.pe e he).keepN hlow,m.pr,m.bh,m.bq,m.bp,m.bu,hsz,m.now0,m.next0⟩
def PW (w0 w:World) (g h:Nat) (s r:TS) (X:Nat→Prop):Prop:=∃qA qc lq pA pc lp uA uc ks,SoloN w0 w g s (fun k=>uBlk h qA pA uA k∨X k)∧UM w w0.heap.size h r qA qc lq pA pc lp uA uc ks∧∀k,X k→¬uBlk h qA pA uA k
def PO (w0 w w':World) (g h:Nat) (s r:TS) (X:Nat→Prop):Prop:=PW w0 w' g h s r X∧∀k,X k→w'.heap[k]? = w.heap[k]?
theorem PW.below (hp:PW w0 w g h s r X) (hb:Below w.heap.size w w'):PW w0 w' g h s r X:=by
 obtain⟨qA,qc,lq,pA,pc,lp,uA,uc,ks,h2,h3,h4⟩:=hp
 exact⟨qA,qc,lq,pA,pc,lp,uA,uc,ks,h2.below hb,h3.below hb,h4⟩
theorem PW.low (hp:PW w0 w g h s r X):Below w0.heap.size w0 w:=by
 obtain⟨qA,qc,lq,pA,pc,lp,uA,uc,ks,h2,h3,h4⟩:=hp
 exact h2.low
theorem PW.lt (hp:PW w0 w g h s r X) {k:Nat} (hk:X k):k < w.heap.size:=by
 obtain⟨qA,qc,lq,pA,pc,lp,uA,uc,ks,⟨W,R,g1,g2,g3,g4⟩,h3,h4⟩:=hp
 exact(g4 k (.inr hk)).2.1
theorem PW.less (hp:PW w0 w g h s r X) (hX:∀k,X' k→X k):PW w0 w g h s r X':=by
 obtain⟨qA,qc,lq,pA,pc,lp,uA,uc,ks,⟨W,R,g1,g2,g3,g4⟩,h3,h4⟩:=hp
 exact⟨qA,qc,lq,pA,pc,lp,uA,uc,ks,⟨W,R,g1,g2,g3,fun k hk=>g4 k (hk.imp id (hX k))⟩,h3,fun k hk=>h4 k (hX k hk)⟩
theorem PW.add (hp:PW w0 w g h s r X) (hb:Below w.heap.size w w') (xb:Nat) (h1:w.heap.size≤xb) (h2:xb < w'.heap.size):PW w0 w' g h s r (fun k=>X k∨k=xb):=by
 have hlt:=fun k (hk:X k)=>hp.lt hk
 obtain⟨qA,qc,lq,pA,pc,lp,uA,uc,ks,g1,h3,h4⟩:=hp
 refine⟨qA,qc,lq,pA,pc,lp,uA,uc,ks,g1.other (KeepF.of_below hb) (fun k hk=>?_),h3.below hb,fun k hk hu=>?_⟩
 ·have hs:=hb.size
  rcases hk with hk | hk | hk
  ·exact⟨.inl (.inl hk),Nat.lt_of_lt_of_le (h3.ulow hk) hs⟩
  ·exact⟨.inl (.inr hk),Nat.lt_of_lt_of_le (hlt k hk) hs⟩
  ·rw[hk];exact⟨.inr h1,h2⟩
 ·rcases hk with hk | hk
  ·exact h4 k hk hu
  ·have:=h3.ulow hu
   omega
theorem PW.tcall (hp:PW w0 w g h s r X):∃N,SoloN w0 w g s N∧(∀k,X k→N k)∧∀w' g' s',SoloN w0 w' g' s' N→(∀k,N k→w'.heap[k]? = w.heap[k]?)→PO w0 w w' g' h s' r X:=by
 obtain⟨qA,qc,lq,pA,pc,lp,uA,uc,ks,h2,h3,h4⟩:=hp
 refine⟨_,h2,fun k hk=>.inr hk,fun w' g' s' hs hk=>⟨⟨qA,qc,lq,pA,pc,lp,uA,uc,ks,hs,h3.keepN (fun k hu=>hk k (.inl hu)) (fun k hk=>(hs.low.block k hk).trans (h2.low.block k hk).symm) hs.low.size,h4⟩,fun k hx=>hk k (.inr hx)⟩⟩
theorem PW.ucall (hp:PW w0 w g h s r X):∃qA qc lq pA pc lp uA uc ks,UM w w0.heap.size h r qA qc lq pA pc lp uA uc ks∧∀w' r',UO w w' w0.heap.size h r' (uBlk h qA pA uA)→PO w0 w w' g h s r' X:=by
 have hlt:=fun k (hk:X k)=>hp.lt hk
 obtain⟨qA,qc,lq,pA,pc,lp,uA,uc,ks,h2,h3,h4⟩:=hp
 refine⟨qA,qc,lq,pA,pc,lp,uA,uc,ks,h3,fun w' r' ho=>?_⟩
 obtain⟨qA',qc',lq',pA',pc',lp',uA',uc',ks',m,hk,hN⟩:=ho
 refine⟨⟨qA',qc',lq',pA',pc',lp',uA',uc',ks',h2.other (hk.mono (fun k hu=>.inl hu)) (fun k hk2=>?_),m,fun k hx hu=>?_⟩,fun k hx=>hk.block k (hlt k hx) (h4 k hx)⟩
 ·rcases hk2 with hk2 | hk2
  ·exact⟨(hN k hk2).imp .inl id,m.ulow hk2⟩
  ·exact⟨.inl (.inr hk2),Nat.lt_of_lt_of_le (hlt k hk2) hk.size⟩
 ·rcases hN k hu with h5 | h5
  ·exact h4 k hx h5
  ·have:=hlt k hx
   omega
theorem PW.tsubmit (hp:PW w0 w g h s r X) (hi:PI s U i) (hi9:i≤1000) (t:Int) (ht:-9223372036854775808≤t∧t≤9223372036854775807) (A:Option Addr) (n c:Nat) (z:Nat→Int) (hr:Row w0 w0.heap.size A n (fun j=>.int .u8 (z j))) (hz:∀j,j < n→0≤z j∧z j < 256) (hn9:n≤maxLen) :
  Calls Tryz.prog 15 #[.pointer (some ⟨g,0,none⟩),.int .i64 t,.slice A n c] w fun e w'=>e=.returned (.int .i64 (s.submit t n z).1)∧PO w0 w w' g h (s.submit t n z).2 r X:=by
 have hlow:=hp.low
 obtain⟨N,hs,_,hc⟩:=hp.tcall
 refine(solon_submitA hs hi.fine hi.cm (by have:=hi.ql;omega) t ht.1 ht.2 A n c z (fun hn=>?_) hz (fun a e hn=>?_) hn9).mono fun e w' ⟨he,h1,h2⟩=>⟨he,hc _ _ _ h1 h2⟩
 ·obtain⟨b,o,e,hb,hcl⟩:=hr hn
  exact⟨b,o,e,Nat.lt_of_lt_of_le hb hlow.size,fun j hj=>(hlow.cell (p:=⟨b,o+j,none⟩) hb).trans (hcl j hj)⟩
 ·obtain⟨b,o,e',hb,hcl⟩:=hr (by omega)
  rw[e]at e'
  cases e'
  exact .inr hb
theorem PW.usubmit (hp:PW w0 w g h s r X) (hi:PI r U i) (hi9:i≤1000) (t:Int) (ht:-9223372036854775808≤t∧t≤9223372036854775807) (A:Option Addr) (n c:Nat) (z:Nat→Int) (hr:Row w0 w0.heap.size A n (fun j=>.int .u8 (z j))) (hz:∀j,j < n→0≤z j∧z j < 256) (hnc:n≤c) (hn9:n≤maxLen) :
  Calls Tryz.prog 24 #[.pointer (some ⟨h,0,none⟩),.int .i64 t,.slice A n c] w fun e w'=>e=.returned (.int .i64 (r.submit t n z).1)∧PO w0 w w' g h s (r.submit t n z).2 X:=by
 have hlow:=hp.low
 obtain⟨qA,qc,lq,pA,pc,lp,uA,uc,ks,h3,hc⟩:=hp.ucall
 refine(usubmit_ok h3 hi.fine (by rw[←h3.qlen];have:=hi.ql;omega) t ht.1 ht.2 A n c z (fun hn=>?_) hz hnc hn9).mono fun e w' ⟨he,ho⟩=>⟨he,hc _ _ ho⟩
 obtain⟨b,o,e,hb,hcl⟩:=hr hn
 exact⟨b,o,e,hb,fun j hj=>(hlow.cell (p:=⟨b,o+j,none⟩) hb).trans (hcl j hj)⟩
theorem PW.tnext (hp:PW w0 w g h s r X) (hi:PI s U i) (hi9:i≤1000) (t:Int) (ht:-9223372036854775808≤t∧t≤9223372036854775807) :
  Calls Tryz.prog 16 #[.pointer (some ⟨g,0,none⟩),.int .i64 t] w fun e w'=>∃A c,e=.returned (.tuple #[.slice A (s.send t).n c,.int .u32 (s.send t).ct,.int .i64 (s.send t).e])∧(s.send t).n≤c∧Row w' w'.heap.size A (s.send t).n (fun j=>.int .u8 (((s.send t).z j:Nat):Int))∧PW w0 w' g h (s.send t).s r (fun k=>X k∨blkOf A k)∧∀k,X k→w'.heap[k]? = w.heap[k]?:=by
 obtain⟨qA,qc,lq,pA,pc,lp,uA,uc,ks,h2,h3,h4⟩:=hp
 refine(solon_nextU h2 hi.fine hi.cm (by have:=hi.pl;omega) t ht.1 ht.2).mono ?_
 rintro e w' ⟨A,c,he,hc,hr,⟨W,R,g1,g2,g3,g4⟩,hk,hA⟩
 refine⟨A,c,he,hc,hr,⟨qA,qc,lq,pA,pc,lp,uA,uc,ks,⟨W,R,g1,g2,g3,fun k hk2=>g4 k ?_⟩,h3.keepN (fun k hu=>hk k (.inl hu)) (fun k hk=>(g3.block k hk).trans (h2.low.block k hk).symm) g3.size,fun k hx hu=>?_⟩,fun k hx=>hk k (.inr hx)⟩
 ·rcases hk2 with h5 | h5 | h5
  ·exact .inl (.inl h5)
  ·exact .inl (.inr h5)
  ·exact .inr h5
 ·rcases hx with hx | ⟨a,ha,e⟩
  ·exact h4 k hx hu
  ·have h5:=h3.ulow hu
   have h6:=(hA a ha).2
   omega
theorem PW.usend (hp:PW w0 w g h s r X) (hi:PI r U i) (hi9:i≤1000) (t:Int) (ht:-9223372036854775808≤t∧t≤9223372036854775807) :
  Calls Tryz.prog 25 #[.pointer (some ⟨h,0,none⟩),.int .i64 t] w fun e w'=>∃A c,e=.returned (.tuple #[.slice A (r.send t).n c,.int .u32 (r.send t).ct,.int .i64 (r.send t).e])∧(r.send t).n≤c∧Row w' w'.heap.size A (r.send t).n (fun j=>.int .u8 (((r.send t).z j:Nat):Int))∧PO w0 w w' g h s (r.send t).s X:=by
 obtain⟨qA,qc,lq,pA,pc,lp,uA,uc,ks,h3,hcl⟩:=hp.ucall
 have hl:lq.length≤1000000:=by rw[←h3.qlen];have:=hi.ql;omega
 have hl2:lp.length≤1000000:=by rw[←h3.plen];have:=hi.pl;omega
 have hpd:=pdu_all r.C hi.fine.ok hi.fine.val
 have hall:Calls Tryz.prog 25 #[.pointer (some ⟨h,0,none⟩),.int .i64 t] w (USO w w0.heap.size h (uBlk h qA pA uA) (r.send t)):=by
  by_cases ct:1073741824≤t
  ·exact usend_late h3 hi.fine hl t ht.1 ht.2 ct
  cases hrep:firstRep r.P with
  | some x=>exact usend_rep h3 hi.fine hpd hl hl2 t ht.1 ht.2 ct x.1 x.2 hrep
  | none=>
   cases hq:(r.tick t).Q with
   | nil=>exact usend_none h3 hi.fine hpd hl hl2 t ht.1 ht.2 ct hrep hq
   | cons q l=>
    by_cases hnx:r.next=4294967296
    ·exact usend_used h3 hi.fine hpd hl hl2 t ht.1 ht.2 ct hrep q l hq hnx
    by_cases hfu:r.full=true
    ·exact usend_full h3 hi.fine hpd hl hl2 t ht.1 ht.2 ct hrep q l hq hnx hfu (hi.full.1 hfu)
    ·exact usend_good h3 hi.fine hpd hl hl2 t ht.1 ht.2 ct hrep q l hq hnx hfu (fun p l2 hP he=>hfu (hi.full.2 ⟨p,l2,hP,he⟩))
 refine hall.mono ?_
 rintro e w' ⟨A,c,he,hc,hr,ho⟩
 exact⟨A,c,he,hc,hr,hcl _ _ ho⟩
theorem PW.tconfirm (hp:PW w0 w g h s r X) (x:Int) :
  Calls Tryz.prog 17 #[.pointer (some ⟨g,0,none⟩),.int .u32 x] w fun e w'=>e=.returned (.int .i64 (s.confirmed x).1)∧PO w0 w w' g h (s.confirmed x).2 r X:=by
 obtain⟨N,hs,_,hc⟩:=hp.tcall
 exact(solon_confirm hs x).mono fun e w' ⟨he,h1,h2⟩=>⟨he,hc _ _ _ h1 h2⟩
theorem PW.uconfirm (hp:PW w0 w g h s r X) (hi:PI r U i) (hi9:i≤1000) (x:Int) (hx:0≤x∧x < 4294967296) :
  Calls Tryz.prog 26 #[.pointer (some ⟨h,0,none⟩),.int .u32 x] w fun e w'=>e=.returned (.int .i64 (r.confirmed x).1)∧PO w0 w w' g h s (r.confirmed x).2 X:=by
 obtain⟨qA,qc,lq,pA,pc,lp,uA,uc,ks,h3,hcl⟩:=hp.ucall
 exact(uconfirm_ok h3 (by rw[←h3.plen];have:=hi.pl;omega) x hx).mono fun e w' ⟨he,ho⟩=>⟨he,hcl _ _ ho⟩
theorem um_keys (hi:PI r U i) (hu:U.length≤100000) (m:UM w B h r qA qc lq pA pc lp uA uc ks):ks.map kArr=U.map kArr∧ks.length≤1000000:=by
 have h1:=m.kv
 rw[hi.used]at h1
 have h2:=congrArg List.length h1
 rw[List.length_map,List.length_map]at h2
 exact⟨h1,by omega⟩
theorem PW.ufresh (hp:PW w0 w g h s r X) (hi:PI r U i) (hu:U.length≤100000) (f:Nat→Int) :
  Calls Tryz.prog 28 #[.pointer (some ⟨h,0,none⟩),.agg (kArr f)] w fun e w'=>e=.returned (.bool (!hasKey f U))∧Below w.heap.size w w':=by
 obtain⟨qA,qc,lq,pA,pc,lp,uA,uc,ks,h3,hcl⟩:=hp.ucall
 obtain⟨g1,g2⟩:=um_keys hi hu h3
 rw[←hasKey_congr f ks U g1]
 exact ufresh_ok h3 g2 f
theorem PW.urekey (hp:PW w0 w g h s r X) (hi:PI r U i) (hi9:i≤1000) (hu:U.length≤100000) (f c:Nat→Int) :
  Calls Tryz.prog 30 #[.pointer (some ⟨h,0,none⟩),.agg (kArr f),.agg (kArr c)] w fun e w'=>e=.returned (.int .i64 (r.rekey U f c).1)∧PO w0 w w' g h s (r.rekey U f c).2 X:=by
 obtain⟨qA,qc,lq,pA,pc,lp,uA,uc,ks,h3,hcl⟩:=hp.ucall
 obtain⟨g1,g2⟩:=um_keys hi hu h3
 have he:r.rekey U f c=r.rekey ks f c:=by unfold TS.rekey;rw[hasKey_congr f ks U g1]
 rw[he]
 exact(urekey_ok h3 (by rw[←h3.plen];have:=hi.pl;omega) g2 f c).mono fun e w' ⟨he,ho⟩=>⟨he,hcl _ _ ho⟩
theorem PW.trekey (hp:PW w0 w g h s r X) (hi:PI s U i) (hi9:i≤1000) (f c:Nat→Int) :
  Calls Tryz.prog 29 #[.pointer (some ⟨g,0,none⟩),.agg (kArr f),.agg (kArr c)] w fun e w'=>e=.returned (.int .i64 (s.rekey U f c).1)∧PO w0 w w' g h (s.rekey U f c).2 r X:=by
 obtain⟨N,hs,_,hc⟩:=hp.tcall
 exact(solon_rekey hs U hi.used hi.comp (by have:=hi.pl;omega) f c).mono fun e w' ⟨he,h1,h2⟩=>⟨he,hc _ _ _ h1 h2⟩
end
set_option maxRecDepth 100000 in
set_option maxHeartbeats 3200000 in
theorem tfresh_ok (g:Nat) (s:TS) (W R:Nat→Prop) (w:World) (h:TxI w g s W R) (U:List (Nat→Int)) (hU:s.used=U.map kArr) (f:Nat→Int) :
  Calls Tryz.prog 27 #[.pointer (some ⟨g,0,none⟩),.agg (kArr f)] w fun e w'=>e=.returned (.bool (!hasKey f U))∧Below w.heap.size w w':=by
 have HNO:=zh (fun(V:World) (hb:Below w.heap.size w V)=>tmade_ok g s W R V (h.below hb))
 obtain⟨qA,qc,lq,pA,pc,lp,ub,cb,hT⟩:=h
 have HT:=zh hT
 have HLK:=zh (fun(V:World) (hb:Below w.heap.size w V)=>k_lookup V ub U f (by rw[←hU];exact(hT.below hb).u))
 have HSK:=zh (k_size f)
 have HUK:=zh Tryz.underlying23
 obtain⟨KF,hKF⟩:∃KF,KF=kArr f:=⟨_,rfl⟩
 rw[←hKF]at HLK HSK ⊢
 obtain⟨q,hq⟩:∃q,q=hasKey f U:=⟨_,rfl⟩
 rw[←hq]at HLK ⊢
 clear hT hKF hU hq
 go_enter Tryz.func27,Tryz.ntmps27
 go_upto_region 1 with (fail)
 obtain⟨kb,hkb⟩:∃kb,kb=w.heap.size:=⟨_,rfl⟩
 refine wp_let (fun V=>Blk V kb 23 KF∧Below w.heap.size w V) ⟨by rw[hkb];exact Blk.new _ _ _,(Below.refl _ w).alloc (Nat.le_refl _) _⟩ ?_
 rintro W1 ⟨b1,b3⟩
 have B1:=zh b1
 have B3:=zh b3
 rw[←hkb]
 clear b1 b3 hkb
 have HKR:=zh (show ∀W',Below W1.heap.size W1 W'→W'.rangeAt kb 0 KF.toList from fun W' hW=>(B1.out.below hW B1.out.lt).range _ (by simp))
 have HC44:=zh (show ∀W',Below W1.heap.size W1 W'→W'.cell? ⟨g,44,none⟩=some (.map (some ub))from fun W' hW=>(HT.out.below (B3.out.trans (hW.mono B3.out.size))).cu)
 have HL2:=zh (show ∀W',Below W1.heap.size W1 W'→(Instr.lookup 60 (.map (some ub)) (.agg KF) false).run Tryz.prog W'=.ok (.bool q) W' from fun W' hW=>HLK.out W' (B3.out.trans (hW.mono B3.out.size)))
 refine wp_region_held_drew (S:=fun w'=>Below W1.heap.size W1 w') (by kernel_rfl) ((Below.refl _ W1).drew) (fun hHeld=>?_)
 obtain⟨w0,hw0⟩:∃w0,w0=W1.drew:=⟨_,rfl⟩
 rw[←hw0]
 rw[←hw0]at hHeld
 clear hw0
 refine tkH (i:=0) (oi:=⟨some 5,_,_,_,_,_⟩) (v:=.pointer (some ⟨g,0,none⟩)) rfl (Or.inl ⟨by rfl,fun W hW=>(by rfl)⟩) (by assumption) ?_
 refine wpAnyH_ready (rs:=[1]) (by kernel_rfl) (by simp) ?_
 refine AllReadyH.cons (o:=⟨some 6,_,_,_,_,_⟩) rfl (fun K hK=>?_) AllReadyH.nil
 rw[if_pos (by rfl)]
 go_simp
 refine(HNO.out w0 (B3.out.trans (hHeld.mono B3.out.size))).mono ?_
 rintro e w1' ⟨rfl,rfl⟩
 dsimp only
 refine hK.out _ _ hHeld (fun hHeld=>?_)
 clear hK K
 try simp only[Act.put,List.setIfInBounds_toArray,List.set_cons_zero,List.set_cons_succ]
 refine tkH (i:=2) (oi:=⟨some 7,_,_,_,_,_⟩) (v:=.bool true) rfl (Or.inl ⟨by rfl,fun W hW=>(by go_simp)⟩) (by assumption) ?_
 refine tkH (i:=3) (oi:=⟨some 8,_,_,_,_,_⟩) (v:=.bool true) rfl (Or.inl ⟨by rfl,fun W hW=>(by rfl)⟩) (by assumption) ?_
 refine tkH (i:=4) (oi:=⟨some 9,_,_,_,_,_⟩) (v:=.pointer (some ⟨g,0,none⟩)) rfl (Or.inl ⟨by rfl,fun W hW=>(by rfl)⟩) (by assumption) ?_
 refine tkH (i:=5) (oi:=⟨some 10,_,_,_,_,_⟩) (v:=.pointer (some ⟨g,0,none⟩)) rfl (Or.inl ⟨by rfl,fun W hW=>(by go_simp)⟩) (by assumption) ?_
 refine tkH (i:=6) (oi:=⟨some 11,_,_,_,_,_⟩) (v:=.pointer (some ⟨g,44,none⟩)) rfl (Or.inl ⟨by rfl,fun W hW=>(by go_simp)⟩) (by assumption) ?_
 refine tkH (i:=7) (oi:=⟨some 12,_,_,_,_,_⟩) (v:=.map (some ub)) rfl (Or.inl ⟨by rfl,fun W hW=>(by have:=HC44.out W hW;go_simp)⟩) (by assumption) ?_
 refine' tkH (i:=8) (oi:=⟨some 13,_,_,_,_,_⟩) (v:=_) rfl (yieldsIf_load_mid (by rfl) _ _ rfl kb 0 rfl KF.toList _ (fun w h=>HKR.out w h) HUK.out rfl HSK.out) (by assumption) ?_
 refine tkH (i:=9) (oi:=⟨some 14,_,_,_,_,_⟩) (v:=.bool q) rfl (Or.inl ⟨by rfl,fun W hW=>(by have:=HL2.out W hW;go_simp)⟩) (by assumption) ?_
 refine tkH (i:=10) (oi:=⟨some 15,_,_,_,_,_⟩) (v:=.bool (!q)) rfl (Or.inl ⟨by rfl,fun W hW=>(by cases q<;>go_simp)⟩) (by assumption) ?_
 refine tkH (i:=11) (oi:=⟨some 16,_,_,_,_,_⟩) (v:=.bool (!q)) rfl (Or.inl ⟨by rfl,fun W hW=>(by go_simp)⟩) (by assumption) ?_
 refine tkH (i:=12) (oi:=⟨some 4,_,_,_,_,_⟩) (v:=.bool (!q)) rfl (Or.inl ⟨by rfl,fun W hW=>(by rfl)⟩) (by assumption) ?_
 refine wpAnyH_done (by kernel_rfl) ?_ _
 have H2:=zh hHeld
 clear hHeld
 go_wp2
 go_ret
 exact⟨rfl,B3.out.trans (H2.out.mono B3.out.size)⟩
theorem PW.tfresh {w0 w:World} {g h:Nat} {s r:TS} {X:Nat→Prop} {U:List (Nat→Int)} {i:Nat} (hp:PW w0 w g h s r X) (hi:PI s U i) (f:Nat→Int) :
  Calls Tryz.prog 27 #[.pointer (some ⟨g,0,none⟩),.agg (kArr f)] w fun e w'=>e=.returned (.bool (!hasKey f U))∧Below w.heap.size w w':=by
 obtain⟨qA,qc,lq,pA,pc,lp,uA,uc,ks,⟨W,R,g1,g2,g3,g4⟩,h3,h4⟩:=hp
 exact tfresh_ok g s W R w g1 U hi.used f
end Go.Proofs.YtjanmleoomoedaaGreat
namespace Go.Proofs.YtjanmleoomoedaaGreat
open Go.RowKit
set_option linter.unusedVariables false
set_option linter.unusedSimpArgs false
attribute [local go_sem ↓] Go.wp_at_zero Go.wp_at_succ
structure FL (w:World) (B:Nat) (A:Option Addr) (c:Nat) (A2:Option Addr) (c2:Nat) (s:TS):Prop where
 p:∃lp:List PE,lp.map (·.v)=s.P∧SL w 52 2 A s.P.length c (lp.flatMap PE.cc)∧∀e,e∈lp→CPk w B e.A e.v.n e.c e.v.z
 q:∃lq:List WE,lq.map (·.v)=s.Q∧SL w 46 1 A2 s.Q.length c2 (lq.flatMap WE.cc)∧∀e,e∈lq→CPk w B e.A e.v.n e.c e.v.z
 b:B≤w.heap.size
section
variable {w w1 w' V w0:World} {B B' g h:Nat} {s r s' r':TS} {A A2 A' A2':Option Addr} {c c2 c' c2':Nat} {U:List (Nat→Int)} {F N N' X X':Nat→Prop} {i:Nat}
theorem FL.below (h:FL w B A c A2 c2 s) (hb:Below w.heap.size w w'):FL w' B A c A2 c2 s:=by
 obtain⟨⟨lp,h1,h2,h3⟩,⟨lq,h4,h5,h6⟩,h7⟩:=h
 have hk:∀k,k < B→w'.heap[k]? = w.heap[k]?:=fun k hk=>hb.block k (by omega)
 exact⟨⟨lp,h1,h2.next hb,fun e he=>(h3 e he).keepN hk⟩,⟨lq,h4,h5.next hb,fun e he=>(h6 e he).keepN hk⟩,Nat.le_trans h7 hb.size⟩
theorem CPk.wide {A:Option Addr} {n c:Nat} {z:Nat→Int} (h:CPk w B A n c z) (hB:B≤w.heap.size):Row w w.heap.size A n (fun j=>.int .u8 (z j)):=fun hn=>by
 obtain⟨b,o,e,hb,hc⟩:=h.row hn
 exact⟨b,o,e,by omega,hc⟩
theorem ce_sl {n k:Nat} {l:List PE} {e:PE} (hs:SL w 52 2 A n c (l.flatMap PE.cc)) (hn:n=l.length) (he:l[k]? = some e) (hr:Row w w.heap.size e.A e.v.n (fun j=>.int .u8 (e.v.z j))):CE2 w A k e.v.ct e.v.n e.v.z:=by
 have hk:k < n:=by rw[hn];exact(List.getElem?_eq_some_iff.1 he).1
 obtain⟨b,o,hA,hb⟩:=hs.some_ (by omega)
 have hc:∀j,j < 2→w.cell? ⟨b,o+k*2+j,none⟩=(PE.cc e)[j]?:=fun j hj=>by
  have:=hs.cell hA (j:=k*2+j) (by omega)
  rw[←Nat.add_assoc]at this
  rw[this]
  exact flat_at PE.cc 2 (fun _=>rfl) l k j e he hj
 exact⟨b,o,e.A,e.c,hA,hb,hc 0 (by decide),hc 1 (by decide),hr⟩
theorem be_sl {n k:Nat} {l:List WE} {e:WE} (hs:SL w 46 1 A n c (l.flatMap WE.cc)) (hn:n=l.length) (he:l[k]? = some e) (hr:Row w w.heap.size e.A e.v.n (fun j=>.int .u8 (e.v.z j))):BE2 w A k e.v.n e.v.z:=by
 have hk:k < n:=by rw[hn];exact(List.getElem?_eq_some_iff.1 he).1
 obtain⟨b,o,hA,hb⟩:=hs.some_ (by omega)
 have hc:w.cell? ⟨b,o+k,none⟩=(WE.cc e)[0]?:=by
  have:=hs.cell hA (j:=k*1+0) (by omega)
  rw[Nat.mul_one,Nat.add_zero]at this
  rw[this]
  have h2:=flat_at WE.cc 1 (fun _=>rfl) l k 0 e he (by decide)
  rw[Nat.mul_one,Nat.add_zero]at h2
  exact h2
 exact⟨b,o,e.A,e.c,hA,hb,hc,hr⟩
theorem same_fl (h1:FL w B A c A2 c2 s) (h2:FL w B' A' c' A2' c2' s):SameC w A A' s.P.length∧SameB w A2 A2' s.Q.length:=by
 obtain⟨⟨lp,p1,p2,p3⟩,⟨lq,q1,q2,q3⟩,b1⟩:=h1
 obtain⟨⟨lp',p1',p2',p3'⟩,⟨lq',q1',q2',q3'⟩,b1'⟩:=h2
 have hl:s.P.length=lp.length:=by rw[←p1,List.length_map]
 have hl':s.P.length=lp'.length:=by rw[←p1',List.length_map]
 have hm:s.Q.length=lq.length:=by rw[←q1,List.length_map]
 have hm':s.Q.length=lq'.length:=by rw[←q1',List.length_map]
 refine⟨fun k hk=>?_,fun k hk=>?_⟩
 ·have e1:lp[k]? = some lp[k]:=List.getElem?_eq_getElem (by omega)
  have e2:lp'[k]? = some lp'[k]:=List.getElem?_eq_getElem (by omega)
  have hv:lp[k].v=lp'[k].v:=by
   have h3:(lp.map (·.v))[k]? = some lp[k].v:=by rw[List.getElem?_map,e1];rfl
   have h4:(lp'.map (·.v))[k]? = some lp'[k].v:=by rw[List.getElem?_map,e2];rfl
   rw[p1]at h3
   rw[p1',h3]at h4
   exact Option.some.inj h4
  have g1:=ce_sl p2 hl e1 ((p3 _ (List.mem_of_getElem? e1)).wide b1)
  have g2:=ce_sl p2' hl' e2 ((p3' _ (List.mem_of_getElem? e2)).wide b1')
  rw[←hv]at g2
  exact⟨_,_,_,_,g1,g2,fun j _=>rfl⟩
 ·have e1:lq[k]? = some lq[k]:=List.getElem?_eq_getElem (by omega)
  have e2:lq'[k]? = some lq'[k]:=List.getElem?_eq_getElem (by omega)
  have hv:lq[k].v=lq'[k].v:=by
   have h3:(lq.map (·.v))[k]? = some lq[k].v:=by rw[List.getElem?_map,e1];rfl
   have h4:(lq'.map (·.v))[k]? = some lq'[k].v:=by rw[List.getElem?_map,e2];rfl
   rw[q1]at h3
   rw[q1',h3]at h4
   exact Option.some.inj h4
  have g1:=be_sl q2 hm e1 ((q3 _ (List.mem_of_getElem? e1)).wide b1)
  have g2:=be_sl q2' hm' e2 ((q3' _ (List.mem_of_getElem? e2)).wide b1')
  rw[←hv]at g2
  exact⟨_,_,_,g1,g2,fun j _=>rfl⟩
theorem PW.texport (hp:PW w0 w g h s r X) (hi:PI s U i) (hi9:i≤1000) :
  Calls Tryz.prog 31 #[.pointer (some ⟨g,0,none⟩)] w fun e w'=>∃A c A2 c2,e=.returned (.agg #[.int .u32 (s.next % 4294967296),.bool (decide (s.next=4294967296)),.slice A s.P.length c,.slice A2 s.Q.length c2])∧FL w' w'.heap.size A c A2 c2 s∧Below w.heap.size w w':=by
 obtain⟨qA,qc,lq,pA,pc,lp,uA,uc,ks,⟨W,R,g1,g2,g3,g4⟩,h3,h4⟩:=hp
 refine(texport_un g s W R w g1 ⟨by have:=hi.pl;omega,by have:=hi.ql;omega⟩).mono ?_
 rintro e w' ⟨A,c,lp',A2,c2,lq',he,hF,hB⟩
 have e1:lp'.length=s.P.length:=by rw[←hF.pv,List.length_map]
 have e2:lq'.length=s.Q.length:=by rw[←hF.qv,List.length_map]
 have hp:=hF.p
 have hq:=hF.q
 rw[e1]at he hp
 rw[e2]at he hq
 exact⟨A,c,A2,c2,he,⟨⟨lp',hF.pv,hp,fun e he=>⟨(hF.pe e he).pos,(hF.pe e he).max,(hF.pe e he).cap,(hF.pe e he).byte,(hF.pe e he).row⟩⟩,⟨lq',hF.qv,hq,fun e he=>⟨(hF.qe e he).pos,(hF.qe e he).max,(hF.qe e he).cap,(hF.qe e he).byte,(hF.qe e he).row⟩⟩,Nat.le_refl _⟩,hB⟩
theorem PW.uexport (hp:PW w0 w g h s r X) (hi:PI r U i) (hi9:i≤1000) :
  Calls Tryz.prog 32 #[.pointer (some ⟨h,0,none⟩)] w fun e w'=>∃A c A2 c2,e=.returned (.agg #[.int .u32 (r.next % 4294967296),.bool (decide (r.next=4294967296)),.slice A r.P.length c,.slice A2 r.Q.length c2])∧FL w' w0.heap.size A c A2 c2 r∧Below w.heap.size w w':=by
 obtain⟨qA,qc,lq,pA,pc,lp,uA,uc,ks,h2,h3,h4⟩:=hp
 refine(uexport_ok h3 (by rw[←h3.plen];have:=hi.pl;omega) (by rw[←h3.qlen];have:=hi.ql;omega)).mono ?_
 rintro e w' ⟨A,c,A2,c2,he,hp,hq,hB⟩
 have hk:∀k,k < w0.heap.size→w'.heap[k]? = w.heap[k]?:=fun k hk=>hB.block k (Nat.lt_of_lt_of_le hk h3.bw)
 rw[←h3.plen]at he hp
 rw[←h3.qlen]at he hq
 exact⟨A,c,A2,c2,he,⟨⟨lp,h3.pv,hp,fun e he=>(h3.pe e he).keepN hk⟩,⟨lq,h3.qv,hq,fun e he=>(h3.qe e he).keepN hk⟩,Nat.le_trans h3.bw hB.size⟩,hB⟩
theorem cfg_guard (C D:Array Value) (x y:Operand) (w:World):(eqGuard .eql 25 x y (.agg C) (.agg D)).run Tryz.prog w=.ok () w:=by kernel_rfl
theorem exec_cfg_self (c:Cfg) (w:World) (o:Oper) (x y:Operand) (t:TypeId) (ho:o.op=.binOp .eql 25 x y t) (ev:Operand→Value) (hx:ev x=.agg c.arr) (hy:ev y=.agg c.arr):(execOp ev o).run Tryz.prog w=.ok (.value (.bool true)) w:=by
 have h:=cfg_self c w
 generalize c.arr=C at *
 have hg:=cfg_guard C C x y w
 unfold execOp
 simp only[ho,hx,hy,Sem.run_bind,Sem.run_pure,hg,Result.andThen_ok,h]
set_option maxRecDepth 100000 in
set_option maxHeartbeats 6400000 in
theorem looks_ok (hp:PW w0 w g h s s X) (hi:PI s U i) (hi9:i≤1000) :
  Calls Tryz.prog 13 #[.pointer (some ⟨g,0,none⟩),.pointer (some ⟨h,0,none⟩)] w fun e w'=>e=.returned (.bool true)∧Below w.heap.size w w':=by
 have HP:=zh hp
 have HI:=zh hi
 have HTX:=zh (fun(V:World) (hb:Below w.heap.size w V)=>(hp.below hb).texport hi hi9)
 have HUX:=zh (fun(V:World) (hb:Below w.heap.size w V)=>(hp.below hb).uexport hi hi9)
 obtain⟨qA,qc,lq,pA,pc,lp,uA,uc,ks,⟨W,R,g1,g2,g3,g4⟩,h3,h4⟩:=hp
 have HCF:=zh (tconfig_ok g s W R w g1)
 have HQD:=zh (fun(V:World) (hb:Below w.heap.size w V)=>solo_queued (w0:=w0) (w:=V) (g:=g) (s:=s) ⟨W,R,g1.below hb,g2,g3.trans (hb.mono g3.size)⟩)
 have HRP:=zh (fun(V:World) (hb:Below w.heap.size w V)=>trepeats_ok g s W R V (g1.below hb) (by have:=hi.pl;omega))
 have HUR:=zh (fun(V:World) (hb:Below w.heap.size w V)=>urepeats_ok (h3.below hb) (by rw[←h3.plen];have:=hi.pl;omega))
 have HM:=zh h3
 have HSF:=zh (fun(V:World) A c A2 c2 A' c' A2' c2' (B B':Nat) (f1:FL V B A c A2 c2 s) (f2:FL V B' A' c' A2' c2' s)=>samef_true (s.next % 4294967296) (decide (s.next=4294967296)) A A' A2 A2' s.P.length c c' s.Q.length c2 c2' V (by unfold maxLen;have:=hi.pl;omega) (by unfold maxLen;have:=hi.ql;omega) (same_fl f1 f2).1 (same_fl f1 f2).2)
 have HSZ:Hid ((Tryz.prog.info? 25).map (·.size)=some s.C.arr.size):=zh (by rw[s.C.arr_size];exact infoPd)
 have HSL:Hid ((Tryz.prog.info? 25).map (·.size)=some s.C.arr.toList.length):=zh (by rw[Array.length_toList,s.C.arr_size];exact infoPd)
 have HO:Hid (s.C.arr.all (·.oneCell')=true):=zh s.C.arr_one
 have HZZ:Hid (z39.size=s.C.arr.size):=zh (by rw[s.C.arr_size];rfl)
 have HU:=zh Tryz.underlying25
 have HCS:=zh (And.intro True.intro True.intro)
 have HHR:=zh (show ∀V,Below w.heap.size w V→V.rangeAt h 0 s.C.arr.toList from fun V hV j x hx=>by
  have hj:j < 39:=by have:=(List.getElem?_eq_some_iff.1 hx).1;simpa[Cfg.arr_size]using this
  rw[Nat.zero_add,hV.cell (p:=⟨h,j,none⟩) h3.blk.lt,h3.blk.cell j,uArr_low (Cfg.arr_size _) hj,←hx,Array.getElem?_toList])
 obtain⟨CA,hCA⟩:∃CA,CA=s.C.arr:=⟨_,rfl⟩
 rw[←hCA]at HCF HSZ HSL HO HZZ HHR
 have HCA:=zh hCA
 obtain⟨n32,hn32⟩:∃x,x=s.next % 4294967296:=⟨_,rfl⟩
 obtain⟨us,hus⟩:∃x,x=decide (s.next=4294967296):=⟨_,rfl⟩
 obtain⟨m,hm⟩:∃x,x=s.P.length:=⟨_,rfl⟩
 obtain⟨mq,hmq⟩:∃x,x=s.Q.length:=⟨_,rfl⟩
 obtain⟨rp,hrp⟩:∃x,x=repsN s.P:=⟨_,rfl⟩
 have HLQ:=zh (show lq.length=mq by rw[hmq,h3.qlen])
 rw[←hn32,←hus,←hm,←hmq]at HTX HUX HSF
 rw[←hmq]at HQD
 rw[←hrp]at HRP HUR
 clear hi h4 g1 g2 g3 g4 h3 hCA hn32 hus hm hmq hrp
 go_enter Tryz.func13,Tryz.ntmps13
 go_upto_region 2 with (first
  | (go_at_call 33;refine(HCF.out).mono ?_;rintro e w2 ⟨rfl,hb⟩;have B2:=zh hb;clear hb)
  | (refine wpList_store_row rfl _ _ _ rfl w2.heap.size CA rfl rfl 25 z39 (Blk.new _ _ _) HSZ.out HZZ.out HO.out ?_))
 try simp only[Act.put]
 refine wp_let (fun V=>Blk V w2.heap.size 25 CA∧Below w.heap.size w V) ⟨by first | exact Blk.new w2 _ _ | exact setRow_heap _ _ _ _ 25 (0,0) (Blk.new _ _ _),by first | exact B2.out.alloc B2.out.size _ | exact belowRow (B2.out.alloc B2.out.size _) B2.out.size _⟩ ?_
 rintro V ⟨v1,v2⟩
 obtain⟨cb,hcb⟩:∃cb,cb=w2.heap.size:=⟨_,rfl⟩
 rw[←hcb]at v1 ⊢
 have BV:=zh v2
 have HCR:=zh (show ∀V',Below V.heap.size V V'→V'.rangeAt cb 0 CA.toList from fun V' hV=>(v1.below hV v1.lt).range _ (by simp))
 have HWV:=zh (show ∀V',Below V.heap.size V V'→Below w.heap.size w V' from fun V' hV=>BV.out.trans (hV.mono BV.out.size))
 have HC41:=zh (show ∀V',Below V.heap.size V V'→V'.cell? ⟨h,41,none⟩=some (.slice qA mq qc)from fun V' hV=>by rw[←HLQ.out];exact(HM.out.below (HWV.out V' hV)).cq)
 clear v1 v2 hcb
 refine wp_region_held_drew (S:=fun w'=>Below V.heap.size V w') (by kernel_rfl) ((Below.refl _ V).drew) (fun hHeld=>?_)
 obtain⟨u0,hu0⟩:∃u0,u0=V.drew:=⟨_,rfl⟩
 rw[←hu0]
 rw[←hu0]at hHeld
 clear hu0
 refine tkH (i:=0) (oi:=⟨some 12,_,_,_,_,_⟩) (v:=.pointer (some ⟨g,0,none⟩)) rfl (Or.inl ⟨by rfl,fun W hW=>(by rfl)⟩) (by assumption) ?_
 refine tkH (i:=2) (oi:=⟨some 14,_,_,_,_,_⟩) (v:=.pointer (some ⟨h,0,none⟩)) rfl (Or.inl ⟨by rfl,fun W hW=>(by rfl)⟩) (by assumption) ?_
 refine wpAnyH_ready (rs:=[1]) (by kernel_rfl) (by simp) ?_
 refine AllReadyH.cons (o:=⟨some 13,_,_,_,_,_⟩) rfl (fun K hK=>?_) AllReadyH.nil
 rw[if_pos (by rfl)]
 go_simp
 refine(HTX.out u0 (HWV.out u0 hHeld)).mono ?_
 rintro e u1 ⟨A,c,A2,c2,rfl,hF,hB⟩
 dsimp only
 have HH:=zh (hHeld.trans (hB.mono hHeld.size))
 have HF1:=zh hF
 have HH1:=zh HH.out
 clear hF hB
 refine hK.out _ _ HH.out (fun hHeld=>?_)
 clear hK K HH
 try simp only[Act.put,List.setIfInBounds_toArray,List.set_cons_zero,List.set_cons_succ]
 refine wpAnyH_ready (rs:=[3]) (by kernel_rfl) (by simp) ?_
 refine AllReadyH.cons (o:=⟨some 15,_,_,_,_,_⟩) rfl (fun K hK=>?_) AllReadyH.nil
 rw[if_pos (by rfl)]
 go_simp
 refine(HUX.out u1 (HWV.out u1 hHeld)).mono ?_
 rintro e u2 ⟨A',c',A2',c2',rfl,hF,hB⟩
 dsimp only
 have HH:=zh (hHeld.trans (hB.mono hHeld.size))
 have HS2:=zh (HSF.out u2 A c A2 c2 A' c' A2' c2' _ _ (HF1.out.below hB) hF)
 clear hF hB
 refine hK.out _ _ HH.out (fun hHeld=>?_)
 clear hK K HH
 try simp only[Act.put,List.setIfInBounds_toArray,List.set_cons_zero,List.set_cons_succ]
 refine wpAnyH_ready (rs:=[4]) (by kernel_rfl) (by simp) ?_
 refine AllReadyH.cons (o:=⟨some 16,_,_,_,_,_⟩) rfl (fun K hK=>?_) AllReadyH.nil
 rw[if_pos (by rfl)]
 go_simp
 refine(HS2.out).mono ?_
 rintro e u3 ⟨rfl,hB⟩
 dsimp only
 have HH:=zh (hHeld.trans (hB.mono hHeld.size))
 clear hB
 refine hK.out _ _ HH.out (fun hHeld=>?_)
 clear hK K HH
 try simp only[Act.put,List.setIfInBounds_toArray,List.set_cons_zero,List.set_cons_succ]
 refine tkH (i:=5) (oi:=⟨some 17,_,_,_,_,_⟩) (v:=.bool true) rfl (Or.inl ⟨by rfl,fun W hW=>(by rfl)⟩) (by assumption) ?_
 refine tkH (i:=6) (oi:=⟨some 18,_,_,_,_,_⟩) (v:=.pointer (some ⟨g,0,none⟩)) rfl (Or.inl ⟨by rfl,fun W hW=>(by rfl)⟩) (by assumption) ?_
 refine tkH (i:=8) (oi:=⟨some 20,_,_,_,_,_⟩) (v:=.pointer (some ⟨h,0,none⟩)) rfl (Or.inl ⟨by rfl,fun W hW=>(by rfl)⟩) (by assumption) ?_
 refine tkH (i:=9) (oi:=⟨some 21,_,_,_,_,_⟩) (v:=.pointer (some ⟨h,0,none⟩)) rfl (Or.inl ⟨by rfl,fun W hW=>(by go_simp)⟩) (by assumption) ?_
 refine tkH (i:=10) (oi:=⟨some 22,_,_,_,_,_⟩) (v:=.pointer (some ⟨h,41,none⟩)) rfl (Or.inl ⟨by rfl,fun W hW=>(by go_simp)⟩) (by assumption) ?_
 refine tkH (i:=11) (oi:=⟨some 23,_,_,_,_,_⟩) (v:=.slice qA mq qc) rfl (Or.inl ⟨by rfl,fun W hW=>(by have:=HC41.out W hW;go_simp)⟩) (by assumption) ?_
 refine tkH (i:=12) (oi:=⟨some 24,_,_,_,_,_⟩) (v:=.int .i64 (mq:Int)) rfl (Or.inl ⟨by rfl,fun W hW=>(by go_simp)⟩) (by assumption) ?_
 refine wpAnyH_ready (rs:=[7]) (by kernel_rfl) (by simp) ?_
 refine AllReadyH.cons (o:=⟨some 19,_,_,_,_,_⟩) rfl (fun K hK=>?_) AllReadyH.nil
 rw[if_pos (by rfl)]
 go_simp
 refine(HQD.out u3 (HWV.out u3 hHeld)).mono ?_
 rintro e u4 ⟨rfl,rfl⟩
 dsimp only
 have HH:=zh hHeld
 refine hK.out _ _ HH.out (fun hHeld=>?_)
 clear hK K HH
 try simp only[Act.put,List.setIfInBounds_toArray,List.set_cons_zero,List.set_cons_succ]
 refine tkH (i:=13) (oi:=⟨some 25,_,_,_,_,_⟩) (v:=.bool true) rfl (Or.inl ⟨by rfl,fun W hW=>(by go_simp)⟩) (by assumption) ?_
 refine tkH (i:=14) (oi:=⟨some 26,_,_,_,_,_⟩) (v:=.bool true) rfl (Or.inl ⟨by rfl,fun W hW=>(by go_simp)⟩) (by assumption) ?_
 refine tkH (i:=15) (oi:=⟨some 27,_,_,_,_,_⟩) (v:=.bool true) rfl (Or.inl ⟨by rfl,fun W hW=>(by rfl)⟩) (by assumption) ?_
 refine tkH (i:=16) (oi:=⟨some 28,_,_,_,_,_⟩) (v:=.pointer (some ⟨g,0,none⟩)) rfl (Or.inl ⟨by rfl,fun W hW=>(by rfl)⟩) (by assumption) ?_
 refine tkH (i:=18) (oi:=⟨some 30,_,_,_,_,_⟩) (v:=.pointer (some ⟨h,0,none⟩)) rfl (Or.inl ⟨by rfl,fun W hW=>(by rfl)⟩) (by assumption) ?_
 refine wpAnyH_ready (rs:=[17]) (by kernel_rfl) (by simp) ?_
 refine AllReadyH.cons (o:=⟨some 29,_,_,_,_,_⟩) rfl (fun K hK=>?_) AllReadyH.nil
 rw[if_pos (by rfl)]
 go_simp
 refine(HRP.out u3 (HWV.out u3 hHeld)).mono ?_
 rintro e u5 ⟨rfl,hB⟩
 dsimp only
 have HH:=zh (hHeld.trans (hB.mono hHeld.size))
 clear hB
 refine hK.out _ _ HH.out (fun hHeld=>?_)
 clear hK K HH
 try simp only[Act.put,List.setIfInBounds_toArray,List.set_cons_zero,List.set_cons_succ]
 refine wpAnyH_ready (rs:=[19]) (by kernel_rfl) (by simp) ?_
 refine AllReadyH.cons (o:=⟨some 31,_,_,_,_,_⟩) rfl (fun K hK=>?_) AllReadyH.nil
 rw[if_pos (by rfl)]
 go_simp
 refine(HUR.out u5 (HWV.out u5 hHeld)).mono ?_
 rintro e u6 ⟨rfl,hB⟩
 dsimp only
 have HH:=zh (hHeld.trans (hB.mono hHeld.size))
 clear hB
 refine hK.out _ _ HH.out (fun hHeld=>?_)
 clear hK K HH
 try simp only[Act.put,List.setIfInBounds_toArray,List.set_cons_zero,List.set_cons_succ]
 refine tkH (i:=20) (oi:=⟨some 32,_,_,_,_,_⟩) (v:=.bool true) rfl (Or.inl ⟨by rfl,fun W hW=>(by go_simp)⟩) (by assumption) ?_
 refine tkH (i:=21) (oi:=⟨some 33,_,_,_,_,_⟩) (v:=.bool true) rfl (Or.inl ⟨by rfl,fun W hW=>(by go_simp)⟩) (by assumption) ?_
 refine tkH (i:=22) (oi:=⟨some 34,_,_,_,_,_⟩) (v:=.bool true) rfl (Or.inl ⟨by rfl,fun W hW=>(by rfl)⟩) (by assumption) ?_
 refine tkH (i:=23) (oi:=⟨some 35,_,_,_,_,_⟩) (v:=.int .i64 0) rfl (Or.inl ⟨by rfl,fun W hW=>(by rfl)⟩) (by assumption) ?_
 refine tkH (i:=24) (oi:=⟨some 36,_,_,_,_,_⟩) (v:=.bool true) rfl (Or.inl ⟨by rfl,fun W hW=>(by go_simp)⟩) (by assumption) ?_
 refine tkH (i:=25) (oi:=⟨some 37,_,_,_,_,_⟩) (v:=.bool true) rfl (Or.inl ⟨by rfl,fun W hW=>(by go_simp)⟩) (by assumption) ?_
 refine tkH (i:=26) (oi:=⟨some 38,_,_,_,_,_⟩) (v:=.bool true) rfl (Or.inl ⟨by rfl,fun W hW=>(by rfl)⟩) (by assumption) ?_
 refine' tkH (i:=27) (oi:=⟨some 39,_,_,_,_,_⟩) (v:=_) rfl (yieldsIf_load_mid (by rfl) _ _ rfl cb 0 rfl CA.toList _ (fun w h=>HCR.out w h) HU.out rfl HSL.out) (by assumption) ?_
 refine tkH (i:=28) (oi:=⟨some 40,_,_,_,_,_⟩) (v:=.pointer (some ⟨h,0,none⟩)) rfl (Or.inl ⟨by rfl,fun W hW=>(by rfl)⟩) (by assumption) ?_
 refine tkH (i:=29) (oi:=⟨some 41,_,_,_,_,_⟩) (v:=.pointer (some ⟨h,0,none⟩)) rfl (Or.inl ⟨by rfl,fun W hW=>(by go_simp)⟩) (by assumption) ?_
 refine tkH (i:=30) (oi:=⟨some 42,_,_,_,_,_⟩) (v:=.pointer (some ⟨h,0,none⟩)) rfl (Or.inl ⟨by rfl,fun W hW=>(by go_simp)⟩) (by assumption) ?_
 refine' tkH (i:=31) (oi:=⟨some 43,_,_,_,_,_⟩) (v:=_) rfl (yieldsIf_load_mid (by rfl) _ _ rfl h 0 rfl CA.toList _ (fun W hW=>HHR.out W (HWV.out W hW)) HU.out rfl HSL.out) (by assumption) ?_
 refine tkH (i:=32) (oi:=⟨some 44,_,_,_,_,_⟩) (v:=.bool true) rfl (Or.inl ⟨by rfl,fun W hW=>(by exact exec_cfg_self s.C W _ _ _ _ rfl _ (by rw[←HCA.out];first | rfl | simp) (by rw[←HCA.out];first | rfl | simp))⟩) (by assumption) ?_
 refine tkH (i:=33) (oi:=⟨some 45,_,_,_,_,_⟩) (v:=.bool true) rfl (Or.inl ⟨by rfl,fun W hW=>(by go_simp)⟩) (by assumption) ?_
 refine tkH (i:=34) (oi:=⟨some 4,_,_,_,_,_⟩) (v:=.bool true) rfl (Or.inl ⟨by rfl,fun W hW=>(by rfl)⟩) (by assumption) ?_
 refine wpAnyH_done (by kernel_rfl) ?_ _
 have HE:=zh (HWV.out _ hHeld)
 clear hHeld
 go_wp2
 go_ret
 exact⟨rfl,HE.out⟩
end
end Go.Proofs.YtjanmleoomoedaaGreat
namespace Go.Proofs.YtjanmleoomoedaaGreat
open Go.RowKit
set_option linter.unusedVariables false
def QV.zero (q:QV):QV:=⟨q.n,q.z,0⟩
def TS.resumed (s:TS) (cf:Cfg):TS:=⟨cf,0,s.next,s.Q.map QV.zero,s.P.map PV.again,[kArr cf.key],cNew⟩
section
variable {w w1 w' V w0:World} {B B' g h:Nat} {s r s' r':TS} {A A2 A' A2':Option Addr} {c c2 c' c2':Nat} {U:List (Nat→Int)} {F N N' X:Nat→Prop} {i:Nat}
theorem asc_at {l:List PV} (h:(l.map (·.ct)).Pairwise (· < ·)) {k:Nat} {a b:PV} (ha:l[k]? = some a) (hb:l[k+1]? = some b):a.ct < b.ct:=by
 have h1:=(List.getElem?_eq_some_iff.1 ha)
 have h2:=(List.getElem?_eq_some_iff.1 hb)
 obtain⟨h3,rfl⟩:=h1
 obtain⟨h4,rfl⟩:=h2
 have h5:=List.pairwise_iff_getElem.1 h k (k+1) (by rw[List.length_map];exact h3) (by rw[List.length_map];exact h4) (by omega)
 simpa using h5
theorem nextOf_next (hn:0≤s.next∧s.next≤4294967296):nextOf (s.next % 4294967296) (decide (s.next=4294967296))=s.next:=by
 unfold nextOf
 by_cases e:s.next=4294967296
 ·rw[decide_eq_true e,if_pos rfl,e]
 ·rw[decide_eq_false e,if_neg (by decide)]
  omega
theorem fl_open (hf:FL w B A c A2 c2 s) (hi:PI s U i):∃ct PA pn pc z QA qn qc y,Cnts w A s.P.length ct PA pn pc z∧BRows w A2 s.Q.length QA qn qc y∧(∀k,k < s.P.length→CPk w B (PA k) (pn k) (pc k) (z k))∧(∀k,k < s.Q.length→CPk w B (QA k) (qn k) (qc k) (y k))∧(∀cf,resS cf s.next s.P.length ct pn z s.Q.length qn y=s.resumed cf)∧FOk s.C.ac (s.next % 4294967296) (decide (s.next=4294967296)) s.P.length ct pn s.Q.length qn:=by
 obtain⟨⟨lp,p1,p2,p3⟩,⟨lq,q1,q2,q3⟩,b1⟩:=hf
 have hl:s.P.length=lp.length:=by rw[←p1,List.length_map]
 have hm:s.Q.length=lq.length:=by rw[←q1,List.length_map]
 obtain⟨E,hE⟩:∃E:Nat→PE,∀k,k < s.P.length→lp[k]? = some (E k):=⟨fun k=>lp.getD k ⟨⟨0,0,fun _=>0,false⟩,none,0⟩,fun k hk=>by
  dsimp only
  rw[List.getD_eq_getElem?_getD,List.getElem?_eq_getElem (by omega)]
  rfl⟩
 obtain⟨D,hD⟩:∃D:Nat→WE,∀k,k < s.Q.length→lq[k]? = some (D k):=⟨fun k=>lq.getD k ⟨⟨0,fun _=>0,0⟩,none,0⟩,fun k hk=>by
  dsimp only
  rw[List.getD_eq_getElem?_getD,List.getElem?_eq_getElem (by omega)]
  rfl⟩
 have hPk:∀k,k < s.P.length→s.P[k]? = some (E k).v:=fun k hk=>by rw[←p1,List.getElem?_map,hE k hk];rfl
 have hQk:∀k,k < s.Q.length→s.Q[k]? = some (D k).v:=fun k hk=>by rw[←q1,List.getElem?_map,hD k hk];rfl
 have hcp:∀k,k < s.P.length→CPk w B (E k).A (E k).v.n (E k).c (E k).v.z:=fun k hk=>p3 _ (List.mem_of_getElem? (hE k hk))
 have hcq:∀k,k < s.Q.length→CPk w B (D k).A (D k).v.n (D k).c (D k).v.z:=fun k hk=>q3 _ (List.mem_of_getElem? (hD k hk))
 have hpd:∀k,k < s.P.length→0≤(E k).v.ct∧(E k).v.ct < s.next∧s.next-(E k).v.ct≤2048:=fun k hk=>hi.pend _ (List.mem_of_getElem? (hPk k hk))
 have hnx:=hi.nx
 refine⟨fun k=>(E k).v.ct,fun k=>(E k).A,fun k=>(E k).v.n,fun k=>(E k).c,fun k=>(E k).v.z,fun k=>(D k).A,fun k=>(D k).v.n,fun k=>(D k).c,fun k=>(D k).v.z,⟨fun h0=>?_,fun k hk=>?_,fun k hk=>?_,fun k hk=>(hcp k hk).cap,fun k hk=>(hcp k hk).byte,fun k hk=>(hcp k hk).wide b1⟩,⟨fun h0=>?_,fun k hk=>?_,fun k hk=>(hcq k hk).cap,fun k hk=>(hcq k hk).byte,fun k hk=>(hcq k hk).wide b1⟩,hcp,hcq,fun cf=>?_,⟨fun hu=>?_,fun h0=>?_,fun k hk=>⟨?_,?_,fun h0=>?_⟩,fun h0=>?_,fun k hk=>?_⟩⟩
 ·obtain⟨b,o,hA,hb⟩:=p2.some_ (by omega)
  refine⟨b,o,hA,hb,fun k hk=>?_⟩
  have hc:∀j,j < 2→w.cell? ⟨b,o+k*2+j,none⟩=(PE.cc (E k))[j]?:=fun j hj=>by
   have:=p2.cell hA (j:=k*2+j) (by omega)
   rw[←Nat.add_assoc]at this
   rw[this]
   exact flat_at PE.cc 2 (fun _=>rfl) lp k j _ (hE k hk) hj
  exact⟨hc 0 (by decide),hc 1 (by decide)⟩
 ·have:=hpd k hk
  show 0≤(E k).v.ct∧(E k).v.ct < 4294967296
  omega
 ·have:=(hcp k hk).max
  show(E k).v.n≤_
  omega
 ·obtain⟨b,o,hA,hb⟩:=q2.some_ (by omega)
  refine⟨b,o,hA,hb,fun k hk=>?_⟩
  have:=q2.cell hA (j:=k*1+0) (by omega)
  rw[Nat.mul_one,Nat.add_zero]at this
  rw[this]
  have h2:=flat_at WE.cc 1 (fun _=>rfl) lq k 0 _ (hD k hk) (by decide)
  rw[Nat.mul_one,Nat.add_zero]at h2
  exact h2
 ·have:=(hcq k hk).max
  show(D k).v.n≤_
  omega
 ·unfold resS TS.resumed
  have h1:resQ s.Q.length (fun k=>(D k).v.n) (fun k=>(D k).v.z)=s.Q.map QV.zero:=by
   unfold resQ
   apply List.ext_getElem?
   intro k
   by_cases hk:k < s.Q.length
   ·rw[List.getElem?_map,List.getElem?_range hk,List.getElem?_map,hQk k hk]
    rfl
   ·rw[List.getElem?_eq_none (by simp;omega),List.getElem?_eq_none (by simp;omega)]
  have h2:resP s.P.length (fun k=>(E k).v.ct) (fun k=>(E k).v.n) (fun k=>(E k).v.z)=s.P.map PV.again:=by
   unfold resP
   apply List.ext_getElem?
   intro k
   by_cases hk:k < s.P.length
   ·rw[List.getElem?_map,List.getElem?_range hk,List.getElem?_map,hPk k hk]
    rfl
   ·rw[List.getElem?_eq_none (by simp;omega),List.getElem?_eq_none (by simp;omega)]
  rw[h1,h2]
 ·have:=of_decide_eq_true hu
  omega
 ·refine hi.ack (fun e=>?_)
  rw[e]at h0
  simp at h0
 ·rw[fits_iff]
  exact⟨(hcp k hk).pos,(hcp k hk).max⟩
 ·rw[nextOf_next hi.nx]
  exact(hpd k hk).2.1
 ·obtain⟨j,rfl⟩:∃j,k=j+1:=⟨k-1,by omega⟩
  rw[Nat.add_sub_cancel]
  exact asc_at hi.asc (hPk j (by omega)) (hPk (j+1) hk)
 ·rw[nextOf_next hi.nx]
  exact(hpd 0 h0).2.2
 ·rw[fits_iff]
  exact⟨(hcq k hk).pos,(hcq k hk).max⟩
theorem PI.resumed (hi:PI s U i) (f c:Nat→Int) (hf:∀j,j < 16→0≤f j∧f j < 256) (hc:∀j,j < 16→0≤c j∧c j < 256):PI (s.resumed (s.C.keys f c)) [f] i:=by
 refine⟨rfl,cNew_ok,⟨⟨hf,hc⟩,hi.fine.val,fun q hq=>?_⟩,Int.le_refl _,hi.cm,hi.nx,?_,fun p hp=>?_,fun p hp=>?_,fun hp=>hi.ack (fun e=>hp ?_),fun q hq=>?_,by show(s.Q.map QV.zero).length≤i;rw[List.length_map];exact hi.ql,by show(s.P.map PV.again).length≤i;rw[List.length_map];exact hi.pl⟩
 ·obtain⟨q',_,rfl⟩:=List.mem_map.1 hq
  exact⟨Int.le_refl _,Int.le_refl _⟩
 ·show((s.P.map PV.again).map (·.ct)).Pairwise (· < ·)
  rw[List.map_map]
  exact hi.asc
 ·obtain⟨q,hq,rfl⟩:=List.mem_map.1 hp
  exact hi.pend q hq
 ·obtain⟨q,hq,rfl⟩:=List.mem_map.1 hp
  exact hi.pk q hq
 ·show s.P.map PV.again=[]
  rw[e]
  rfl
 ·obtain⟨q',hq',rfl⟩:=List.mem_map.1 hq
  exact hi.qk q' hq'
theorem tresume_fl (cf:Cfg) (hv:cf.Valid) (hf:FL w B A c A2 c2 s) (hi:PI s U i) (hi9:i≤1000) (hac:cf.ac=s.C.ac) :
  Calls Tryz.prog 8 #[.agg cf.arr,.agg #[.int .u32 (s.next % 4294967296),.bool (decide (s.next=4294967296)),.slice A s.P.length c,.slice A2 s.Q.length c2]] w fun e w'=>∃g W R,e=.returned (.tuple #[.pointer (some ⟨g,0,none⟩),.int .i64 0])∧TxI w' g (s.resumed cf) W R∧(∀k,W k→w.heap.size≤k)∧(∀k,R k→w.heap.size≤k)∧Below w.heap.size w w':=by
 obtain⟨ct,PA,pn,pc,z,QA,qn,qc,y,h1,h2,h3,h4,h5,h6⟩:=fl_open hf hi
 have hn:=hi.nx
 have hr:=tresume_ok cf A A2 s.P.length c s.Q.length c2 (s.next % 4294967296) (decide (s.next=4294967296)) ct PA pn pc z QA qn qc y w (by omega) (by have:=hi.pl;omega) (by have:=hi.ql;omega) h1 h2 hv (by rw[hac];exact h6)
 rw[nextOf_next hi.nx,h5]at hr
 exact hr
theorem uresume_fl (cf:Cfg) (hf:FL w B A c A2 c2 s) (hi:PI s U i) (hi9:i≤1000) :
  Calls Tryz.prog 11 #[.agg cf.arr,.agg #[.int .u32 (s.next % 4294967296),.bool (decide (s.next=4294967296)),.slice A s.P.length c,.slice A2 s.Q.length c2]] w fun e w'=>∃rb,e=.returned (.pointer (some ⟨rb,0,none⟩))∧∃A2 c2 lq A c lp uA uc ks,UM w' B rb (s.resumed cf) A2 c2 lq A c lp uA uc ks∧Below w.heap.size w w'∧∀q,uBlk rb A2 A uA q→w.heap.size≤q:=by
 obtain⟨ct,PA,pn,pc,z,QA,qn,qc,y,h1,h2,h3,h4,h5,h6⟩:=fl_open hf hi
 have hn:=hi.nx
 have hr:=uresume_ok cf A A2 s.P.length c s.Q.length c2 (s.next % 4294967296) (decide (s.next=4294967296)) ct PA pn pc z QA qn qc y w B (by omega) (by have:=hi.pl;omega) (by have:=hi.ql;omega) h1 h2 hf.b h3 h4
 rw[nextOf_next hi.nx,h5]at hr
 exact hr
end
theorem cArr_keys (C:Cfg) (f c:Nat→Int):tsAll (tsAll C.arr 2 (kArr f).toList) 18 (kArr c).toList=(C.keys f c).arr:=by
 have l1:(kArr f).toList.length=16:=rfl
 have l2:(kArr c).toList.length=16:=rfl
 have hs:=C.arr_size
 apply Array.ext_getElem?
 intro j
 by_cases h1:18≤j∧j < 34
 ·have:=tsAll_in (kArr c).toList 18 (tsAll C.arr 2 (kArr f).toList) (j-18) (by omega) (by rw[tsAll_size,hs];omega)
  rw[show 18+(j-18)=j by omega]at this
  rw[this,Array.getElem?_toList,kArr_at c _ (by omega),Cfg.arr_at _ (by omega)]
  unfold Cfg.cell
  rw[if_neg (by omega),if_neg (by omega),if_neg (by omega),if_pos (by omega)]
  rfl
 ·rw[tsAll_out _ _ _ _ (by omega)]
  by_cases h2:2≤j∧j < 18
  ·have:=tsAll_in (kArr f).toList 2 C.arr (j-2) (by omega) (by rw[hs];omega)
   rw[show 2+(j-2)=j by omega]at this
   rw[this,Array.getElem?_toList,kArr_at f _ (by omega),Cfg.arr_at _ (by omega)]
   unfold Cfg.cell
   rw[if_neg (by omega),if_neg (by omega),if_pos (by omega)]
   rfl
  ·rw[tsAll_out _ _ _ _ (by omega)]
   by_cases h3:j < 39
   ·rw[C.arr_at h3,Cfg.arr_at _ h3]
    unfold Cfg.cell Cfg.keys
    by_cases h4:j < 18
    ·have:j=0∨j=1:=by omega
     rcases this with rfl | rfl<;>rfl
    ·have:j=34∨j=35∨j=36∨j=37∨j=38:=by omega
     rcases this with rfl | rfl | rfl | rfl | rfl<;>rfl
   ·rw[Array.getElem?_eq_none (by omega),Array.getElem?_eq_none (by rw[(C.keys f c).arr_size];omega)]
end Go.Proofs.YtjanmleoomoedaaGreat
