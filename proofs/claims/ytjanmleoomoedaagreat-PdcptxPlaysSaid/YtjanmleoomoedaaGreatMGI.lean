import Derived.Test.YtjanmleoomoedaaGreatMGH
import Derived.Lib.SlBytesConst
namespace Go.Proofs.YtjanmleoomoedaaGreat
open Go.RowKit
set_option linter.unusedVariables false
attribute [local go_sem ↓] Go.wp_at_zero Go.wp_at_succ
private theorem zh {p:Prop} (h:p):Hid p:=h
private theorem tkH {P:Program} {ops:Array Oper} {Q:Exit→Act→World→Prop} {md:Region.Mode} {S:World→Prop} {i:Nat} {oi:Oper} {v:Value} {fuel:Nat} {listed l':Array Bool} {a a':Act} {w:World} (hi:ops[i]? = some oi) (hy:YieldsIf P ops S oi v a) (hS:S w)
  (h:wpAnyH P md ops Q S fuel l' a' w) (hl:listed.setIfInBounds i true=l':=by(try simp only[List.setIfInBounds_toArray,List.set_cons_zero,List.set_cons_succ]);rfl) (ha:a.put oi.dst v=a':=by(try simp only[Act.put,List.setIfInBounds_toArray,List.set_cons_zero,List.set_cons_succ]);rfl) (hs:Region.noSelect ops=true:=by kernel_rfl) (hf:Region.free md ops listed i=true:=by kernel_rfl) (hr:(Region.ready md ops listed).contains i=true:=by kernel_rfl)
  (hQ:∀c a w,Q (.panic c) (a.put oi.dst v) w→Q (.panic c) a w:=by exact fun _ _ _ h=>h):wpAnyH P md ops Q S (fuel+1) listed a w:=by subst hl;subst ha;exact wpAnyH_take hi hs hf hr hQ hy hS h
theorem firstRep_eq:∀{l:List PV} {i:Nat} {p:PV},l[i]? = some p→p.rep=true→(∀j,j < i→∀e,l[j]? = some e→e.rep=false)→firstRep l=some (i,p)
 | [],i,p,h,_,_=>by simp at h
 | q :: r,0,p,h,hp,_=>by
  have:q=p:=by simpa using h
  subst this
  unfold firstRep
  rw[if_pos hp]
 | q :: r,i+1,p,h,hp,hno=>by
  have hq:=hno 0 (by omega) q rfl
  unfold firstRep
  rw[if_neg (by rw[hq];decide),firstRep_eq (l:=r) (i:=i) (p:=p) (by simpa using h) hp (fun j hj e he=>hno (j+1) (by omega) e (by simpa using he))]
  rfl
theorem firstRep_no:∀{l:List PV},(∀e,e∈l→e.rep=false)→firstRep l=none
 | [],_=>rfl
 | q :: r,h=>by
  unfold firstRep
  rw[if_neg (by rw[h q List.mem_cons_self];decide),firstRep_no (fun e he=>h e (List.mem_cons_of_mem _ he))]
  rfl
def isRep (lp:List PE) (k:Nat):Bool:=match lp[k]? with | some e=>e.v.rep | none=>false
theorem rep_cases (lp:List PE):(∃(i:Nat) (e:PE),lp[i]? = some e∧firstP (isRep lp) 0 lp.length=(i:Int)∧firstRep (lp.map (·.v))=some (i,e.v))∨(firstP (isRep lp) 0 lp.length = -1∧firstRep (lp.map (·.v))=none):=by
 rcases firstP_cases (isRep lp) lp.length with ⟨i,hi,hf,hp,hno⟩ | ⟨hf,hno⟩
 ·refine .inl ⟨i,lp[i],List.getElem?_eq_getElem hi,hf,firstRep_eq (by rw[List.getElem?_map,List.getElem?_eq_getElem hi];rfl) ?_ (fun j hj e he=>?_)⟩
  ·unfold isRep at hp
   rw[List.getElem?_eq_getElem hi]at hp
   exact hp
  ·have h1:=hno j hj
   have hjl:j < lp.length:=by omega
   unfold isRep at h1
   rw[List.getElem?_eq_getElem hjl]at h1
   rw[List.getElem?_map,List.getElem?_eq_getElem hjl]at he
   have:lp[j].v=e:=by simpa using he
   rw[←this]
   exact h1
 ·refine .inr ⟨hf,firstRep_no (fun e he=>?_)⟩
  obtain⟨x,hx,rfl⟩:=List.mem_map.1 he
  obtain⟨j,hj,rfl⟩:=List.mem_iff_getElem.1 hx
  have h1:=hno j hj
  unfold isRep at h1
  rw[List.getElem?_eq_getElem hj]at h1
  exact h1
theorem trep_ok (y:Int) (A:Option Addr) (n c:Nat) (r:Bool) (w:World):Calls Tryz.prog 41 #[.agg #[.int .u32 y,.slice A n c,.bool r]] w fun e w'=>e=.returned (.bool r)∧Below w.heap.size w w':=by
 go_enter Tryz.func41,Tryz.ntmps41
 go_wp2
 go_ret
 exact⟨rfl,(Below.refl _ _).alloc (Nat.le_refl _) _⟩
theorem rindex_ok (A:Option Addr) (n c:Nat) (lp:List PE) (hn:n=lp.length) (w:World) (h:SL w 69 3 A n c (lp.flatMap PE.cells)) :
  Calls Tryz.prog 40 #[.slice A n c,.func (.func 41) #[] #[]] w fun e w'=>e=.returned (.int .i64 (firstP (isRep lp) 0 n))∧Below w.heap.size w w':=by
 have hcm:=h.cmax
 have hle:=h.le
 unfold maxLen at hcm
 have HSL:=zh h
 obtain⟨F,hF⟩:∃F,F=isRep lp:=⟨_,rfl⟩
 have HF0:=zh hF
 have HN:=zh hn
 rw[←hF]
 clear h hF hn
 go_enter Tryz.func40,Tryz.ntmps40
 go_wp2
 go_loopw [8] (fun v wr=>∃k:Nat,k≤n∧v=.int .i64 k∧firstP F 0 n=firstP F k (n-k)∧Below w.heap.size w wr) (fun v _=>n-(intOf v).toNat)
 case atStart=>exact⟨0,by omega,rfl,rfl,Below.refl _ _⟩
 case round=>
  obtain⟨k,hk,rfl,hfw,hb⟩:=hrel
  have HF:=zh hfw
  have HB:=zh hb
  clear hfw hb
  by_cases hlt2:k < n
  ·obtain⟨e0,he0⟩:∃e0,lp[k]? = some e0:=⟨lp[k]'(by have:=HN.out;omega),by simp[HN.out ▸ hlt2]⟩
   have hS:=HSL.out.next HB.out
   obtain⟨b,o,hA,hbl⟩:=hS.some_ (by omega)
   have c0:=hS.cell hA (j:=k*3+0) (by omega)
   have c1:=hS.cell hA (j:=k*3+1) (by omega)
   have c2:=hS.cell hA (j:=k*3+2) (by omega)
   rw[flat_at PE.cells 3 PE.len lp k _ e0 he0 (by omega)]at c0 c1 c2
   have hFk:F k=e0.v.rep:=by rw[HF0.out];unfold isRep;rw[he0]
   obtain⟨⟨y,pn,pz,pr⟩,PA,pc⟩:=e0
   simp only[PE.cells,List.getElem?_cons_zero,List.getElem?_cons_succ,Nat.add_zero]at c0 c1 c2
   dsimp only at hFk
   have HC:=zh (trep_ok y PA pn pc pr wr)
   have HST:=zh (firstP_step F k n hlt2)
   obtain⟨bb,hbb⟩:∃bb,bb=pr:=⟨_,rfl⟩
   rw[←hbb]at HC hFk c2
   have HFk:=zh hFk
   subst hA
   have c1':wr.cell? ⟨b,o+(k*3+1),none⟩=_:=c1
   clear hbb hFk hS he0
   have k0:(0:Int)≤(k:Int):=by omega
   have k1:(k:Int) < (n:Int):=by omega
   rw[←Nat.add_assoc]at c1 c2
   cases bb
   ·have HS2:=zh (HST.out.trans (if_neg (by rw[HFk.out];decide)))
    go_wp2_with (go_at_call 41;refine(HC.out).mono ?_;rintro e w2 ⟨rfl,hB2⟩;have HB2:=zh (HB.out.trans (hB2.mono HB.out.size));clear hB2)
    go_roundw
    case rel=>exact⟨k+1,by omega,by go_num,by rw[HF.out,HS2.out],HB2.out⟩
    case measure=>simp[intOf];omega
   ·have HS2:=zh (HST.out.trans (if_pos HFk.out))
    go_wp2_with (go_at_call 41;refine(HC.out).mono ?_;rintro e w2 ⟨rfl,hB2⟩;have HB2:=zh (HB.out.trans (hB2.mono HB.out.size));clear hB2)
    go_ret
    exact⟨ret_int (by rw[HF.out,HS2.out]),HB2.out⟩
  ·obtain rfl:k=n:=by omega
   have HF2:=zh (show firstP F 0 k = -1 by rw[HF.out,Nat.sub_self];rfl)
   clear HF
   go_wp2
   go_ret
   exact⟨ret_int HF2.out.symm,HB.out⟩
theorem SL.drop {w:World} {e:TypeId} {sz b o n c:Nat} {xs:List Value} (h:SL w e sz (some ⟨b,o,none⟩) n c xs) (k:Nat) (hk:k≤n):SL w e sz (if c=k then some ⟨b,o,none⟩ else some ⟨b,o+k*sz,none⟩) (n-k) (c-k) (xs.drop (k*sz)):=by
 have hm:k*sz≤n*sz:=Nat.mul_le_mul_right _ hk
 rcases h.at_ with ⟨h1,_⟩ | ⟨b',o',cur,h1,h2,h3,h4,h5,h6⟩
 ·cases h1
 cases h1
 refine⟨by rw[List.length_drop,h.len,Nat.sub_mul],.inr ?_⟩
 have hcm:k*sz≤c*sz:=Nat.mul_le_mul_right _ (by omega)
 by_cases hc:c=k
 ·rw[if_pos hc]
  have hnk:n-k=0:=by omega
  have hck:c-k=0:=by omega
  exact⟨b,o,cur,rfl,h2,by omega,by omega,by rw[hck];omega,fun j hj=>by rw[hnk]at hj;omega⟩
 ·rw[if_neg hc]
  refine⟨b,o+k*sz,cur,rfl,h2,by omega,by omega,by rw[Nat.sub_mul];omega,fun j hj=>?_⟩
  rw[Nat.sub_mul]at hj
  rw[Nat.add_assoc,h6 _ (by omega),List.getElem?_drop]
theorem drop_flatW (lq:List WE) (k:Nat):(lq.flatMap WE.cells).drop (k*2)=(lq.drop k).flatMap WE.cells:=by
 induction lq generalizing k with
 | nil=>simp
 | cons x r ih=>
  cases k with
  | zero=>simp
  | succ k=>rw[List.flatMap_cons,List.drop_succ_cons,←ih k,show(k+1)*2=(WE.cells x).length+k*2 from by show _=2+k*2;omega,List.drop_length_add_append]
theorem SL.setOne {w:World} {e:TypeId} {sz b o n c:Nat} {xs:List Value} (h:SL w e sz (some ⟨b,o,none⟩) n c xs) (q:Nat) (hq:q < n*sz) (v:Value):SL (w.setCell ⟨b,o+q,none⟩ v) e sz (some ⟨b,o,none⟩) n c (xs.set q v):=by
 rcases h.at_ with ⟨h1,_⟩ | ⟨b',o',cur,h1,h2,h3,h4,h5,h6⟩
 ·cases h1
 cases h1
 have hcn:n*sz≤c*sz:=Nat.mul_le_mul_right _ h3
 refine⟨by rw[List.length_set,h.len],.inr ⟨b,o,_,rfl,(show Blk w b e cur from h2).set_ (o+q) v,h3,h4,by simpa using h5,fun j hj=>?_⟩⟩
 by_cases hjq:j=q
 ·subst hjq
  rw[List.getElem?_set_self (by rw[h.len];exact hj),Array.getElem?_setIfInBounds_self_of_lt (by omega)]
 ·rw[List.getElem?_set_ne (fun e=>hjq e.symm),Array.getElem?_setIfInBounds_ne (by omega),h6 j hj]
theorem rep_set (lp:List PE) (i:Nat) (e:PE) (h:lp[i]? = some e):(lp.flatMap PE.cells).set (i*3+2) (.bool false)=((lp.set i { e with v:={ e.v with rep:=false } }).flatMap PE.cells):=by
 have hil:i < lp.length:=(List.getElem?_eq_some_iff.1 h).1
 apply List.ext_getElem?
 intro j
 rw[flat_set PE.cells 3 PE.len lp i hil]
 by_cases hj:j=i*3+2
 ·subst hj
  rw[List.getElem?_set_self (by rw[flat_len PE.cells 3 PE.len];omega),if_pos ⟨by omega,by omega⟩,show i*3+2-i*3=2 by omega]
  rfl
 ·rw[List.getElem?_set_ne (fun e=>hj e.symm)]
  by_cases hin:i*3≤j∧j < i*3+3
  ·rw[if_pos hin]
   obtain⟨d,rfl⟩:∃d,j=i*3+d:=⟨j-i*3,by omega⟩
   rw[flat_at PE.cells 3 PE.len lp i d e h (by omega),show i*3+d-i*3=d by omega]
   rcases (by omega:d=0∨d=1)with rfl | rfl<;>rfl
  ·rw[if_neg hin]
end Go.Proofs.YtjanmleoomoedaaGreat
namespace Go.Proofs.YtjanmleoomoedaaGreat
open Go.RowKit
set_option linter.unusedVariables false
attribute [local go_sem ↓] Go.wp_at_zero Go.wp_at_succ
def Builds (g:Nat) (C:Cfg):Prop:=∀(s:TS) (W R:Nat→Prop) (V:World),s.C=C→TxI V g s W R→∀(ct:Nat),ct < 4294967296→∀(A:Option Addr) (n c:Nat) (z:Nat→Int),1≤n→n≤9000→Row V V.heap.size A n (fun j=>.int .u8 (z j))→(∀j,j < n→0≤z j∧z j < 256)→
 Calls Tryz.prog 42 #[.pointer (some ⟨g,0,none⟩),.int .u32 ct,.slice A n c] V (BuildC C ct n z V)
theorem builds_plain (g:Nat) (C:Cfg) (hok:C.Ok) (hv:C.Valid) (hig:C.ig=false) (hcm:C.cm=false):Builds g C:=fun s W R V hC hI ct hct A n c z h1 h9 hr hz=>by
 subst hC
 exact tbuild_plain g s W R V hI hok hv hig hcm ct hct A n c z h1 h9 hr hz
def NxO (W R:Nat→Prop) (w:World) (g:Nat) (r:NX) (e:Ending) (w':World):Prop:=
 ∃A c W' R',e=.returned (.tuple #[.slice A r.n c,.int .u32 r.ct,.int .i64 r.e])∧r.n≤c∧Row w' w'.heap.size A r.n (fun j=>.int .u8 ((r.z j:Nat):Int))∧TxI w' g r.s W' R'∧(∀k,W' k→W k∨w.heap.size≤k)∧(∀k,R' k→R k∨w.heap.size≤k)∧KeepF W w w'∧(∀a,A=some a→w.heap.size≤a.block∧¬W' a.block∧¬R' a.block∧∃cur t,w'.heap[a.block]? = some (.cells cur t (0,0)))
theorem nx_err {W R:Nat→Prop} {w w':World} {g:Nat} {s:TS} (h:TxO W R w w' g s) (e:Int):NxO W R w g ⟨0,zB,0,e,s⟩ (.returned (.tuple #[.slice none 0 0,.int .u32 0,.int .i64 e])) w':=by
 obtain⟨W',R',h1,h2,h3,h4⟩:=h
 exact⟨none,0,W',R',rfl,Nat.le_refl _,fun hn=>absurd hn (by show ¬0 < 0;omega),h1,h2,h3,h4,fun a e=>by cases e⟩
theorem TxM.putP {w w1:World} {g:Nat} {s:TS} {W R:Nat→Prop} {qA:Option Addr} {qc:Nat} {lq:List WE} {pA:Option Addr} {pc:Nat} {lp lp':List PE} {ub cb:Nat} (h:TxM w g s W R qA qc lq pA pc lp ub cb)
  (hk:KeepF (fun k=>∃a,pA=some a∧k=a.block) w w1) (hs:SL w1 69 3 pA lp.length pc (lp'.flatMap PE.cells)) (hl:lp'.length=lp.length)
  (he:∀e,e∈lp'→Pkt w1 R e.A e.v.n e.c e.v.z) (pr:∀e,e∈lp'→0≤e.v.ct∧e.v.ct < 4294967296):TxM w1 g { s with P:=lp'.map (·.v) } W R qA qc lq pA pc lp' ub cb:=by
 have hs1:∀a,qA=some a→¬∃b,pA=some b∧a.block=b.block:=fun a ha ⟨b,hb,e⟩=>h.qp a b ha hb e
 have pk:∀{A:Option Addr} {n c:Nat} {z:Nat→Int},Pkt w R A n c z→Pkt w1 R A n c z:=fun hp=>hp.keep hk (fun k ⟨a,ha,e⟩ hr=>h.dis k (by rw[e];exact h.wp a ha) hr)
 refine⟨?_,h.qv,rfl,h.q.keepF hk hs1,by rw[hl];exact hs,h.u.keep (hk.block ub h.u.lt (fun⟨a,ha,e⟩=>h.pu a ha e.symm)),(hk.block cb (h.win _ h.wc) (fun⟨a,ha,e⟩=>h.kp a ha e)).trans h.k,
  fun e he2=>pk (h.qe e he2),he,(fun e he=>(by obtain⟨x,hx,rfl⟩:=List.mem_map.1 he;exact pr x hx)),h.wg,h.wu,h.wc,h.wq,h.wp,h.kg,h.ku,h.kq,h.kp,h.dis,
  fun k hw=>Nat.lt_of_lt_of_le (h.win k hw) hk.size,fun k hw=>Nat.lt_of_lt_of_le (h.rin k hw) hk.size,h.now0,h.next0⟩
 rw[hl]
 exact hk.blk h.blk (fun⟨a,ha,e⟩=>h.gp a ha e)
set_option maxRecDepth 100000 in
theorem tnext_late (g:Nat) (s:TS) (W R:Nat→Prop) (w:World) (h:TxI w g s W R) (hf:s.Fine) (t:Int) (ht1:-9223372036854775808≤t) (ht2:t≤9223372036854775807) (ct:1073741824≤t) :
  Calls Tryz.prog 16 #[.pointer (some ⟨g,0,none⟩),.int .i64 t] w (NxO W R w g (s.send t)):=by
 have HTK:=zh (ttick_ok g s W R w h hf t ht1 ht2)
 unfold TS.send
 rw[if_pos ct]
 rw[if_pos ct,if_pos ct]at HTK
 clear h hf
 go_enter Tryz.func16,Tryz.ntmps16
 go_wp2_with (go_at_call 38;refine(HTK.out).mono ?_;rintro e w1 ⟨rfl,hO⟩;have HO:=zh hO;clear hO)
 go_ret3
 exact nx_err HO.out 2
set_option maxRecDepth 100000 in
set_option maxHeartbeats 1600000 in
theorem tnext_rep (g:Nat) (s:TS) (W R:Nat→Prop) (w:World) (h:TxI w g s W R) (hf:s.Fine) (t:Int) (ht1:-9223372036854775808≤t) (ht2:t≤9223372036854775807) (ct:¬1073741824≤t) (hb:Builds g s.C) (i:Nat) (p:PV) (hrep:firstRep s.P=some (i,p)) :
  Calls Tryz.prog 16 #[.pointer (some ⟨g,0,none⟩),.int .i64 t] w (NxO W R w g (s.send t)):=by
 have HBD:=zh hb
 have HRP:=zh hrep
 unfold TS.send
 rw[if_neg ct,hrep]
 dsimp only
 have HTK:=zh (ttick_ok g s W R w h hf t ht1 ht2)
 rw[if_neg ct,if_neg ct]at HTK
 have HF1:=zh (hf.tick t)
 clear h hf
 obtain⟨s1,hs1⟩:∃s1,s1=s.tick t:=⟨_,rfl⟩
 have HS1:=zh hs1
 have HC1:Hid (s1.C=s.C):=zh (by rw[hs1];rfl)
 have HP1:Hid (s1.P=s.P):=zh (by rw[hs1];rfl)
 have HN1:Hid (s1.next=s.next):=zh (by rw[hs1];rfl)
 rw[←hs1]at HTK HF1
 clear hs1
 go_enter Tryz.func16,Tryz.ntmps16
 go_upto_region 4 with (go_at_call 38;refine(HTK.out).mono ?_;rintro e w1 ⟨rfl,hO⟩;have HO:=zh hO;clear hO)
 obtain⟨W1,R1,hI1,hW1,hR1,hK1⟩:=HO.out
 obtain⟨qA,qc,lq,pA,pc,lp,ub,cb,hT1⟩:=hI1
 have T1:=zh hT1
 have HW1:=zh hW1
 have HR1:=zh hR1
 have HK1:=zh hK1
 clear hW1 hR1 hK1
 obtain⟨m,hm⟩:∃m,m=lp.length:=⟨_,rfl⟩
 have HM:=zh hm
 have HRI:=zh (rindex_ok pA m pc lp hm w1 (by rw[hm];exact hT1.p))
 have cp:=hT1.cp
 rw[←hm]at cp
 have hgl:=hT1.blk.lt
 have hmc:=hT1.p.le
 have hcm:=hT1.p.cmax
 unfold maxLen at hcm
 rw[←hm]at hmc
 have m9:(m:Int)≤9223372036854775807:=by omega
 have HRC:=zh (rep_cases lp)
 rw[hT1.pv,HP1.out,←hm]at HRC
 clear hT1 hm
 obtain⟨pe,hpe,HF0,hv⟩:∃pe,lp[i]? = some pe∧Hid (firstP (isRep lp) 0 m=(i:Int))∧pe.v=p:=by
  rcases HRC.out with ⟨i',e',h1,h2,h3⟩ | ⟨_,h3⟩
  ·rw[HRP.out]at h3
   cases h3
   exact⟨e',h1,zh h2,rfl⟩
  ·rw[HRP.out]at h3
   cases h3
 subst hv
 rw[HF0.out]at HRI
 have him:i < m:=by rw[HM.out];exact(List.getElem?_eq_some_iff.1 hpe).1
 have HPE:=zh hpe
 have i0:(0:Int)≤(i:Int):=by omega
 have i1:(i:Int) < (m:Int):=by omega
 clear hrep hpe HF0 HRC
 go_upto_region 5 with (go_at_call 40;refine(HRI.out).mono ?_;rintro e w2 ⟨rfl,hB⟩;have E2:=zh hB;clear hB)
 have T2:=zh (T1.out.below E2.out)
 obtain⟨b,o,hpA,hbl,d0,d1,d2⟩:=T2.out.pcell HPE.out
 subst hpA
 have cp2:=T2.out.cp
 rw[←HM.out]at cp2
 have hpr:=T2.out.pr pe.v (by rw[←T2.out.pv];exact List.mem_map_of_mem (List.mem_of_getElem? HPE.out))
 obtain⟨CT,hCT⟩:∃CT:Nat,CT=pe.v.ct.toNat:=⟨_,rfl⟩
 have HCT:=zh hCT
 have HCI:Hid (pe.v.ct=(CT:Int)):=zh (by rw[hCT];omega)
 have HCL:Hid (CT < 4294967296):=zh (by rw[hCT];omega)
 rw[HCI.out]at d0
 have PK:=zh (T2.out.pe pe (List.mem_of_getElem? HPE.out))
 obtain⟨PA,hPA⟩:∃PA,PA=pe.A:=⟨_,rfl⟩
 obtain⟨pn,hpn⟩:∃pn,pn=pe.v.n:=⟨_,rfl⟩
 obtain⟨pz,hpz⟩:∃pz,pz=pe.v.z:=⟨_,rfl⟩
 obtain⟨pcc,hpcc⟩:∃pcc,pcc=pe.c:=⟨_,rfl⟩
 have HPN:=zh hpn
 have HPZ:=zh hpz
 rw[←hPA,←hpn,←hpz,←hpcc]at PK
 rw[←hPA,←hpn,←hpcc]at d1
 clear hpr hCT hPA hpn hpz hpcc cp
 go_upto_region 7 with (fail)
 obtain⟨w0,hw0⟩:∃w0,w0=w2.drew:=⟨_,rfl⟩
 have hb0:Below w2.heap.size w2 w0:=by rw[hw0];exact(Below.refl _ _).drew
 have HD0:=zh (show ∀W',Below w2.heap.size w2 W'→W'.cell? ⟨b,o+i*3,none⟩=some (.int .u32 (CT:Int))from fun W' hW=>(hW.cell (p:=⟨b,o+i*3,none⟩) hbl).trans d0)
 have HD1:=zh (show ∀W',Below w2.heap.size w2 W'→W'.cell? ⟨b,o+i*3+1,none⟩=some (.slice PA pn pcc)from fun W' hW=>(hW.cell (p:=⟨b,o+i*3+1,none⟩) hbl).trans d1)
 have HD2:=zh d2
 have HBU:=zh (HBD.out s1 W1 R1 w0 HC1.out ⟨_,_,_,_,_,_,_,_,T2.out.below hb0⟩ CT HCL.out PA pn pcc pz PK.out.pos PK.out.max (PK.out.row.next hb0) PK.out.byte)
 refine wp_region_held_drew (S:=fun w'=>Below w2.heap.size w2 w') (by kernel_rfl) ((Below.refl _ w2).drew) (fun hHeld=>?_)
 rw[←hw0]
 rw[←hw0]at hHeld
 clear hw0 cp2 d0 d1 d2
 refine tkH (i:=0) (oi:=⟨some 36,_,_,_,_,_⟩) (v:=.pointer (some ⟨g,0,none⟩)) rfl (Or.inl ⟨by rfl,fun W hW=>(by rfl)⟩) (by assumption) ?_
 refine tkH (i:=1) (oi:=⟨some 37,_,_,_,_,_⟩) (v:=.pointer (some ⟨b,o+i*3,none⟩)) rfl (Or.inl ⟨by rfl,fun W hW=>(by rfl)⟩) (by assumption) ?_
 refine tkH (i:=2) (oi:=⟨some 38,_,_,_,_,_⟩) (v:=.pointer (some ⟨b,o+i*3,none⟩)) rfl (Or.inl ⟨by rfl,fun W hW=>(by go_simp)⟩) (by assumption) ?_
 refine tkH (i:=3) (oi:=⟨some 39,_,_,_,_,_⟩) (v:=.pointer (some ⟨b,o+i*3,none⟩)) rfl (Or.inl ⟨by rfl,fun W hW=>(by go_simp)⟩) (by assumption) ?_
 refine tkH (i:=4) (oi:=⟨some 40,_,_,_,_,_⟩) (v:=.pointer (some ⟨b,o+i*3,none⟩)) rfl (Or.inl ⟨by rfl,fun W hW=>(by go_simp)⟩) (by assumption) ?_
 refine tkH (i:=5) (oi:=⟨some 41,_,_,_,_,_⟩) (v:=.int .u32 (CT:Int)) rfl (Or.inl ⟨by rfl,fun W hW=>(by have:=HD0.out W hW;go_simp)⟩) (by assumption) ?_
 refine tkH (i:=6) (oi:=⟨some 42,_,_,_,_,_⟩) (v:=.pointer (some ⟨b,o+i*3,none⟩)) rfl (Or.inl ⟨by rfl,fun W hW=>(by rfl)⟩) (by assumption) ?_
 refine tkH (i:=7) (oi:=⟨some 43,_,_,_,_,_⟩) (v:=.pointer (some ⟨b,o+i*3,none⟩)) rfl (Or.inl ⟨by rfl,fun W hW=>(by go_simp)⟩) (by assumption) ?_
 refine tkH (i:=8) (oi:=⟨some 44,_,_,_,_,_⟩) (v:=.pointer (some ⟨b,o+i*3,none⟩)) rfl (Or.inl ⟨by rfl,fun W hW=>(by go_simp)⟩) (by assumption) ?_
 refine tkH (i:=9) (oi:=⟨some 45,_,_,_,_,_⟩) (v:=.pointer (some ⟨b,o+i*3+1,none⟩)) rfl (Or.inl ⟨by rfl,fun W hW=>(by go_simp)⟩) (by assumption) ?_
 refine tkH (i:=10) (oi:=⟨some 46,_,_,_,_,_⟩) (v:=.slice PA pn pcc) rfl (Or.inl ⟨by rfl,fun W hW=>(by have:=HD1.out W hW;go_simp)⟩) (by assumption) ?_
 refine wpAnyH_ready (rs:=[11]) (by kernel_rfl) (by simp) ?_
 refine AllReadyH.cons (o:=⟨some 47,_,_,_,_,_⟩) rfl (fun K hK=>?_) AllReadyH.nil
 rw[if_pos (by rfl)]
 go_simp
 refine(HBU.out).mono ?_
 rintro e w3 ⟨A3,c3,rfl,hc3,hF3,hR3,hB3⟩
 dsimp only
 have HC3:=zh hc3
 have HF3:=zh hF3
 have HR3:=zh hR3
 have HB3:=zh hB3
 have HPD:=zh (rfl:pduN s.C pn=pduN s.C pn)
 obtain⟨N3,hN3⟩:∃N3,N3=pduN s.C pn:=⟨_,rfl⟩
 have HN3:=zh hN3
 rw[←hN3]at HC3 HR3 ⊢
 have H3:Below w2.heap.size w2 w3:=hHeld.trans (hB3.mono hb0.size)
 refine hK.out _ _ H3 (fun hHeld=>?_)
 clear hK K hR3 hF3 hc3 hB3 hN3
 try simp only[Act.put,List.setIfInBounds_toArray,List.set_cons_zero,List.set_cons_succ]
 refine tkH (i:=12) (oi:=⟨some 35,_,_,_,_,_⟩) (v:=.tuple #[.slice A3 N3 c3,.int .i64 0]) rfl (Or.inl ⟨by rfl,fun W hW=>(by rfl)⟩) (by assumption) ?_
 refine tkH (i:=13) (oi:=⟨some 48,_,_,_,_,_⟩) (v:=.slice A3 N3 c3) rfl (Or.inl ⟨by rfl,fun W hW=>(by go_simp)⟩) (by assumption) ?_
 refine tkH (i:=15) (oi:=⟨some 10,_,_,_,_,_⟩) (v:=.slice A3 N3 c3) rfl (Or.inl ⟨by rfl,fun W hW=>(by rfl)⟩) (by assumption) ?_
 refine tkH (i:=14) (oi:=⟨some 49,_,_,_,_,_⟩) (v:=.int .i64 0) rfl (Or.inl ⟨by rfl,fun W hW=>(by go_simp)⟩) (by assumption) ?_
 refine tkH (i:=16) (oi:=⟨some 11,_,_,_,_,_⟩) (v:=.int .i64 0) rfl (Or.inl ⟨by rfl,fun W hW=>(by rfl)⟩) (by assumption) ?_
 refine wpAnyH_done (by kernel_rfl) ?_ _
 have HH3:=zh H3
 clear H3 hHeld
 have T3:=zh (T2.out.below HH3.out)
 have e2:w3.cell? ⟨b,o+i*3+2,none⟩=some (.bool pe.v.rep):=(HH3.out.cell (p:=⟨b,o+i*3+2,none⟩) hbl).trans HD2.out
 have e0:=HD0.out w3 HH3.out
 have f2:=T3.out.p.frozen rfl (o+i*3+2)
 have HQ:=zh (show SL (w3.setCell ⟨b,o+i*3+2,none⟩ (.bool false)) 69 3 (some ⟨b,o,none⟩) lp.length pc ((lp.set i { pe with v:={ pe.v with rep:=false } }).flatMap PE.cells)from by
  have:=T3.out.p.setOne (i*3+2) (by rw[←HM.out];omega) (.bool false)
  rw[rep_set lp i pe HPE.out,←Nat.add_assoc]at this
  exact this)
 have HKF:=zh ((KeepF.refl (F:=fun k=>∃a,(some ⟨b,o,none⟩:Option Addr)=some a∧k=a.block) (w:=w3)).setCell (p:=⟨b,o+i*3+2,none⟩) ⟨_,rfl,rfl⟩ (.bool false))
 have T4:=zh (T3.out.putP (lp':=lp.set i { pe with v:={ pe.v with rep:=false } }) HKF.out HQ.out (by rw[List.length_set]) (fun e he=>by
  have hk:Pkt w3 R1 e.A e.v.n e.c e.v.z:=by
   rcases List.mem_or_eq_of_mem_set he with h | h
   ·exact T3.out.pe e h
   ·subst h
    exact T3.out.pe pe (List.mem_of_getElem? HPE.out)
  exact hk.keep HKF.out (fun k ⟨a,ha,e2⟩ hr=>T3.out.dis k (by rw[e2];exact T3.out.wp a ha) hr)) (fun e he=>by
  rcases List.mem_or_eq_of_mem_set he with h | h
  ·exact T3.out.pr e.v (by rw[←T3.out.pv];exact List.mem_map_of_mem h)
  ·subst h
   exact T3.out.pr pe.v (by rw[←T3.out.pv];exact List.mem_map_of_mem (List.mem_of_getElem? HPE.out))))
 go_upto_region 11 with (fail)
 refine wp_let (fun V=>V=w3.setCell ⟨b,o+i*3+2,none⟩ (.bool false)) rfl ?_
 intro w4 hw4
 rw[←hw4]at HQ HKF T4
 have HW4:=zh hw4
 clear hw4 e0 e2 f2
 obtain⟨b',o',hbo,_,g0,_,_⟩:=T4.out.pcell (k:=i) (e:={ pe with v:={ pe.v with rep:=false } }) (by rw[List.getElem?_set_self (by rw[←HM.out];exact him)])
 cases hbo
 dsimp only at g0
 rw[HCI.out]at g0
 go_quiet (fail)
 go_wp2
 go_ret3
 have hN:pduN s.C pe.v.n=N3:=by rw[HN3.out,HPN.out]
 have hZ:pduZ s.C pe.v.ct.toNat pe.v.n (nf pe.v.z)=pduZ s.C CT pn (nf pz):=by rw[HCT.out,HPN.out,HPZ.out]
 have hS:({ s.tick t with P:=s.P.set i { pe.v with rep:=false } }:TS)={ s1 with P:=(lp.set i { pe with v:={ pe.v with rep:=false } }).map (·.v) }:=by
  rw[List.map_set,T1.out.pv,HP1.out,←HS1.out]
 have hsz:w1.heap.size≤w2.heap.size:=E2.out.size
 have hs0:w.heap.size≤w1.heap.size:=HK1.out.size
 have h4s:w2.heap.size≤w3.heap.size:=HH3.out.size
 have hfr:∀a,A3=some a→w2.heap.size≤a.block:=fun a e=>Nat.le_trans hb0.size (HF3.out a e).1
 have hbw:b < w2.heap.size:=hbl
 refine⟨A3,c3,W1,R1,?_,?_,?_,?_,HW1.out,HR1.out,?_,?_⟩
 ·show _=Ending.returned (.tuple #[.slice A3 (pduN s.C pe.v.n) c3,.int .u32 pe.v.ct,.int .i64 0])
  rw[hN,HCI.out]
  rfl
 ·show pduN s.C pe.v.n≤c3
  rw[hN]
  exact HC3.out
 ·show Row _ _ A3 (pduN s.C pe.v.n) (fun j=>.int .u8 ((pduZ s.C pe.v.ct.toNat pe.v.n (nf pe.v.z) j:Nat):Int))
  rw[hN,hZ]
  refine((HKF.out.row HR3.out (Nat.le_refl _) (fun a e _ ⟨a',ha',e'⟩=>?_)).more HKF.out.size).next (below_drewN (Below.refl _ _) _)
  cases ha'
  have:=hfr a e
  have e':a.block=b:=e'
  omega
 ·show TxI _ g ({ s.tick t with P:=s.P.set i { pe.v with rep:=false } }:TS) W1 R1
  rw[hS]
  exact⟨_,_,_,_,_,_,_,_,T4.out.below (below_drewN (Below.refl _ _) _)⟩
 ·exact((HK1.out.trans ((KeepF.of_below (F:=W1) (E2.out.trans (HH3.out.mono hsz))).trans (HKF.out.mono (G:=W1) (fun k ⟨a,ha,e⟩=>by rw[e];exact T3.out.wp a ha)) (fun _ _ h=>h)) (fun k hk h=>by
   rcases HW1.out k h with h | h
   ·exact h
   ·omega)).more (below_drewN (Below.refl _ _) _))
 ·intro a e
  have:=hfr a e
  obtain⟨cur,t,hu⟩:=(HF3.out a e).2
  exact⟨by omega,fun h=>by have:=T1.out.win _ h;omega,fun h=>by have:=T1.out.rin _ h;omega,cur,t,(HKF.out.block a.block (Array.getElem?_eq_some_iff.1 hu).1 (fun⟨a',ha',e'⟩=>by
   cases ha'
   have e':a.block=b:=e'
   omega)).trans hu⟩
end Go.Proofs.YtjanmleoomoedaaGreat
namespace Go.Proofs.YtjanmleoomoedaaGreat
open Go.RowKit
set_option linter.unusedVariables false
attribute [local go_sem ↓] Go.wp_at_zero Go.wp_at_succ
theorem TxO.next {W R:Nat→Prop} {w w1 w2:World} {g:Nat} {s:TS} (h:TxO W R w w1 g s) (hb:Below w1.heap.size w1 w2):TxO W R w w2 g s:=by
 obtain⟨W',R',h1,h2,h3,h4⟩:=h
 exact⟨W',R',h1.below hb,h2,h3,h4.more hb⟩
set_option maxRecDepth 100000 in
set_option maxHeartbeats 1600000 in
theorem tnext_none (g:Nat) (s:TS) (W R:Nat→Prop) (w:World) (h:TxI w g s W R) (hf:s.Fine) (t:Int) (ht1:-9223372036854775808≤t) (ht2:t≤9223372036854775807) (ct:¬1073741824≤t) (hrep:firstRep s.P=none) (hq:(s.tick t).Q=[]) :
  Calls Tryz.prog 16 #[.pointer (some ⟨g,0,none⟩),.int .i64 t] w (NxO W R w g (s.send t)):=by
 have HRP:=zh hrep
 unfold TS.send
 rw[if_neg ct,hrep]
 dsimp only
 rw[hq]
 dsimp only
 have HQ0:=zh hq
 clear hq
 have HTK:=zh (ttick_ok g s W R w h hf t ht1 ht2)
 rw[if_neg ct,if_neg ct]at HTK
 have HF1:=zh (hf.tick t)
 clear h hf
 obtain⟨s1,hs1⟩:∃s1,s1=s.tick t:=⟨_,rfl⟩
 have HS1:=zh hs1
 have HC1:Hid (s1.C=s.C):=zh (by rw[hs1];rfl)
 have HP1:Hid (s1.P=s.P):=zh (by rw[hs1];rfl)
 have HN1:Hid (s1.next=s.next):=zh (by rw[hs1];rfl)
 rw[←hs1]at HTK HF1
 clear hs1
 go_enter Tryz.func16,Tryz.ntmps16
 go_upto_region 4 with (go_at_call 38;refine(HTK.out).mono ?_;rintro e w1 ⟨rfl,hO⟩;have HO:=zh hO;clear hO)
 obtain⟨W1,R1,hI1,hW1,hR1,hK1⟩:=HO.out
 obtain⟨qA,qc,lq,pA,pc,lp,ub,cb,hT1⟩:=hI1
 have T1:=zh hT1
 have HW1:=zh hW1
 have HR1:=zh hR1
 have HK1:=zh hK1
 clear hW1 hR1 hK1
 obtain⟨m,hm⟩:∃m,m=lp.length:=⟨_,rfl⟩
 have HM:=zh hm
 have HRI:=zh (rindex_ok pA m pc lp hm w1 (by rw[hm];exact hT1.p))
 have cp:=hT1.cp
 rw[←hm]at cp
 have hgl:=hT1.blk.lt
 have hmc:=hT1.p.le
 have hcm:=hT1.p.cmax
 unfold maxLen at hcm
 rw[←hm]at hmc
 have m9:(m:Int)≤9223372036854775807:=by omega
 have HRC:=zh (rep_cases lp)
 rw[hT1.pv,HP1.out,←hm]at HRC
 clear hT1 hm
 have HF0:Hid (firstP (isRep lp) 0 m = -1):=by
  rcases HRC.out with ⟨i',e',h1,h2,h3⟩ | ⟨h2,_⟩
  ·rw[HRP.out]at h3
   cases h3
  ·exact zh h2
 rw[HF0.out]at HRI
 clear hrep HF0 HRC
 obtain⟨lqn,hnq⟩:∃lqn,lqn=lq.length:=⟨_,rfl⟩
 have HNQ:=zh hnq
 clear hnq
 go_upto_region 12 with (go_at_call 40;refine(HRI.out).mono ?_;rintro e w2 ⟨rfl,hB⟩;have E2:=zh hB;clear hB)
 have T2:=zh (T1.out.below E2.out)
 have cq:=T2.out.cq
 rw[←HNQ.out]at cq
 have hO2:=zh (show TxO W R w w2 g s1 from TxO.comp HW1.out HR1.out HK1.out ⟨W1,R1,⟨_,_,_,_,_,_,_,_,T2.out⟩,fun _ h=>.inl h,fun _ h=>.inl h,KeepF.of_below E2.out⟩)
 clear cp
 have hn0:lqn=0:=by
  rw[HNQ.out]
  have:=congrArg List.length T2.out.qv
  rw[HS1.out,HQ0.out,List.length_map]at this
  exact this
 subst hn0
 go_wp2
 go_ret3
 rw[←HS1.out]
 exact nx_err hO2.out 10
set_option maxRecDepth 100000 in
set_option maxHeartbeats 1600000 in
theorem tnext_used (g:Nat) (s:TS) (W R:Nat→Prop) (w:World) (h:TxI w g s W R) (hf:s.Fine) (t:Int) (ht1:-9223372036854775808≤t) (ht2:t≤9223372036854775807) (ct:¬1073741824≤t) (hrep:firstRep s.P=none) (q:QV) (r:List QV) (hq:(s.tick t).Q=q :: r) (hnx:s.next=4294967296) :
  Calls Tryz.prog 16 #[.pointer (some ⟨g,0,none⟩),.int .i64 t] w (NxO W R w g (s.send t)):=by
 have HRP:=zh hrep
 unfold TS.send
 rw[if_neg ct,hrep]
 dsimp only
 rw[hq]
 dsimp only
 rw[if_pos hnx]
 have HQ0:=zh hq
 have HNX:=zh hnx
 clear hq hnx
 have HTK:=zh (ttick_ok g s W R w h hf t ht1 ht2)
 rw[if_neg ct,if_neg ct]at HTK
 have HF1:=zh (hf.tick t)
 clear h hf
 obtain⟨s1,hs1⟩:∃s1,s1=s.tick t:=⟨_,rfl⟩
 have HS1:=zh hs1
 have HC1:Hid (s1.C=s.C):=zh (by rw[hs1];rfl)
 have HP1:Hid (s1.P=s.P):=zh (by rw[hs1];rfl)
 have HN1:Hid (s1.next=s.next):=zh (by rw[hs1];rfl)
 rw[←hs1]at HTK HF1
 clear hs1
 go_enter Tryz.func16,Tryz.ntmps16
 go_upto_region 4 with (go_at_call 38;refine(HTK.out).mono ?_;rintro e w1 ⟨rfl,hO⟩;have HO:=zh hO;clear hO)
 obtain⟨W1,R1,hI1,hW1,hR1,hK1⟩:=HO.out
 obtain⟨qA,qc,lq,pA,pc,lp,ub,cb,hT1⟩:=hI1
 have T1:=zh hT1
 have HW1:=zh hW1
 have HR1:=zh hR1
 have HK1:=zh hK1
 clear hW1 hR1 hK1
 obtain⟨m,hm⟩:∃m,m=lp.length:=⟨_,rfl⟩
 have HM:=zh hm
 have HRI:=zh (rindex_ok pA m pc lp hm w1 (by rw[hm];exact hT1.p))
 have cp:=hT1.cp
 rw[←hm]at cp
 have hgl:=hT1.blk.lt
 have hmc:=hT1.p.le
 have hcm:=hT1.p.cmax
 unfold maxLen at hcm
 rw[←hm]at hmc
 have m9:(m:Int)≤9223372036854775807:=by omega
 have HRC:=zh (rep_cases lp)
 rw[hT1.pv,HP1.out,←hm]at HRC
 clear hT1 hm
 have HF0:Hid (firstP (isRep lp) 0 m = -1):=by
  rcases HRC.out with ⟨i',e',h1,h2,h3⟩ | ⟨h2,_⟩
  ·rw[HRP.out]at h3
   cases h3
  ·exact zh h2
 rw[HF0.out]at HRI
 clear hrep HF0 HRC
 obtain⟨lqn,hnq⟩:∃lqn,lqn=lq.length:=⟨_,rfl⟩
 have HNQ:=zh hnq
 clear hnq
 go_upto_region 12 with (go_at_call 40;refine(HRI.out).mono ?_;rintro e w2 ⟨rfl,hB⟩;have E2:=zh hB;clear hB)
 have T2:=zh (T1.out.below E2.out)
 have cq:=T2.out.cq
 rw[←HNQ.out]at cq
 have hO2:=zh (show TxO W R w w2 g s1 from TxO.comp HW1.out HR1.out HK1.out ⟨W1,R1,⟨_,_,_,_,_,_,_,_,T2.out⟩,fun _ h=>.inl h,fun _ h=>.inl h,KeepF.of_below E2.out⟩)
 clear cp
 have hnq1:1≤lqn:=by
  rw[HNQ.out]
  have:=congrArg List.length T2.out.qv
  rw[HS1.out,HQ0.out,List.length_map,List.length_cons]at this
  omega
 have q1:¬((lqn:Int)=0):=by omega
 have cn:=T2.out.cnext
 rw[HN1.out,HNX.out]at cn
 go_wp2
 go_ret3
 rw[←HS1.out]
 exact nx_err hO2.out 460
set_option maxRecDepth 100000 in
set_option maxHeartbeats 1600000 in
theorem tnext_full (g:Nat) (s:TS) (W R:Nat→Prop) (w:World) (h:TxI w g s W R) (hf:s.Fine) (t:Int) (ht1:-9223372036854775808≤t) (ht2:t≤9223372036854775807) (ct:¬1073741824≤t) (hrep:firstRep s.P=none) (q:QV) (r:List QV) (hq:(s.tick t).Q=q :: r) (hnx:s.next ≠ 4294967296) (hfu:s.full=true) :
  Calls Tryz.prog 16 #[.pointer (some ⟨g,0,none⟩),.int .i64 t] w (NxO W R w g (s.send t)):=by
 have HRP:=zh hrep
 unfold TS.send
 rw[if_neg ct,hrep]
 dsimp only
 rw[hq]
 dsimp only
 rw[if_neg hnx,if_pos hfu]
 have HQ0:=zh hq
 have HNX:=zh hnx
 have HFU:=zh hfu
 clear hq hnx hfu
 have HTK:=zh (ttick_ok g s W R w h hf t ht1 ht2)
 rw[if_neg ct,if_neg ct]at HTK
 have HF1:=zh (hf.tick t)
 clear h hf
 obtain⟨s1,hs1⟩:∃s1,s1=s.tick t:=⟨_,rfl⟩
 have HS1:=zh hs1
 have HC1:Hid (s1.C=s.C):=zh (by rw[hs1];rfl)
 have HP1:Hid (s1.P=s.P):=zh (by rw[hs1];rfl)
 have HN1:Hid (s1.next=s.next):=zh (by rw[hs1];rfl)
 rw[←hs1]at HTK HF1
 clear hs1
 go_enter Tryz.func16,Tryz.ntmps16
 go_upto_region 4 with (go_at_call 38;refine(HTK.out).mono ?_;rintro e w1 ⟨rfl,hO⟩;have HO:=zh hO;clear hO)
 obtain⟨W1,R1,hI1,hW1,hR1,hK1⟩:=HO.out
 obtain⟨qA,qc,lq,pA,pc,lp,ub,cb,hT1⟩:=hI1
 have T1:=zh hT1
 have HW1:=zh hW1
 have HR1:=zh hR1
 have HK1:=zh hK1
 clear hW1 hR1 hK1
 obtain⟨m,hm⟩:∃m,m=lp.length:=⟨_,rfl⟩
 have HM:=zh hm
 have HRI:=zh (rindex_ok pA m pc lp hm w1 (by rw[hm];exact hT1.p))
 have cp:=hT1.cp
 rw[←hm]at cp
 have hgl:=hT1.blk.lt
 have hmc:=hT1.p.le
 have hcm:=hT1.p.cmax
 unfold maxLen at hcm
 rw[←hm]at hmc
 have m9:(m:Int)≤9223372036854775807:=by omega
 have HRC:=zh (rep_cases lp)
 rw[hT1.pv,HP1.out,←hm]at HRC
 clear hT1 hm
 have HF0:Hid (firstP (isRep lp) 0 m = -1):=by
  rcases HRC.out with ⟨i',e',h1,h2,h3⟩ | ⟨h2,_⟩
  ·rw[HRP.out]at h3
   cases h3
  ·exact zh h2
 rw[HF0.out]at HRI
 clear hrep HF0 HRC
 obtain⟨lqn,hnq⟩:∃lqn,lqn=lq.length:=⟨_,rfl⟩
 have HNQ:=zh hnq
 clear hnq
 go_upto_region 12 with (go_at_call 40;refine(HRI.out).mono ?_;rintro e w2 ⟨rfl,hB⟩;have E2:=zh hB;clear hB)
 have T2:=zh (T1.out.below E2.out)
 have cq:=T2.out.cq
 rw[←HNQ.out]at cq
 have hO2:=zh (show TxO W R w w2 g s1 from TxO.comp HW1.out HR1.out HK1.out ⟨W1,R1,⟨_,_,_,_,_,_,_,_,T2.out⟩,fun _ h=>.inl h,fun _ h=>.inl h,KeepF.of_below E2.out⟩)
 clear cp
 have hnq1:1≤lqn:=by
  rw[HNQ.out]
  have:=congrArg List.length T2.out.qv
  rw[HS1.out,HQ0.out,List.length_map,List.length_cons]at this
  omega
 have q1:¬((lqn:Int)=0):=by omega
 have cn:=T2.out.cnext
 have hn0:=T2.out.next0
 obtain⟨nx,hnx⟩:∃nx,nx=s1.next:=⟨_,rfl⟩
 have HX:=zh hnx
 rw[←hnx]at cn hn0
 have x0:¬nx=4294967296:=by rw[hnx,HN1.out];exact HNX.out
 have cp:=T2.out.cp
 rw[←HM.out]at cp
 have HPV:=zh T2.out.pv
 have hm1:0 < m:=by
  rw[HM.out]
  have hfu:=HFU.out
  unfold TS.full at hfu
  rw[←HP1.out,←HPV.out]at hfu
  cases lp with
  | nil=>cases hfu
  | cons x l=>simp
 obtain⟨p0,hp0⟩:∃p0,lp[0]? = some p0:=⟨lp[0]'(by rw[←HM.out];exact hm1),List.getElem?_eq_getElem _⟩
 have HFL:=zh (show decide (2048≤IntKind.u64.wrap (nx-p0.v.ct))=true from by
  refine decide_eq_true ?_
  rw[show IntKind.u64.wrap (nx-p0.v.ct)=(nx-p0.v.ct) % 18446744073709551616 from rfl]
  have hfu:=HFU.out
  unfold TS.full at hfu
  rw[←HP1.out,←HPV.out,←HN1.out,←HX.out]at hfu
  cases lp with
  | nil=>cases hfu
  | cons x l=>
   have:x=p0:=by simpa using hp0
   subst this
   simpa using hfu)
 obtain⟨b,o,hpA,hbl,d0,d1,d2⟩:=T2.out.pcell hp0
 subst hpA
 rw[Nat.zero_mul,Nat.add_zero]at d0
 obtain⟨y,hy⟩:∃y,y=p0.v.ct:=⟨_,rfl⟩
 have hyr:=T2.out.pr p0.v (by rw[←T2.out.pv];exact List.mem_map_of_mem (List.mem_of_getElem? hp0))
 rw[←hy]at d0 hyr HFL
 have hfl:=HFL.out
 have m0:(0:Int) < (m:Int):=by omega
 have dm:decide ((0:Int) < (m:Int))=true:=decide_eq_true m0
 clear hnx hy hp0 d1 d2
 go_upto_region 16 with (fail)
 go_quiet (fail)
 go_wp2
 go_ret3
 rw[←HS1.out]
 exact nx_err (hO2.out.next (below_drewN (Below.refl _ _) _)) 7
set_option maxRecDepth 100000 in
set_option maxHeartbeats 3200000 in
theorem tnext_new (g:Nat) (s:TS) (W R:Nat→Prop) (w:World) (h:TxI w g s W R) (hf:s.Fine) (t:Int) (ht1:-9223372036854775808≤t) (ht2:t≤9223372036854775807) (ct:¬1073741824≤t) (hb:Builds g s.C) (hpl:s.P.length≤1000000) (hrep:firstRep s.P=none) (q:QV) (r:List QV) (hq:(s.tick t).Q=q :: r) (hnx:s.next ≠ 4294967296) (hfu:¬s.full=true) :
  Calls Tryz.prog 16 #[.pointer (some ⟨g,0,none⟩),.int .i64 t] w (NxO W R w g (s.send t)):=by
 have HRP:=zh hrep
 unfold TS.send
 rw[if_neg ct,hrep]
 dsimp only
 rw[hq]
 dsimp only
 rw[if_neg hnx,if_neg hfu]
 have HQ0:=zh hq
 have HNX:=zh hnx
 have HFU:=zh hfu
 have HBD:=zh hb
 have HPL:=zh hpl
 clear hq hnx hfu hpl
 have HTK:=zh (ttick_ok g s W R w h hf t ht1 ht2)
 rw[if_neg ct,if_neg ct]at HTK
 have HF1:=zh (hf.tick t)
 clear h hf
 obtain⟨s1,hs1⟩:∃s1,s1=s.tick t:=⟨_,rfl⟩
 have HS1:=zh hs1
 have HC1:Hid (s1.C=s.C):=zh (by rw[hs1];rfl)
 have HP1:Hid (s1.P=s.P):=zh (by rw[hs1];rfl)
 have HN1:Hid (s1.next=s.next):=zh (by rw[hs1];rfl)
 rw[←hs1]at HTK HF1
 clear hs1
 go_enter Tryz.func16,Tryz.ntmps16
 go_upto_region 4 with (go_at_call 38;refine(HTK.out).mono ?_;rintro e w1 ⟨rfl,hO⟩;have HO:=zh hO;clear hO)
 obtain⟨W1,R1,hI1,hW1,hR1,hK1⟩:=HO.out
 obtain⟨qA,qc,lq,pA,pc,lp,ub,cb,hT1⟩:=hI1
 have T1:=zh hT1
 have HW1:=zh hW1
 have HR1:=zh hR1
 have HK1:=zh hK1
 clear hW1 hR1 hK1
 obtain⟨m,hm⟩:∃m,m=lp.length:=⟨_,rfl⟩
 have HM:=zh hm
 have HRI:=zh (rindex_ok pA m pc lp hm w1 (by rw[hm];exact hT1.p))
 have cp:=hT1.cp
 rw[←hm]at cp
 have hgl:=hT1.blk.lt
 have hmc:=hT1.p.le
 have hcm:=hT1.p.cmax
 unfold maxLen at hcm
 rw[←hm]at hmc
 have m9:(m:Int)≤9223372036854775807:=by omega
 have HRC:=zh (rep_cases lp)
 rw[hT1.pv,HP1.out,←hm]at HRC
 clear hT1 hm
 have HF0:Hid (firstP (isRep lp) 0 m = -1):=by
  rcases HRC.out with ⟨i',e',h1,h2,h3⟩ | ⟨h2,_⟩
  ·rw[HRP.out]at h3
   cases h3
  ·exact zh h2
 rw[HF0.out]at HRI
 clear hrep HF0 HRC
 obtain⟨lqn,hnq⟩:∃lqn,lqn=lq.length:=⟨_,rfl⟩
 have HNQ:=zh hnq
 clear hnq
 go_upto_region 12 with (go_at_call 40;refine(HRI.out).mono ?_;rintro e w2 ⟨rfl,hB⟩;have E2:=zh hB;clear hB)
 have T2:=zh (T1.out.below E2.out)
 have cq:=T2.out.cq
 rw[←HNQ.out]at cq
 have hO2:=zh (show TxO W R w w2 g s1 from TxO.comp HW1.out HR1.out HK1.out ⟨W1,R1,⟨_,_,_,_,_,_,_,_,T2.out⟩,fun _ h=>.inl h,fun _ h=>.inl h,KeepF.of_below E2.out⟩)
 clear cp
 have hnq1:1≤lqn:=by
  rw[HNQ.out]
  have:=congrArg List.length T2.out.qv
  rw[HS1.out,HQ0.out,List.length_map,List.length_cons]at this
  omega
 have q1:¬((lqn:Int)=0):=by omega
 have cn:=T2.out.cnext
 have hn0:=T2.out.next0
 obtain⟨nx,hnx⟩:∃nx,nx=s1.next:=⟨_,rfl⟩
 have HX:=zh hnx
 rw[←hnx]at cn hn0
 have x0:¬nx=4294967296:=by rw[hnx,HN1.out];exact HNX.out
 have cp:=T2.out.cp
 rw[←HM.out]at cp
 have HPV:=zh T2.out.pv
 clear hnx
 by_cases hm1:m=0
 ·subst hm1
  go_upto_region 16 with (fail)
  go_quiet (fail)
  go_upto_region 18 with (fail)
  refine wp_let (fun V=>TxM V g s1 W1 R1 qA qc lq pA pc lp ub cb∧Below w2.heap.size w2 V) ⟨T2.out.below (below_drewN (Below.refl _ _) _),below_drewN (Below.refl _ _) _⟩ ?_
  rintro V ⟨v1,v2⟩
  have TV:=zh v1
  have BV:=zh v2
  clear v1 v2 cn cq cp
  have cn:=TV.out.cnext
  have cq:=TV.out.cq
  rw[←HNQ.out]at cq
  rw[←HX.out]at cn
  obtain⟨e0,he0⟩:∃e0,lq[0]? = some e0:=⟨lq[0]'(by rw[←HNQ.out];exact hnq1),List.getElem?_eq_getElem _⟩
  obtain⟨b2,o2,hqA,hb2,k0,k1⟩:=TV.out.qcell he0
  subst hqA
  rw[Nat.zero_mul,Nat.add_zero]at k0
  have HE0:=zh he0
  have PK:=zh (TV.out.qe e0 (List.mem_of_getElem? he0))
  obtain⟨PA,hPA⟩:∃PA,PA=e0.A:=⟨_,rfl⟩
  obtain⟨pn,hpn⟩:∃pn,pn=e0.v.n:=⟨_,rfl⟩
  obtain⟨pz,hpz⟩:∃pz,pz=e0.v.z:=⟨_,rfl⟩
  obtain⟨pcc,hpcc⟩:∃pcc,pcc=e0.c:=⟨_,rfl⟩
  have HPA:=zh hPA
  have HPN:=zh hpn
  have HPZ:=zh hpz
  have HPC:=zh hpcc
  rw[←hPA,←hpn,←hpz,←hpcc]at PK
  rw[←hPA,←hpn,←hpcc]at k0
  have HEQ:Hid (e0.v=q∧(lq.drop 1).map (·.v)=r):=zh (by
   have hh:=T2.out.qv
   rw[HS1.out,HQ0.out]at hh
   cases lq with
   | nil=>cases hh
   | cons x l=>
    have:x=e0:=by simpa using HE0.out
    subst this
    injection hh with h1 h2
    exact⟨h1,h2⟩)
  obtain⟨N,hN⟩:∃N:Nat,N=nx.toNat:=⟨_,rfl⟩
  have HNN:Hid (nx=(N:Int)):=zh (by rw[hN];omega)
  have HNL:Hid (N < 4294967296):=zh (by rw[hN];omega)
  have HNT:=zh hN
  have hnn:=HNN.out
  have hnl:=HNL.out
  subst hnn
  have n32:(N:Int) % 4294967296=(N:Int):=by omega
  clear he0 hPA hpn hpz hpcc k1 hN
  go_quiet (fail)
  go_upto_region 19 with (fail)
  refine wp_let (fun V2=>TxM V2 g s1 W1 R1 (some ⟨b2,o2,none⟩) qc lq pA pc lp ub cb∧Below w2.heap.size w2 V2) ⟨TV.out.below (below_drewN (Below.refl _ _) _),BV.out.trans (below_drewN (Below.refl _ _) _)⟩ ?_
  rintro V2 ⟨v1,v2⟩
  have TU:=zh v1
  have BU:=zh v2
  clear v1 v2 cn cq k0
  have hUs:V.heap.size≤V2.heap.size∨True:=.inr trivial
  have PU:=zh (TU.out.qe e0 (List.mem_of_getElem? HE0.out))
  rw[←HPA.out,←HPN.out,←HPZ.out,←HPC.out]at PU
  have HBU:=zh (HBD.out s1 W1 R1 V2 HC1.out ⟨_,_,_,_,_,_,_,_,TU.out⟩ N HNL.out PA pn pcc pz PU.out.pos PU.out.max PU.out.row PU.out.byte)
  clear hUs
  go_upto_region 20 with (go_at_call 42;refine(HBU.out).mono ?_;rintro e w3 ⟨A3,c3,rfl,hc3,hF3,hR3,hB3⟩;have HC3:=zh hc3;have HF3:=zh hF3;have HR3:=zh hR3;have HB3:=zh hB3;clear hc3 hF3 hR3 hB3)
  have T3:=zh (TU.out.below HB3.out)
  have cq:=T3.out.cq
  rw[←HNQ.out]at cq
  have f42:=T3.out.blk.frozen 42
  have hqm:=T3.out.q.cmax
  have hqle:=T3.out.q.le
  rw[←HNQ.out]at hqle
  unfold maxLen at hqm
  have q2:(1:Int)≤(lqn:Int):=by omega
  have q3:(lqn:Int)≤(qc:Int):=by omega
  have q4:(qc:Int)≤9223372036854775807:=by omega
  obtain⟨QA,hQA⟩:∃QA:Option Addr,QA=if qc=1 then some ⟨b2,o2,none⟩ else some ⟨b2,o2+2,none⟩:=⟨_,rfl⟩
  have HQAB:=zh (show ∀a,QA=some a→a.block=b2 from fun a ha=>by rw[hQA]at ha;split at ha<;>(cases ha;rfl))
  have hdl:(lq.drop 1).length=lqn-1:=by rw[List.length_drop,←HNQ.out]
  have S4:SL w3 71 2 QA (lq.drop 1).length (qc-1) ((lq.drop 1).flatMap WE.cells):=by
   have hh:=T3.out.q.drop 1 (by rw[←HNQ.out];exact hnq1)
   rw[drop_flatW,Nat.one_mul,←hQA,←HNQ.out,←hdl]at hh
   exact hh
  obtain⟨W4,hW4⟩:∃W4:Nat→Prop,W4=fun k=>W1 k∨∃a,QA=some a∧k=a.block:=⟨_,rfl⟩
  have HW4:=zh (show ∀k,W4 k→W1 k from fun k hk=>by
   rw[hW4]at hk
   rcases hk with hk | ⟨a,ha,e⟩
   ·exact hk
   ·rw[e,HQAB.out a ha];exact T3.out.wq _ rfl)
  have T4:=T3.out.setQ (lq':=lq.drop 1) (qA':=QA) (qc':=qc-1) (w1:=w3) KeepF.refl (fun a ha=>.inl ⟨_,rfl,HQAB.out a ha⟩) S4 (fun e he=>T3.out.qe e (List.mem_of_mem_drop he))
  rw[hdl,HEQ.out.2,←hW4]at T4
  have kg:KeepF W1 w3 (w3.setCell ⟨g,42,none⟩ (.slice QA (lqn-1) (qc-1))):=KeepF.refl.setCell (p:=⟨g,42,none⟩) T3.out.wg _
  have PK3:=zh (T3.out.qe e0 (List.mem_of_getElem? HE0.out))
  rw[←HPA.out,←HPN.out,←HPZ.out,←HPC.out]at PK3
  go_upto_region 23 with (fail)
  rw[←hQA]
  refine wp_let (fun X=>TxM X g { s1 with Q:=r } W4 R1 QA (qc-1) (lq.drop 1) pA pc lp ub cb∧KeepF W1 w3 X) ⟨T4,kg⟩ ?_
  rintro X4 ⟨x1,x2⟩
  have TX4:=zh x1
  have KX4:=zh x2
  clear x1 x2 T4 kg S4 hQA hW4 hdl cq f42 hqm q3 q4
  have c41:=TX4.out.cnext
  rw[show({ s1 with Q:=r }:TS).next=s1.next from rfl,←HX.out]at c41
  have f41:=TX4.out.blk.frozen 41
  have T5:=TX4.out.setNext ((N:Int)+1) (by omega)
  have kg:KeepF W1 w3 (X4.setCell ⟨g,41,none⟩ (.int .u64 ((N:Int)+1))):=KX4.out.setCell (p:=⟨g,41,none⟩) T3.out.wg _
  go_upto_region 24 with (fail)
  refine wp_let (fun X=>TxM X g { s1 with Q:=r,next:=(N:Int)+1 } W4 R1 QA (qc-1) (lq.drop 1) pA pc lp ub cb∧KeepF W1 w3 X) ⟨T5,kg⟩ ?_
  rintro X5 ⟨x1,x2⟩
  have TX5:=zh x1
  have KX5:=zh x2
  clear x1 x2 T5 kg c41 f41
  have hs0:w.heap.size≤w1.heap.size:=HK1.out.size
  have hs1:w1.heap.size≤w2.heap.size:=E2.out.size
  have hs2:w2.heap.size≤V2.heap.size:=BU.out.size
  have hs3:V2.heap.size≤w3.heap.size:=HB3.out.size
  have HFA:=zh (show ∀a,A3=some a→V2.heap.size≤a.block∧a.block < w3.heap.size∧∃cur t,w3.heap[a.block]? = some (.cells cur t (0,0))from fun a e=>⟨(HF3.out a e).1,row_lt HR3.out (by unfold pduN;omega) e,(HF3.out a e).2⟩)
  have HKB:=zh (show KeepF W w w3 from (HK1.out.trans (KeepF.of_below (F:=W1) (E2.out.trans ((BU.out.trans (HB3.out.mono hs2)).mono hs1))) (fun k hk h=>by
    rcases HW1.out k h with h | h
    ·exact h
    ·omega)))
  have HWW:=zh (show ∀k,k < w.heap.size→W1 k→W k from fun k hk h=>by
   rcases HW1.out k h with h | h
   ·exact h
   ·omega)
  have hN:pduN s.C q.n=pduN s.C pn:=by rw[HPN.out,HEQ.out.1]
  have hZ:pduZ s.C s.next.toNat q.n (nf q.z)=pduZ s.C N pn (nf pz):=by rw[HPN.out,HPZ.out,HEQ.out.1,←HN1.out,←HX.out,Int.toNat_natCast]
  have hNX:s.next=(N:Int):=by rw[←HN1.out,HX.out]
  have HNN2:=zh hN
  have HZZ:=zh hZ
  have HNXX:=zh hNX
  clear hN hZ hNX
  have c36:X5.cell? ⟨g,36,none⟩=some (.bool s.C.ac):=(TX5.out.cC (j:=36) (by decide)).trans (by rw[show({ s1 with Q:=r,next:=(N:Int)+1 }:TS).C=s1.C from rfl,HC1.out];rfl)
  by_cases hac:s.C.ac=true
  ·rw[hac]at c36
   have HAC:=zh hac
   clear hac
   have cp5:=TX5.out.cp
   rw[←HM.out]at cp5
   obtain⟨ip,hip,hipz,hips,hipb⟩:=infoPend
   obtain⟨X6,hX6⟩:∃X6,X6=X5.alloc (.cells #[.int .u32 (N:Int),.slice PA pn pcc,.bool false] 69):=⟨_,rfl⟩
   have hb6:Below X5.heap.size X5 X6:=by rw[hX6];exact(Below.refl _ _).alloc (Nat.le_refl _) _
   have HX6:=zh hX6
   have TX6:=zh (TX5.out.below hb6)
   have hNB:Blk X6 X5.heap.size 69 #[.int .u32 (N:Int),.slice PA pn pcc,.bool false]:=by rw[hX6];exact Blk.new _ _ _
   have HSRC:Hid (Src Tryz.prog 3 64 (.slice (some ⟨X5.heap.size,0,none⟩) 1 1) 1 [.int .u32 (N:Int),.slice PA pn pcc,.bool false] X6):=zh (Src.ofSlice _ Tryz.underlying64 ⟨X5.heap.size,0,none⟩ 1 1 _ rfl (fun j u hu=>by
    have hj:j < 3:=(List.getElem?_eq_some_iff.1 hu).1
    rw[Addr.add_lit,Nat.zero_add,hNB.cell j]
    simpa using hu) (by simp[Value.oneCell']))
   have HSL6:Hid (SL X6 69 3 pA 0 pc (lp.flatMap PE.cells)):=zh (by rw[HM.out];exact TX6.out.p)
   have HM6:Hid (0≤1000000):=zh (by rw[HM.out];have hh:=congrArg List.length T1.out.pv;rw[List.length_map,HP1.out]at hh;rw[hh];exact HPL.out)
   clear hNB hX6
   go_wp2_with (rw[←HX6.out];refine wpList_sl_append rfl _ _ _ _ rfl X6 69 ip (.agg #[.int .u32 0,.slice none 0 0,.bool false]) 3 40 Tryz.underlying64 hip hipz hips hipb rfl pA 0 pc (lp.flatMap PE.cells) rfl HSL6.out _ rfl 1 [.int .u32 (N:Int),.slice PA pn pcc,.bool false] HSRC.out (by decide) (by have:=HM6.out;unfold maxLen;omega) (by have:=HM6.out;omega) ?_;intro A9 c9 wA hSL9 hK9 hA9;have HSL9:=zh hSL9;have HK9:=zh hK9;have HA9:=zh hA9;have hg9:=(hK9.blk TX6.out.blk (fun⟨a,ha,e⟩=>TX6.out.gp a ha e)).cell 43;have hf9:=(hK9.blk TX6.out.blk (fun⟨a,ha,e⟩=>TX6.out.gp a ha e)).frozen 43;rw[tArr_high s1.C.arr_size 4]at hg9;simp at hg9;clear hSL9 hK9 hA9)
   go_ret3
   obtain⟨pe,hpe⟩:∃pe:PE,pe=⟨⟨(N:Int),pn,pz,false⟩,PA,pcc⟩:=⟨_,rfl⟩
   have hlen9:(lp++[pe]).length=1:=by rw[List.length_append,←HM.out];rfl
   have hW1X:∀k,W1 k→k < w3.heap.size:=T3.out.win
   have hX5:w3.heap.size≤X5.heap.size:=KX5.out.size
   have hX6s:X5.heap.size≤X6.heap.size:=hb6.size
   have hS9:SL wA 69 3 A9 (lp++[pe]).length c9 ((lp++[pe]).flatMap PE.cells):=by
    rw[hlen9,List.flatMap_append,hpe]
    exact HSL9.out
   have hpk:∀e,e∈lp++[pe]→Pkt wA R1 e.A e.v.n e.c e.v.z:=fun e he=>by
    have hx:Pkt X6 R1 e.A e.v.n e.c e.v.z:=by
     rcases List.mem_append.1 he with he | he
     ·exact TX6.out.pe e he
     ·have:e=pe:=by simpa using he
      rw[this,hpe]
      exact(PK3.out.keep KX5.out (fun k hw hr=>T3.out.dis k hw hr)).keep (KeepF.of_below (F:=fun _=>False) hb6) (fun k hf=>hf.elim)
    exact hx.keep HK9.out (fun j ⟨a,ha,e2⟩ hr=>TX6.out.dis j (by rw[e2];exact TX6.out.wp a ha) hr)
   have TF:=TX6.out.setP (lp':=lp++[pe]) HK9.out HA9.out hS9 hpk (fun e he=>by
    rcases List.mem_append.1 he with he | he
    ·exact TX6.out.pr e.v (by rw[←TX6.out.pv];exact List.mem_map_of_mem he)
    ·have:e=pe:=by simpa using he
     rw[this,hpe]
     exact⟨Int.natCast_nonneg _,by show(N:Int) < 4294967296;omega⟩)
   rw[hlen9]at TF
   have hK:KeepF W1 w3 (wA.setCell ⟨g,43,none⟩ (.slice A9 (1) c9)):=((KX5.out.more hb6).trans (HK9.out.mono (G:=fun k=>W1 k∨X6.heap.size≤k) (fun k ⟨a,ha,e⟩=>.inl (by rw[e];exact T3.out.wp a ha))) (fun k hk h=>by
    rcases h with h | h
    ·exact h
    ·omega)).setCell (p:=⟨g,43,none⟩) T3.out.wg _
   have hW9:∀k,(W4 k∨∃a,A9=some a∧k=a.block)→W1 k∨X6.heap.size≤k:=fun k hk=>by
    rcases hk with hk | ⟨a,ha,e⟩
    ·exact .inl (HW4.out k hk)
    ·rcases HA9.out a ha with ⟨a',ha',e'⟩ | hge
     ·exact .inl (by rw[e,e'];exact T3.out.wp a' ha')
     ·exact .inr (by omega)
   refine⟨A3,c3,(fun k=>W4 k∨∃a,A9=some a∧k=a.block),R1,?_,?_,?_,?_,fun k hk=>?_,HR1.out,?_,?_⟩
   ·show _=Ending.returned (.tuple #[.slice A3 (pduN s.C q.n) c3,.int .u32 s.next,.int .i64 0])
    rw[HNN2.out,HNXX.out]
    rfl
   ·show pduN s.C q.n≤c3
    rw[HNN2.out]
    exact HC3.out
   ·show Row _ _ A3 (pduN s.C q.n) (fun j=>.int .u8 ((pduZ s.C s.next.toNat q.n (nf q.z) j:Nat):Int))
    rw[HNN2.out,HZZ.out]
    exact(hK.row HR3.out (Nat.le_refl _) (fun a e _ h=>by have:=(HFA.out a e).1;have:=TU.out.win _ h;omega)).more hK.size
   ·first
     | (show TxI _ g ({ s.tick t with Q:=r,next:=s.next+1,P:=if s.C.ac=true then s.P++[⟨s.next,q.n,q.z,false⟩] else s.P }:TS) _ R1;rw[if_pos HAC.out])
     | show TxI _ g ({ s.tick t with Q:=r,next:=s.next+1,P:=s.P++[⟨s.next,q.n,q.z,false⟩] }:TS) _ R1
    rw[←HS1.out,HNXX.out,←HP1.out,show(⟨(N:Int),q.n,q.z,false⟩:PV)=pe.v from by rw[hpe,HPN.out,HPZ.out,HEQ.out.1],←T1.out.pv]
    rw[List.map_append]at TF
    exact⟨_,_,_,_,_,_,_,_,TF⟩
   ·rcases hW9 k hk with h | h
    ·exact HW1.out k h
    ·exact .inr (by omega)
   ·exact HKB.out.trans hK HWW.out
   ·intro a e
    have h1:=(HFA.out a e).1
    have h2:=(HFA.out a e).2.1
    obtain⟨cur,ty,hu⟩:=(HFA.out a e).2.2
    refine⟨by omega,fun h=>?_,fun h=>by have:=TU.out.rin _ h;omega,cur,ty,(hK.block _ h2 (fun h=>by have:=TU.out.win _ h;omega)).trans hu⟩
    rcases hW9 _ h with h | h
    ·have:=TU.out.win _ h;omega
    ·omega
  ·have hac2:s.C.ac=false:=by simpa using hac
   rw[hac2]at c36
   have HAC:=zh hac
   clear hac hac2
   go_wp2
   go_ret3
   refine⟨A3,c3,W4,R1,?_,?_,?_,?_,fun k hk=>HW1.out k (HW4.out k hk),HR1.out,?_,?_⟩
   ·show _=Ending.returned (.tuple #[.slice A3 (pduN s.C q.n) c3,.int .u32 s.next,.int .i64 0])
    rw[HNN2.out,HNXX.out]
    rfl
   ·show pduN s.C q.n≤c3
    rw[HNN2.out]
    exact HC3.out
   ·show Row _ _ A3 (pduN s.C q.n) (fun j=>.int .u8 ((pduZ s.C s.next.toNat q.n (nf q.z) j:Nat):Int))
    rw[HNN2.out,HZZ.out]
    exact(KX5.out.row HR3.out (Nat.le_refl _) (fun a e _ h=>by have:=(HFA.out a e).1;have:=TU.out.win _ h;omega)).more KX5.out.size
   ·first
     | (show TxI _ g ({ s.tick t with Q:=r,next:=s.next+1,P:=if s.C.ac=true then s.P++[⟨s.next,q.n,q.z,false⟩] else s.P }:TS) W4 R1;rw[if_neg HAC.out])
     | show TxI _ g ({ s.tick t with Q:=r,next:=s.next+1,P:=s.P }:TS) W4 R1
    rw[←HS1.out,HNXX.out,←HP1.out]
    exact⟨_,_,_,_,_,_,_,_,TX5.out⟩
   ·exact HKB.out.trans KX5.out HWW.out
   ·intro a e
    have:=(HFA.out a e).1
    obtain⟨cur,ty,hu⟩:=(HFA.out a e).2.2
    exact⟨by omega,fun h=>by have:=TU.out.win _ (HW4.out _ h);omega,fun h=>by have:=TU.out.rin _ h;omega,cur,ty,(KX5.out.block _ (HFA.out a e).2.1 (fun h=>by have:=TU.out.win _ h;omega)).trans hu⟩
 ·have hm1:0 < m:=by omega
  obtain⟨p0,hp0⟩:∃p0,lp[0]? = some p0:=⟨lp[0]'(by rw[←HM.out];exact hm1),List.getElem?_eq_getElem _⟩
  have hfl0:¬2048≤(nx-p0.v.ct) % 18446744073709551616:=fun hc=>by
   have hfu:=HFU.out
   unfold TS.full at hfu
   rw[←HP1.out,←HPV.out,←HN1.out,←HX.out]at hfu
   cases lp with
   | nil=>cases hp0
   | cons x l=>
    have:x=p0:=by simpa using hp0
    subst this
    exact hfu (by simpa using hc)
  have hfl:decide (2048≤IntKind.u64.wrap (nx-p0.v.ct))=false:=decide_eq_false (by
   rw[show IntKind.u64.wrap (nx-p0.v.ct)=(nx-p0.v.ct) % 18446744073709551616 from rfl]
   exact hfl0)
  obtain⟨b,o,hpA,hbl,d0,d1,d2⟩:=T2.out.pcell hp0
  subst hpA
  rw[Nat.zero_mul,Nat.add_zero]at d0
  obtain⟨y,hy⟩:∃y,y=p0.v.ct:=⟨_,rfl⟩
  have hyr:=T2.out.pr p0.v (by rw[←T2.out.pv];exact List.mem_map_of_mem (List.mem_of_getElem? hp0))
  rw[←hy]at d0 hyr hfl
  have m0:(0:Int) < (m:Int):=by omega
  have dm:decide ((0:Int) < (m:Int))=true:=decide_eq_true m0
  clear hy hp0 d1 d2 hfl0
  go_upto_region 16 with (fail)
  go_quiet (fail)
  go_upto_region 18 with (fail)
  refine wp_let (fun V=>TxM V g s1 W1 R1 qA qc lq (some ⟨b,o,none⟩) pc lp ub cb∧Below w2.heap.size w2 V) ⟨T2.out.below (below_drewN (Below.refl _ _) _),below_drewN (Below.refl _ _) _⟩ ?_
  rintro V ⟨v1,v2⟩
  have TV:=zh v1
  have BV:=zh v2
  clear v1 v2 cn cq cp d0
  have cn:=TV.out.cnext
  have cq:=TV.out.cq
  rw[←HNQ.out]at cq
  rw[←HX.out]at cn
  obtain⟨e0,he0⟩:∃e0,lq[0]? = some e0:=⟨lq[0]'(by rw[←HNQ.out];exact hnq1),List.getElem?_eq_getElem _⟩
  obtain⟨b2,o2,hqA,hb2,k0,k1⟩:=TV.out.qcell he0
  subst hqA
  rw[Nat.zero_mul,Nat.add_zero]at k0
  have HE0:=zh he0
  have PK:=zh (TV.out.qe e0 (List.mem_of_getElem? he0))
  obtain⟨PA,hPA⟩:∃PA,PA=e0.A:=⟨_,rfl⟩
  obtain⟨pn,hpn⟩:∃pn,pn=e0.v.n:=⟨_,rfl⟩
  obtain⟨pz,hpz⟩:∃pz,pz=e0.v.z:=⟨_,rfl⟩
  obtain⟨pcc,hpcc⟩:∃pcc,pcc=e0.c:=⟨_,rfl⟩
  have HPA:=zh hPA
  have HPN:=zh hpn
  have HPZ:=zh hpz
  have HPC:=zh hpcc
  rw[←hPA,←hpn,←hpz,←hpcc]at PK
  rw[←hPA,←hpn,←hpcc]at k0
  have HEQ:Hid (e0.v=q∧(lq.drop 1).map (·.v)=r):=zh (by
   have hh:=T2.out.qv
   rw[HS1.out,HQ0.out]at hh
   cases lq with
   | nil=>cases hh
   | cons x l=>
    have:x=e0:=by simpa using HE0.out
    subst this
    injection hh with h1 h2
    exact⟨h1,h2⟩)
  obtain⟨N,hN⟩:∃N:Nat,N=nx.toNat:=⟨_,rfl⟩
  have HNN:Hid (nx=(N:Int)):=zh (by rw[hN];omega)
  have HNL:Hid (N < 4294967296):=zh (by rw[hN];omega)
  have HNT:=zh hN
  have hnn:=HNN.out
  have hnl:=HNL.out
  subst hnn
  have n32:(N:Int) % 4294967296=(N:Int):=by omega
  clear he0 hPA hpn hpz hpcc k1 hN
  go_quiet (fail)
  go_upto_region 19 with (fail)
  refine wp_let (fun V2=>TxM V2 g s1 W1 R1 (some ⟨b2,o2,none⟩) qc lq (some ⟨b,o,none⟩) pc lp ub cb∧Below w2.heap.size w2 V2) ⟨TV.out.below (below_drewN (Below.refl _ _) _),BV.out.trans (below_drewN (Below.refl _ _) _)⟩ ?_
  rintro V2 ⟨v1,v2⟩
  have TU:=zh v1
  have BU:=zh v2
  clear v1 v2 cn cq k0
  have hUs:V.heap.size≤V2.heap.size∨True:=.inr trivial
  have PU:=zh (TU.out.qe e0 (List.mem_of_getElem? HE0.out))
  rw[←HPA.out,←HPN.out,←HPZ.out,←HPC.out]at PU
  have HBU:=zh (HBD.out s1 W1 R1 V2 HC1.out ⟨_,_,_,_,_,_,_,_,TU.out⟩ N HNL.out PA pn pcc pz PU.out.pos PU.out.max PU.out.row PU.out.byte)
  clear hUs
  go_upto_region 20 with (go_at_call 42;refine(HBU.out).mono ?_;rintro e w3 ⟨A3,c3,rfl,hc3,hF3,hR3,hB3⟩;have HC3:=zh hc3;have HF3:=zh hF3;have HR3:=zh hR3;have HB3:=zh hB3;clear hc3 hF3 hR3 hB3)
  have T3:=zh (TU.out.below HB3.out)
  have cq:=T3.out.cq
  rw[←HNQ.out]at cq
  have f42:=T3.out.blk.frozen 42
  have hqm:=T3.out.q.cmax
  have hqle:=T3.out.q.le
  rw[←HNQ.out]at hqle
  unfold maxLen at hqm
  have q2:(1:Int)≤(lqn:Int):=by omega
  have q3:(lqn:Int)≤(qc:Int):=by omega
  have q4:(qc:Int)≤9223372036854775807:=by omega
  obtain⟨QA,hQA⟩:∃QA:Option Addr,QA=if qc=1 then some ⟨b2,o2,none⟩ else some ⟨b2,o2+2,none⟩:=⟨_,rfl⟩
  have HQAB:=zh (show ∀a,QA=some a→a.block=b2 from fun a ha=>by rw[hQA]at ha;split at ha<;>(cases ha;rfl))
  have hdl:(lq.drop 1).length=lqn-1:=by rw[List.length_drop,←HNQ.out]
  have S4:SL w3 71 2 QA (lq.drop 1).length (qc-1) ((lq.drop 1).flatMap WE.cells):=by
   have hh:=T3.out.q.drop 1 (by rw[←HNQ.out];exact hnq1)
   rw[drop_flatW,Nat.one_mul,←hQA,←HNQ.out,←hdl]at hh
   exact hh
  obtain⟨W4,hW4⟩:∃W4:Nat→Prop,W4=fun k=>W1 k∨∃a,QA=some a∧k=a.block:=⟨_,rfl⟩
  have HW4:=zh (show ∀k,W4 k→W1 k from fun k hk=>by
   rw[hW4]at hk
   rcases hk with hk | ⟨a,ha,e⟩
   ·exact hk
   ·rw[e,HQAB.out a ha];exact T3.out.wq _ rfl)
  have T4:=T3.out.setQ (lq':=lq.drop 1) (qA':=QA) (qc':=qc-1) (w1:=w3) KeepF.refl (fun a ha=>.inl ⟨_,rfl,HQAB.out a ha⟩) S4 (fun e he=>T3.out.qe e (List.mem_of_mem_drop he))
  rw[hdl,HEQ.out.2,←hW4]at T4
  have kg:KeepF W1 w3 (w3.setCell ⟨g,42,none⟩ (.slice QA (lqn-1) (qc-1))):=KeepF.refl.setCell (p:=⟨g,42,none⟩) T3.out.wg _
  have PK3:=zh (T3.out.qe e0 (List.mem_of_getElem? HE0.out))
  rw[←HPA.out,←HPN.out,←HPZ.out,←HPC.out]at PK3
  go_upto_region 23 with (fail)
  rw[←hQA]
  refine wp_let (fun X=>TxM X g { s1 with Q:=r } W4 R1 QA (qc-1) (lq.drop 1) (some ⟨b,o,none⟩) pc lp ub cb∧KeepF W1 w3 X) ⟨T4,kg⟩ ?_
  rintro X4 ⟨x1,x2⟩
  have TX4:=zh x1
  have KX4:=zh x2
  clear x1 x2 T4 kg S4 hQA hW4 hdl cq f42 hqm q3 q4
  have c41:=TX4.out.cnext
  rw[show({ s1 with Q:=r }:TS).next=s1.next from rfl,←HX.out]at c41
  have f41:=TX4.out.blk.frozen 41
  have T5:=TX4.out.setNext ((N:Int)+1) (by omega)
  have kg:KeepF W1 w3 (X4.setCell ⟨g,41,none⟩ (.int .u64 ((N:Int)+1))):=KX4.out.setCell (p:=⟨g,41,none⟩) T3.out.wg _
  go_upto_region 24 with (fail)
  refine wp_let (fun X=>TxM X g { s1 with Q:=r,next:=(N:Int)+1 } W4 R1 QA (qc-1) (lq.drop 1) (some ⟨b,o,none⟩) pc lp ub cb∧KeepF W1 w3 X) ⟨T5,kg⟩ ?_
  rintro X5 ⟨x1,x2⟩
  have TX5:=zh x1
  have KX5:=zh x2
  clear x1 x2 T5 kg c41 f41
  have hs0:w.heap.size≤w1.heap.size:=HK1.out.size
  have hs1:w1.heap.size≤w2.heap.size:=E2.out.size
  have hs2:w2.heap.size≤V2.heap.size:=BU.out.size
  have hs3:V2.heap.size≤w3.heap.size:=HB3.out.size
  have HFA:=zh (show ∀a,A3=some a→V2.heap.size≤a.block∧a.block < w3.heap.size∧∃cur t,w3.heap[a.block]? = some (.cells cur t (0,0))from fun a e=>⟨(HF3.out a e).1,row_lt HR3.out (by unfold pduN;omega) e,(HF3.out a e).2⟩)
  have HKB:=zh (show KeepF W w w3 from (HK1.out.trans (KeepF.of_below (F:=W1) (E2.out.trans ((BU.out.trans (HB3.out.mono hs2)).mono hs1))) (fun k hk h=>by
    rcases HW1.out k h with h | h
    ·exact h
    ·omega)))
  have HWW:=zh (show ∀k,k < w.heap.size→W1 k→W k from fun k hk h=>by
   rcases HW1.out k h with h | h
   ·exact h
   ·omega)
  have hN:pduN s.C q.n=pduN s.C pn:=by rw[HPN.out,HEQ.out.1]
  have hZ:pduZ s.C s.next.toNat q.n (nf q.z)=pduZ s.C N pn (nf pz):=by rw[HPN.out,HPZ.out,HEQ.out.1,←HN1.out,←HX.out,Int.toNat_natCast]
  have hNX:s.next=(N:Int):=by rw[←HN1.out,HX.out]
  have HNN2:=zh hN
  have HZZ:=zh hZ
  have HNXX:=zh hNX
  clear hN hZ hNX
  have c36:X5.cell? ⟨g,36,none⟩=some (.bool s.C.ac):=(TX5.out.cC (j:=36) (by decide)).trans (by rw[show({ s1 with Q:=r,next:=(N:Int)+1 }:TS).C=s1.C from rfl,HC1.out];rfl)
  by_cases hac:s.C.ac=true
  ·rw[hac]at c36
   have HAC:=zh hac
   clear hac
   have cp5:=TX5.out.cp
   rw[←HM.out]at cp5
   obtain⟨ip,hip,hipz,hips,hipb⟩:=infoPend
   obtain⟨X6,hX6⟩:∃X6,X6=X5.alloc (.cells #[.int .u32 (N:Int),.slice PA pn pcc,.bool false] 69):=⟨_,rfl⟩
   have hb6:Below X5.heap.size X5 X6:=by rw[hX6];exact(Below.refl _ _).alloc (Nat.le_refl _) _
   have HX6:=zh hX6
   have TX6:=zh (TX5.out.below hb6)
   have hNB:Blk X6 X5.heap.size 69 #[.int .u32 (N:Int),.slice PA pn pcc,.bool false]:=by rw[hX6];exact Blk.new _ _ _
   have HSRC:Hid (Src Tryz.prog 3 64 (.slice (some ⟨X5.heap.size,0,none⟩) 1 1) 1 [.int .u32 (N:Int),.slice PA pn pcc,.bool false] X6):=zh (Src.ofSlice _ Tryz.underlying64 ⟨X5.heap.size,0,none⟩ 1 1 _ rfl (fun j u hu=>by
    have hj:j < 3:=(List.getElem?_eq_some_iff.1 hu).1
    rw[Addr.add_lit,Nat.zero_add,hNB.cell j]
    simpa using hu) (by simp[Value.oneCell']))
   have HSL6:Hid (SL X6 69 3 (some ⟨b,o,none⟩) m pc (lp.flatMap PE.cells)):=zh (by rw[HM.out];exact TX6.out.p)
   have HM6:Hid (m≤1000000):=zh (by rw[HM.out];have hh:=congrArg List.length T1.out.pv;rw[List.length_map,HP1.out]at hh;rw[hh];exact HPL.out)
   clear hNB hX6
   go_wp2_with (rw[←HX6.out];refine wpList_sl_append rfl _ _ _ _ rfl X6 69 ip (.agg #[.int .u32 0,.slice none 0 0,.bool false]) 3 40 Tryz.underlying64 hip hipz hips hipb rfl (some ⟨b,o,none⟩) m pc (lp.flatMap PE.cells) rfl HSL6.out _ rfl 1 [.int .u32 (N:Int),.slice PA pn pcc,.bool false] HSRC.out (by decide) (by have:=HM6.out;unfold maxLen;omega) (by have:=HM6.out;omega) ?_;intro A9 c9 wA hSL9 hK9 hA9;have HSL9:=zh hSL9;have HK9:=zh hK9;have HA9:=zh hA9;have hg9:=(hK9.blk TX6.out.blk (fun⟨a,ha,e⟩=>TX6.out.gp a ha e)).cell 43;have hf9:=(hK9.blk TX6.out.blk (fun⟨a,ha,e⟩=>TX6.out.gp a ha e)).frozen 43;rw[tArr_high s1.C.arr_size 4]at hg9;simp at hg9;clear hSL9 hK9 hA9)
   go_ret3
   obtain⟨pe,hpe⟩:∃pe:PE,pe=⟨⟨(N:Int),pn,pz,false⟩,PA,pcc⟩:=⟨_,rfl⟩
   have hlen9:(lp++[pe]).length=m+1:=by rw[List.length_append,←HM.out];rfl
   have hW1X:∀k,W1 k→k < w3.heap.size:=T3.out.win
   have hX5:w3.heap.size≤X5.heap.size:=KX5.out.size
   have hX6s:X5.heap.size≤X6.heap.size:=hb6.size
   have hS9:SL wA 69 3 A9 (lp++[pe]).length c9 ((lp++[pe]).flatMap PE.cells):=by
    rw[hlen9,List.flatMap_append,hpe]
    exact HSL9.out
   have hpk:∀e,e∈lp++[pe]→Pkt wA R1 e.A e.v.n e.c e.v.z:=fun e he=>by
    have hx:Pkt X6 R1 e.A e.v.n e.c e.v.z:=by
     rcases List.mem_append.1 he with he | he
     ·exact TX6.out.pe e he
     ·have:e=pe:=by simpa using he
      rw[this,hpe]
      exact(PK3.out.keep KX5.out (fun k hw hr=>T3.out.dis k hw hr)).keep (KeepF.of_below (F:=fun _=>False) hb6) (fun k hf=>hf.elim)
    exact hx.keep HK9.out (fun j ⟨a,ha,e2⟩ hr=>TX6.out.dis j (by rw[e2];exact TX6.out.wp a ha) hr)
   have TF:=TX6.out.setP (lp':=lp++[pe]) HK9.out HA9.out hS9 hpk (fun e he=>by
    rcases List.mem_append.1 he with he | he
    ·exact TX6.out.pr e.v (by rw[←TX6.out.pv];exact List.mem_map_of_mem he)
    ·have:e=pe:=by simpa using he
     rw[this,hpe]
     exact⟨Int.natCast_nonneg _,by show(N:Int) < 4294967296;omega⟩)
   rw[hlen9]at TF
   have hK:KeepF W1 w3 (wA.setCell ⟨g,43,none⟩ (.slice A9 (m+1) c9)):=((KX5.out.more hb6).trans (HK9.out.mono (G:=fun k=>W1 k∨X6.heap.size≤k) (fun k ⟨a,ha,e⟩=>.inl (by rw[e];exact T3.out.wp a ha))) (fun k hk h=>by
    rcases h with h | h
    ·exact h
    ·omega)).setCell (p:=⟨g,43,none⟩) T3.out.wg _
   have hW9:∀k,(W4 k∨∃a,A9=some a∧k=a.block)→W1 k∨X6.heap.size≤k:=fun k hk=>by
    rcases hk with hk | ⟨a,ha,e⟩
    ·exact .inl (HW4.out k hk)
    ·rcases HA9.out a ha with ⟨a',ha',e'⟩ | hge
     ·exact .inl (by rw[e,e'];exact T3.out.wp a' ha')
     ·exact .inr (by omega)
   refine⟨A3,c3,(fun k=>W4 k∨∃a,A9=some a∧k=a.block),R1,?_,?_,?_,?_,fun k hk=>?_,HR1.out,?_,?_⟩
   ·show _=Ending.returned (.tuple #[.slice A3 (pduN s.C q.n) c3,.int .u32 s.next,.int .i64 0])
    rw[HNN2.out,HNXX.out]
    rfl
   ·show pduN s.C q.n≤c3
    rw[HNN2.out]
    exact HC3.out
   ·show Row _ _ A3 (pduN s.C q.n) (fun j=>.int .u8 ((pduZ s.C s.next.toNat q.n (nf q.z) j:Nat):Int))
    rw[HNN2.out,HZZ.out]
    exact(hK.row HR3.out (Nat.le_refl _) (fun a e _ h=>by have:=(HFA.out a e).1;have:=TU.out.win _ h;omega)).more hK.size
   ·first
     | (show TxI _ g ({ s.tick t with Q:=r,next:=s.next+1,P:=if s.C.ac=true then s.P++[⟨s.next,q.n,q.z,false⟩] else s.P }:TS) _ R1;rw[if_pos HAC.out])
     | show TxI _ g ({ s.tick t with Q:=r,next:=s.next+1,P:=s.P++[⟨s.next,q.n,q.z,false⟩] }:TS) _ R1
    rw[←HS1.out,HNXX.out,←HP1.out,show(⟨(N:Int),q.n,q.z,false⟩:PV)=pe.v from by rw[hpe,HPN.out,HPZ.out,HEQ.out.1],←T1.out.pv]
    rw[List.map_append]at TF
    exact⟨_,_,_,_,_,_,_,_,TF⟩
   ·rcases hW9 k hk with h | h
    ·exact HW1.out k h
    ·exact .inr (by omega)
   ·exact HKB.out.trans hK HWW.out
   ·intro a e
    have h1:=(HFA.out a e).1
    have h2:=(HFA.out a e).2.1
    obtain⟨cur,ty,hu⟩:=(HFA.out a e).2.2
    refine⟨by omega,fun h=>?_,fun h=>by have:=TU.out.rin _ h;omega,cur,ty,(hK.block _ h2 (fun h=>by have:=TU.out.win _ h;omega)).trans hu⟩
    rcases hW9 _ h with h | h
    ·have:=TU.out.win _ h;omega
    ·omega
  ·have hac2:s.C.ac=false:=by simpa using hac
   rw[hac2]at c36
   have HAC:=zh hac
   clear hac hac2
   go_wp2
   go_ret3
   refine⟨A3,c3,W4,R1,?_,?_,?_,?_,fun k hk=>HW1.out k (HW4.out k hk),HR1.out,?_,?_⟩
   ·show _=Ending.returned (.tuple #[.slice A3 (pduN s.C q.n) c3,.int .u32 s.next,.int .i64 0])
    rw[HNN2.out,HNXX.out]
    rfl
   ·show pduN s.C q.n≤c3
    rw[HNN2.out]
    exact HC3.out
   ·show Row _ _ A3 (pduN s.C q.n) (fun j=>.int .u8 ((pduZ s.C s.next.toNat q.n (nf q.z) j:Nat):Int))
    rw[HNN2.out,HZZ.out]
    exact(KX5.out.row HR3.out (Nat.le_refl _) (fun a e _ h=>by have:=(HFA.out a e).1;have:=TU.out.win _ h;omega)).more KX5.out.size
   ·first
     | (show TxI _ g ({ s.tick t with Q:=r,next:=s.next+1,P:=if s.C.ac=true then s.P++[⟨s.next,q.n,q.z,false⟩] else s.P }:TS) W4 R1;rw[if_neg HAC.out])
     | show TxI _ g ({ s.tick t with Q:=r,next:=s.next+1,P:=s.P }:TS) W4 R1
    rw[←HS1.out,HNXX.out,←HP1.out]
    exact⟨_,_,_,_,_,_,_,_,TX5.out⟩
   ·exact HKB.out.trans KX5.out HWW.out
   ·intro a e
    have:=(HFA.out a e).1
    obtain⟨cur,ty,hu⟩:=(HFA.out a e).2.2
    exact⟨by omega,fun h=>by have:=TU.out.win _ (HW4.out _ h);omega,fun h=>by have:=TU.out.rin _ h;omega,cur,ty,(KX5.out.block _ (HFA.out a e).2.1 (fun h=>by have:=TU.out.win _ h;omega)).trans hu⟩
theorem tNext_ok (g:Nat) (s:TS) (W R:Nat→Prop) (w:World) (h:TxI w g s W R) (hf:s.Fine) (t:Int) (ht1:-9223372036854775808≤t) (ht2:t≤9223372036854775807) (hb:Builds g s.C) (hpl:s.P.length≤1000000) :
  Calls Tryz.prog 16 #[.pointer (some ⟨g,0,none⟩),.int .i64 t] w (NxO W R w g (s.send t)):=by
 by_cases ct:1073741824≤t
 ·exact tnext_late g s W R w h hf t ht1 ht2 ct
 cases hrep:firstRep s.P with
 | some x=>exact tnext_rep g s W R w h hf t ht1 ht2 ct hb x.1 x.2 hrep
 | none=>
  cases hq:(s.tick t).Q with
  | nil=>exact tnext_none g s W R w h hf t ht1 ht2 ct hrep hq
  | cons q r=>
   by_cases hnx:s.next=4294967296
   ·exact tnext_used g s W R w h hf t ht1 ht2 ct hrep q r hq hnx
   ·by_cases hfu:s.full=true
    ·exact tnext_full g s W R w h hf t ht1 ht2 ct hrep q r hq hnx hfu
    ·exact tnext_new g s W R w h hf t ht1 ht2 ct hb hpl hrep q r hq hnx hfu
end Go.Proofs.YtjanmleoomoedaaGreat
namespace Go.Proofs.YtjanmleoomoedaaGreat
open Go.RowKit
set_option linter.unusedVariables false
attribute [local go_sem ↓] Go.wp_at_zero Go.wp_at_succ
theorem Cnts.empty (w:World):Cnts w none 0 (fun _=>0) (fun _=>none) (fun _=>0) (fun _=>0) (fun _ _=>0):=
 ⟨fun h=>absurd rfl h,fun k hk=>absurd hk (by omega),fun k hk=>absurd hk (by omega),fun k hk=>absurd hk (by omega),fun k hk=>absurd hk (by omega),fun k hk=>absurd hk (by omega)⟩
theorem BRows.empty (w:World):BRows w none 0 (fun _=>none) (fun _=>0) (fun _=>0) (fun _ _=>0):=
 ⟨fun h=>absurd rfl h,fun k hk=>absurd hk (by omega),fun k hk=>absurd hk (by omega),fun k hk=>absurd hk (by omega),fun k hk=>absurd hk (by omega)⟩
theorem FOk.empty (ac:Bool):FOk ac 0 false 0 (fun _=>0) (fun _=>0) 0 (fun _=>0):=
 ⟨fun h=>absurd h (by decide),fun h=>absurd h (by omega),fun k hk=>absurd hk (by omega),fun h=>absurd h (by omega),fun k hk=>absurd hk (by omega)⟩
def newS (cf:Cfg):TS:=⟨cf,0,0,[],[],[kArr cf.key],cNew⟩
theorem newS_fine {cf:Cfg} (hok:cf.Ok) (hv:cf.Valid):(newS cf).Fine:=⟨hok,hv,fun q hq=>by cases hq⟩
def TxNewO (w w':World) (g:Nat) (s:TS):Prop:=∃W R,TxI w' g s W R∧(∀k,W k→w.heap.size≤k)∧(∀k,R k→w.heap.size≤k)∧Below w.heap.size w w'
set_option maxRecDepth 100000 in
set_option maxHeartbeats 1600000 in
theorem tNew_ok (cf:Cfg) (hv:cf.Valid) (w:World) :
  Calls Tryz.prog 14 #[.agg cf.arr] w fun e w'=>∃g,e=.returned (.tuple #[.pointer (some ⟨g,0,none⟩),.int .i64 0])∧TxNewO w w' g (newS cf):=by
 have HR:=zh (fun V:World=>tresume_ok cf none none 0 0 0 0 0 false (fun _=>0) (fun _=>none) (fun _=>0) (fun _=>0) (fun _ _=>0) (fun _=>none) (fun _=>0) (fun _=>0) (fun _ _=>0) V (by decide) (by omega) (by omega) (Cnts.empty V) (BRows.empty V) hv (FOk.empty cf.ac))
 have HS:Hid ((Tryz.prog.info? 25).map (·.size)=some cf.arr.size):=zh (by rw[cf.arr_size];exact infoPd)
 obtain⟨Z,hZ⟩:∃Z,Z=cf.arr:=⟨_,rfl⟩
 rw[←hZ]at HS HR ⊢
 have HU:=zh Tryz.underlying25
 clear hZ
 go_enter Tryz.func14,Tryz.ntmps14
 go_upto_region 1 with (fail)
 refine wp_let (fun W=>Blk W w.heap.size 25 Z∧Below w.heap.size w W) ⟨Blk.new _ _ _,(Below.refl _ w).alloc (Nat.le_refl _) _⟩ ?_
 rintro W1 ⟨b1,b2⟩
 have B1:=zh b1
 have B2:=zh b2
 clear b1 b2
 go_wp2_with (first
  | (refine wpList_load_row rfl _ _ rfl w.heap.size rfl 25 Z (0,0) _ B1.out HU.out rfl HS.out ?_)
  | (go_at_call 8;refine(HR.out _).mono ?_;rintro e w2 ⟨g,W,R,rfl,hI,hW,hR,hB⟩;have HI:=zh hI;have HW:=zh hW;have HRR:=zh hR;have HB:=zh hB;clear hI hW hR hB))
 go_ret2
 have hs:=B2.out.size
 exact⟨g,rfl,W,R,HI.out,fun k hk=>Nat.le_trans hs (HW.out k hk),fun k hk=>Nat.le_trans hs (HRR.out k hk),B2.out.trans (HB.out.mono hs)⟩
theorem firstP_no (p:Nat→Bool) (n:Nat) (hno:∀j,j < n→p j=false):firstP p 0 n = -1:=by
 rcases firstP_cases p n with ⟨i,hi,_,hp,_⟩ | ⟨h,_⟩
 ·rw[hno i hi]at hp;cases hp
 ·exact h
set_option maxRecDepth 100000 in
set_option maxHeartbeats 1600000 in
theorem tconfirm_no (g:Nat) (s:TS) (W R:Nat→Prop) (w:World) (h:TxI w g s W R) (x:Int) (hno:∀e,e∈s.P→e.ct ≠ x) :
  Calls Tryz.prog 17 #[.pointer (some ⟨g,0,none⟩),.int .u32 x] w fun e w'=>e=.returned (.int .i64 10)∧Below w.heap.size w w':=by
 have HM:=zh (fun(V:World) (hb:Below w.heap.size w V)=>tmade_ok g s W R V (h.below hb))
 obtain⟨qA,qc,lq,pA,pc,lp,ub,cb,hT⟩:=h
 have HT:=zh hT
 have HF0:=zh (firstP_no (isCt lp x) lp.length (fun j hj=>by
  unfold isCt
  rw[List.getElem?_eq_getElem hj]
  have:=hno lp[j].v (by rw[←hT.pv];exact List.mem_map_of_mem (List.getElem_mem hj))
  simpa using this))
 have hcm:=hT.p.cmax
 unfold maxLen at hcm
 have hle:=hT.p.le
 obtain⟨n,hn⟩:∃n,n=lp.length:=⟨_,rfl⟩
 have HN:=zh hn
 have hgl:=hT.blk.lt
 rw[←hn]at hle HF0
 clear hT hno hn
 go_enter Tryz.func17,Tryz.ntmps17
 go_upto_region 1 with (fail)
 refine wp_let (fun V=>V.cell? ⟨w.heap.size,0,none⟩=some (.int .u32 x)∧Below w.heap.size w V∧w.heap.size < V.heap.size) ⟨(Blk.new _ _ _).cell 0,(Below.refl _ w).alloc (Nat.le_refl _) _,by simp⟩ ?_
 rintro W1 ⟨b1,b2,b3⟩
 obtain⟨xb,hxb⟩:∃xb,xb=w.heap.size:=⟨_,rfl⟩
 have B2:=zh b2
 have T1:=zh (HT.out.below b2)
 have HI:=zh (pindex_ok pA lp.length pc lp rfl x xb W1 T1.out.p (by rw[hxb];exact b1) (by omega))
 rw[←HN.out]at HI
 have c1:=T1.out.cp
 rw[←HN.out]at c1
 rw[←hxb]
 rw[HF0.out]at HI
 clear b1 b2 hxb
 go_wp2_with (first
  | (go_at_call 43;refine(HM.out _ B2.out).mono ?_;rintro e w2 ⟨rfl,rfl⟩)
  | (go_at_call 40;refine(HI.out).mono ?_;rintro e w3 ⟨rfl,hB⟩;have E2:=zh hB;clear hB))
 go_ret
 exact⟨rfl,B2.out.trans (E2.out.mono B2.out.size)⟩
end Go.Proofs.YtjanmleoomoedaaGreat
namespace Go.Proofs.YtjanmleoomoedaaGreat
open Go.RowKit
set_option linter.unusedVariables false
attribute [local go_sem ↓] Go.wp_at_zero Go.wp_at_succ
theorem nxo_txo {W R:Nat→Prop} {w w':World} {g:Nat} {r:NX} {e:Ending} (h:NxO W R w g r e w'):∃A c,e=.returned (.tuple #[.slice A r.n c,.int .u32 r.ct,.int .i64 r.e])∧TxO W R w w' g r.s:=by
 obtain⟨A,c,W',R',h1,h2,h3,h4,h5,h6,h7,h8⟩:=h
 exact⟨A,c,h1,W',R',h4,h5,h6,h7⟩
def Sep (W R W2 R2:Nat→Prop):Prop:=(∀k,W k→¬W2 k∧¬R2 k)∧(∀k,W2 k→¬W k∧¬R k)
theorem Sep.symm {W R W2 R2:Nat→Prop} (h:Sep W R W2 R2):Sep W2 R2 W R:=⟨h.2,h.1⟩
theorem Sep.step {W R W' R' W2 R2:Nat→Prop} {n:Nat} (h:Sep W R W2 R2) (hW:∀k,W' k→W k∨n≤k) (hR:∀k,R' k→R k∨n≤k) (h2:∀k,W2 k→k < n) (h3:∀k,R2 k→k < n):Sep W' R' W2 R2:=by
 refine⟨fun k hk=>?_,fun k hk=>⟨fun hw=>?_,fun hr=>?_⟩⟩
 ·rcases hW k hk with hk | hk
  ·exact h.1 k hk
  ·exact⟨fun h=>by have:=h2 k h;omega,fun h=>by have:=h3 k h;omega⟩
 ·rcases hW k hw with hw | hw
  ·exact(h.2 k hk).1 hw
  ·have:=h2 k hk;omega
 ·rcases hR k hr with hr | hr
  ·exact(h.2 k hk).2 hr
  ·have:=h2 k hk;omega
theorem TxI.win {w:World} {g:Nat} {s:TS} {W R:Nat→Prop} (h:TxI w g s W R):∀k,W k→k < w.heap.size:=by
 obtain⟨qA,qc,lq,pA,pc,lp,ub,cb,h⟩:=h
 exact h.win
theorem TxI.rin {w:World} {g:Nat} {s:TS} {W R:Nat→Prop} (h:TxI w g s W R):∀k,R k→k < w.heap.size:=by
 obtain⟨qA,qc,lq,pA,pc,lp,ub,cb,h⟩:=h
 exact h.rin
def Tri (w0 w:World) (g1:Nat) (s1:TS) (g2:Nat) (s2:TS) (g3:Nat) (s3:TS) (N:Nat→Prop):Prop:=
 ∃W1 R1 W2 R2 W3 R3,TxI w g1 s1 W1 R1∧TxI w g2 s2 W2 R2∧TxI w g3 s3 W3 R3∧Sep W1 R1 W2 R2∧Sep W1 R1 W3 R3∧Sep W2 R2 W3 R3∧(∀k,N k→k < w.heap.size∧¬W1 k∧¬W2 k∧¬W3 k)∧(∀k,W1 k∨W2 k∨W3 k→w0.heap.size≤k)∧Below w0.heap.size w0 w
section
variable {w0 w w':World} {g1 g2 g3:Nat} {s1 s2 s3:TS} {N:Nat→Prop}
theorem Tri.rot (h:Tri w0 w g1 s1 g2 s2 g3 s3 N):Tri w0 w g2 s2 g3 s3 g1 s1 N:=by
 obtain⟨W1,R1,W2,R2,W3,R3,h1,h2,h3,h12,h13,h23,hN,hB,hb⟩:=h
 refine⟨W2,R2,W3,R3,W1,R1,h2,h3,h1,h23,h12.symm,h13.symm,fun k hk=>⟨(hN k hk).1,(hN k hk).2.2.1,(hN k hk).2.2.2,(hN k hk).2.1⟩,fun k hk=>hB k ?_,hb⟩
 rcases hk with h | h | h
 ·exact .inr (.inl h)
 ·exact .inr (.inr h)
 ·exact .inl h
theorem Tri.swap (h:Tri w0 w g1 s1 g2 s2 g3 s3 N):Tri w0 w g1 s1 g3 s3 g2 s2 N:=by
 obtain⟨W1,R1,W2,R2,W3,R3,h1,h2,h3,h12,h13,h23,hN,hB,hb⟩:=h
 refine⟨W1,R1,W3,R3,W2,R2,h1,h3,h2,h13,h12,h23.symm,fun k hk=>⟨(hN k hk).1,(hN k hk).2.1,(hN k hk).2.2.2,(hN k hk).2.2.1⟩,fun k hk=>hB k ?_,hb⟩
 rcases hk with h | h | h
 ·exact .inl h
 ·exact .inr (.inr h)
 ·exact .inr (.inl h)
theorem Tri.low (h:Tri w0 w g1 s1 g2 s2 g3 s3 N):Below w0.heap.size w0 w:=by
 obtain⟨W1,R1,W2,R2,W3,R3,h1,h2,h3,h12,h13,h23,hN,hB,hb⟩:=h
 exact hb
theorem Tri.below (h:Tri w0 w g1 s1 g2 s2 g3 s3 N) (hb:Below w.heap.size w w'):Tri w0 w' g1 s1 g2 s2 g3 s3 N:=by
 obtain⟨W1,R1,W2,R2,W3,R3,h1,h2,h3,h12,h13,h23,hN,hB,hb0⟩:=h
 exact⟨W1,R1,W2,R2,W3,R3,h1.below hb,h2.below hb,h3.below hb,h12,h13,h23,fun k hk=>⟨Nat.lt_of_lt_of_le (hN k hk).1 hb.size,(hN k hk).2⟩,hB,hb0.trans (hb.mono hb0.size)⟩
theorem tri_new {w1 w2:World} (h1:TxNewO w0 w1 g1 s1) (h2:TxNewO w1 w2 g2 s2) (h3:TxNewO w2 w g3 s3):Tri w0 w g1 s1 g2 s2 g3 s3 (fun _=>False):=by
 obtain⟨W1,R1,i1,a1,b1,c1⟩:=h1
 obtain⟨W2,R2,i2,a2,b2,c2⟩:=h2
 obtain⟨W3,R3,i3,a3,b3,c3⟩:=h3
 have s1:=c1.size
 have s2:=c2.size
 have s3:=c3.size
 have j1:=i1.win
 have j1':=i1.rin
 have j2:=i2.win
 have j2':=i2.rin
 refine⟨W1,R1,W2,R2,W3,R3,(i1.below c2).below c3,i2.below c3,i3,⟨fun k hk=>⟨fun h=>?_,fun h=>?_⟩,fun k hk=>⟨fun h=>?_,fun h=>?_⟩⟩,⟨fun k hk=>⟨fun h=>?_,fun h=>?_⟩,fun k hk=>⟨fun h=>?_,fun h=>?_⟩⟩,⟨fun k hk=>⟨fun h=>?_,fun h=>?_⟩,fun k hk=>⟨fun h=>?_,fun h=>?_⟩⟩,fun k hk=>hk.elim,fun k hk=>?_,c1.trans ((c2.trans (c3.mono s2)).mono s1)⟩
 ·have:=j1 k hk;have:=a2 k h;omega
 ·have:=j1 k hk;have:=b2 k h;omega
 ·have:=j1 k h;have:=a2 k hk;omega
 ·have:=j1' k h;have:=a2 k hk;omega
 ·have:=j1 k hk;have:=a3 k h;omega
 ·have:=j1 k hk;have:=b3 k h;omega
 ·have:=j1 k h;have:=a3 k hk;omega
 ·have:=j1' k h;have:=a3 k hk;omega
 ·have:=j2 k hk;have:=a3 k h;omega
 ·have:=j2 k hk;have:=b3 k h;omega
 ·have:=j2 k h;have:=a3 k hk;omega
 ·have:=j2' k h;have:=a3 k hk;omega
 ·rcases hk with h | h | h
  ·exact a1 k h
  ·have:=a2 k h;omega
  ·have:=a3 k h;omega
theorem Tri.call (h:Tri w0 w g1 s1 g2 s2 g3 s3 N):∃W R,TxI w g1 s1 W R∧(∀w' s,TxO W R w w' g1 s→Tri w0 w' g1 s g2 s2 g3 s3 N∧∀k,N k→w'.heap[k]? = w.heap[k]?)∧
  (∀w' r e,NxO W R w g1 r e w'→∃A c,e=.returned (.tuple #[.slice A r.n c,.int .u32 r.ct,.int .i64 r.e])∧r.n≤c∧Row w' w'.heap.size A r.n (fun j=>.int .u8 ((r.z j:Nat):Int))∧Tri w0 w' g1 r.s g2 s2 g3 s3 (fun k=>r.n ≠ 0∧∃a,A=some a∧k=a.block)):=by
 obtain⟨W1,R1,W2,R2,W3,R3,h1,h2,h3,h12,h13,h23,hN,hB,hb⟩:=h
 have hs:=hb.size
 have low:∀{W':Nat→Prop},(∀k,W' k→W1 k∨w.heap.size≤k)→∀k,W' k∨W2 k∨W3 k→w0.heap.size≤k:=fun hW k hk=>by
  rcases hk with h | h | h
  ·rcases hW k h with h | h
   ·exact hB k (.inl h)
   ·omega
  ·exact hB k (.inr (.inl h))
  ·exact hB k (.inr (.inr h))
 refine⟨W1,R1,h1,fun w' s hO=>?_,fun w' r e hO=>?_⟩
 ·obtain⟨W',R',hI,hW,hR,hK⟩:=hO
  exact⟨⟨W',R',W2,R2,W3,R3,hI,h2.keepF hK h12.1,h3.keepF hK h13.1,h12.step hW hR h2.win h2.rin,h13.step hW hR h3.win h3.rin,h23,fun k hk=>⟨Nat.lt_of_lt_of_le (hN k hk).1 hK.size,fun hw=>by
    rcases hW k hw with hw | hw
    ·exact(hN k hk).2.1 hw
    ·have:=(hN k hk).1;omega,(hN k hk).2.2⟩,low hW,KeepF.below hb hK (fun k hk=>hB k (.inl hk)) hs⟩,fun k hk=>hK.block k (hN k hk).1 (hN k hk).2.1⟩
 ·obtain⟨A,c,W',R',h1',h2',h3',hI,hW,hR,hK,hA⟩:=hO
  refine⟨A,c,h1',h2',h3',W',R',W2,R2,W3,R3,hI,h2.keepF hK h12.1,h3.keepF hK h13.1,h12.step hW hR h2.win h2.rin,h13.step hW hR h3.win h3.rin,h23,fun k ⟨hn,a,ha,e⟩=>?_,low hW,KeepF.below hb hK (fun k hk=>hB k (.inl hk)) hs⟩
  subst e
  have:=hA a ha
  refine⟨row_lt h3' (by omega) ha,this.2.1,fun hw=>?_,fun hw=>?_⟩
  ·have:=h2.win _ hw;omega
  ·have:=h3.win _ hw;omega
end
def abz:Nat→Int:=fun j=>if j=0 then 97 else 98
def qS (cf:Cfg):TS:={ newS cf with Q:=[⟨2,abz,0⟩] }
theorem qS_fine {cf:Cfg} (hok:cf.Ok) (hv:cf.Valid):(qS cf).Fine:=⟨hok,hv,fun q hq=>by
 have:q=⟨2,abz,0⟩:=by simpa[qS]using hq
 rw[this]
 exact⟨Int.le_refl _,Int.le_refl _⟩⟩
theorem sub_eq (cf:Cfg):(newS cf).submit 0 2 abz=(0,qS cf):=by
 unfold TS.submit
 rw[if_neg (by decide),if_neg (by decide),if_neg (by decide)]
 rfl
theorem subAB (cf:Cfg) (hok:cf.Ok) (hv:cf.Valid) (hcm:cf.cm=false) (g:Nat) (W R:Nat→Prop) (V:World) (h:TxI V g (newS cf) W R) (fr:Nat×Nat) :
  Calls Tryz.prog 15 #[.pointer (some ⟨g,0,none⟩),.int .i64 0,.slice (some ⟨V.heap.size,0,none⟩) 2 2] (V.alloc (.cells #[.int .u8 97,.int .u8 98] 5 fr)) fun e w'=>e=.returned (.int .i64 0)∧TxO W R V w' g (qS cf):=by
 have hb:Below V.heap.size V (V.alloc (.cells #[.int .u8 97,.int .u8 98] 5 fr)):=(Below.refl _ _).alloc (Nat.le_refl _) _
 refine(tsubmit_ok g (newS cf) W R _ (h.below hb) (newS_fine hok hv) hcm (Nat.zero_le _) 0 (by decide) (by decide) (some ⟨V.heap.size,0,none⟩) 2 2 abz ⟨fun _=>⟨_,_,rfl,by simp,fun j hj=>?_⟩,fun j hj=>?_,fun a ha _ hw=>?_⟩ (by decide)).mono ?_
 ·rw[Nat.zero_add,World.cell?_alloc_mark]
  rcases (by omega:j=0∨j=1)with rfl | rfl<;>rfl
 ·unfold abz;split<;>decide
 ·cases ha
  have:=h.win _ hw
  exact absurd this (Nat.lt_irrefl _)
 ·rintro e w' ⟨he,hO⟩
  rw[sub_eq]at he hO
  exact⟨he,TxO.comp (fun _ h=>.inl h) (fun _ h=>.inl h) (KeepF.of_below hb) hO⟩
def cf5:Cfg:={ Cfg.zero with ds:=5 }
theorem cf0_lit:Cfg.zero.arr=#[.int .i64 0,.int .i64 0,.int .u8 0,.int .u8 0,.int .u8 0,.int .u8 0,.int .u8 0,.int .u8 0,.int .u8 0,.int .u8 0,.int .u8 0,.int .u8 0,.int .u8 0,.int .u8 0,.int .u8 0,.int .u8 0,.int .u8 0,.int .u8 0,.int .u8 0,.int .u8 0,.int .u8 0,.int .u8 0,.int .u8 0,.int .u8 0,.int .u8 0,.int .u8 0,.int .u8 0,.int .u8 0,.int .u8 0,.int .u8 0,.int .u8 0,.int .u8 0,.int .u8 0,.int .u8 0,.bool false,.bool false,.bool false,.int .i64 0,.int .i64 0]:=by kernel_rfl
theorem cf5_lit:cf5.arr=#[.int .i64 0,.int .i64 0,.int .u8 0,.int .u8 0,.int .u8 0,.int .u8 0,.int .u8 0,.int .u8 0,.int .u8 0,.int .u8 0,.int .u8 0,.int .u8 0,.int .u8 0,.int .u8 0,.int .u8 0,.int .u8 0,.int .u8 0,.int .u8 0,.int .u8 0,.int .u8 0,.int .u8 0,.int .u8 0,.int .u8 0,.int .u8 0,.int .u8 0,.int .u8 0,.int .u8 0,.int .u8 0,.int .u8 0,.int .u8 0,.int .u8 0,.int .u8 0,.int .u8 0,.int .u8 0,.bool false,.bool false,.bool false,.int .i64 5,.int .i64 0]:=by kernel_rfl
theorem cf0_ok:Cfg.zero.Ok:=⟨fun _ _=>⟨Int.le_refl 0,by show(0:Int) < 256;decide⟩,fun _ _=>⟨Int.le_refl 0,by show(0:Int) < 256;decide⟩⟩
theorem cf5_ok:cf5.Ok:=⟨fun _ _=>⟨Int.le_refl 0,by show(0:Int) < 256;decide⟩,fun _ _=>⟨Int.le_refl 0,by show(0:Int) < 256;decide⟩⟩
theorem cf0_valid:Cfg.zero.Valid:=by unfold Cfg.zero Cfg.Valid;decide
theorem cf5_valid:cf5.Valid:=by unfold cf5 Cfg.zero Cfg.Valid;decide
def tS:TS:={ newS Cfg.zero with next:=1 }
theorem tS_fine:tS.Fine:=⟨cf0_ok,cf0_valid,fun q hq=>by cases hq⟩
theorem send_t1:(qS Cfg.zero).send 0=⟨4,pduZ Cfg.zero 0 2 (nf abz),0,0,tS⟩:=by
 unfold TS.send
 rw[if_neg (by decide)]
 rfl
theorem send_t2:tS.send 0=⟨0,zB,0,10,tS⟩:=by
 unfold TS.send
 rw[if_neg (by decide)]
 rfl
def cS:TS:={ newS cf5 with now:=4,next:=1 }
def dS:TS:={ newS cf5 with now:=5 }
theorem send_c:(qS cf5).send 4=⟨4,pduZ cf5 0 2 (nf abz),0,0,cS⟩:=by
 unfold TS.send
 rw[if_neg (by decide)]
 rfl
theorem send_d:(qS cf5).send 5=⟨0,zB,0,10,dS⟩:=by
 unfold TS.send
 rw[if_neg (by decide)]
 rfl
end Go.Proofs.YtjanmleoomoedaaGreat
namespace Go.Proofs.YtjanmleoomoedaaGreat
open Go.RowKit
set_option linter.unusedVariables false
attribute [local go_sem ↓] Go.wp_at_zero Go.wp_at_succ
set_option maxRecDepth 100000 in
set_option maxHeartbeats 3200000 in
theorem known45_true (w:World):Calls Tryz.prog 7 #[] w fun e w'=>e=.returned (.bool true)∧Below w.heap.size w w':=by
 have HN0:=zh (fun V=>tNew_ok Cfg.zero cf0_valid V)
 have HN5:=zh (fun V=>tNew_ok cf5 cf5_valid V)
 rw[cf0_lit]at HN0
 rw[cf5_lit]at HN5
 have kc:=fun(w:World) (C:Array Value) (n c:Nat)=>Lib.run_convert_bytes_const (P:=Tryz.prog) w 46 5 C n c Tryz.underlying46 Tryz.underlying5
 go_enter Tryz.func7,Tryz.ntmps7
 go_upto_region 2 with (go_at_call 14;with_reducible refine(HN0.out _).mono ?_;rintro e w1 ⟨gt,rfl,hO⟩;have O1:=zh hO;clear hO)
 go_upto_region 3 with (go_at_call 14;with_reducible refine(HN5.out _).mono ?_;rintro e w2 ⟨gd,rfl,hO⟩;have O2:=zh hO;clear hO)
 go_upto_region 4 with (go_at_call 14;with_reducible refine(HN5.out _).mono ?_;rintro e w3 ⟨gc,rfl,hO⟩;have O3:=zh hO;clear hO)
 have T3:=(tri_new O1.out O2.out O3.out).swap
 clear O1 O2 O3
 obtain⟨Wa,Ra,ia,ca,_⟩:=T3.call
 have CA:=zh ca
 have SA:=zh (subAB Cfg.zero cf0_ok cf0_valid rfl gt Wa Ra w3 ia)
 clear T3 ca ia
 go_upto_region 6 with (first
  | (go_at_call 15;with_reducible refine(SC.out _).mono ?_;rintro e w6 ⟨rfl,hO⟩;have T6:=zh ((CC.out w6 _ hO).1.rot);clear hO)
  | (go_at_call 15;with_reducible refine(SB.out _).mono ?_;rintro e w5 ⟨rfl,hO⟩;obtain⟨Wc,Rc,ic,cc,_⟩:=((CB.out w5 _ hO).1.rot).call;have CC:=zh cc;have SC:=zh (subAB cf5 cf5_ok cf5_valid rfl gd Wc Rc w5 ic);clear hO ic cc)
  | (go_at_call 15;with_reducible refine(SA.out _).mono ?_;rintro e w4 ⟨rfl,hO⟩;obtain⟨Wb,Rb,ib,cb,_⟩:=((CA.out w4 _ hO).1.rot).call;have CB:=zh cb;have SB:=zh (subAB cf5 cf5_ok cf5_valid rfl gc Wb Rb w4 ib);clear hO ib cb))
 obtain⟨W6,R6,i6,_,c6⟩:=T6.out.call
 have C6:=zh c6
 have H7:=zh (tNext_ok gt (qS Cfg.zero) W6 R6 w6 i6 (qS_fine cf0_ok cf0_valid) 0 (by decide) (by decide) (builds_plain gt Cfg.zero cf0_ok cf0_valid rfl rfl) (Nat.zero_le _))
 rw[send_t1]at H7
 clear c6 i6
 go_upto_region 7 with (go_at_call 16;with_reducible refine(H7.out).mono ?_;rintro e w7 hO;obtain⟨A,c,he,hc,hR,hT⟩:=C6.out w7 _ _ hO;dsimp only at he hc hR hT;subst he;have HR7:=zh hR;have T7:=zh hT;have hc4:(4:Int)≤(c:Int):=(by omega);clear hO hR hT)
 obtain⟨b,o,hA,hbl,hcl⟩:=HR7.out (by decide)
 subst hA
 have y0:w7.cell? ⟨b,o+0,none⟩=some (.int .u8 128):=(hcl 0 (by decide)).trans (show some (Value.int .u8 ((pduZ Cfg.zero 0 2 (nf abz) 0:Nat):Int))=some (.int .u8 128)from rfl)
 have y1:w7.cell? ⟨b,o+1,none⟩=some (.int .u8 0):=(hcl 1 (by decide)).trans (show some (Value.int .u8 ((pduZ Cfg.zero 0 2 (nf abz) 1:Nat):Int))=some (.int .u8 0)from rfl)
 have Y0:=zh y0
 have Y1:=zh y1
 clear hcl y0 y1
 obtain⟨N,hN⟩:∃N:Nat→Prop,N=fun k=>(4:Nat) ≠ 0∧∃a,(some ⟨b,o,none⟩:Option Addr)=some a∧k=a.block:=⟨_,rfl⟩
 have HNB:Hid (N b):=zh (by rw[hN];exact⟨by decide,_,rfl,rfl⟩)
 rw[←hN]at T7
 clear hN
 obtain⟨W7,R7,i7,c7,_⟩:=T7.out.call
 have C7:=zh c7
 have H8:=zh (tNext_ok gt tS W7 R7 w7 i7 tS_fine 0 (by decide) (by decide) (builds_plain gt Cfg.zero cf0_ok cf0_valid rfl rfl) (Nat.zero_le _))
 rw[send_t2]at H8
 clear c7 i7
 go_upto_region 8 with (go_at_call 16;with_reducible refine(H8.out).mono ?_;rintro e w8 hO;obtain⟨A,c2,he,hX⟩:=nxo_txo hO;dsimp only at he hX;subst he;have T8:=zh (C7.out w8 _ hX).1;have K8:=zh ((C7.out w8 _ hX).2 b HNB.out);clear hO hX)
 obtain⟨W8,R8,i8,_,_⟩:=T8.out.call
 have H9:=zh (tconfirm_no gt tS W8 R8 w8 i8 0 (fun e he=>by cases he))
 clear i8
 go_upto_region 9 with (go_at_call 17;with_reducible refine(H9.out).mono ?_;rintro e w9 ⟨rfl,hB⟩;have T9:=zh ((T8.out.below hB).rot);have B9:=zh hB;clear hB)
 have K9:Hid (w9.heap[b]? = w7.heap[b]?):=zh ((B9.out.block b (by
  obtain⟨_,_,_,_,_,_,_,_,_,_,_,_,hN,_⟩:=T8.out
  exact(hN b HNB.out).1)).trans K8.out)
 obtain⟨W9,R9,i9,c9,_⟩:=T9.out.call
 have C9:=zh c9
 have H10:=zh (tNext_ok gc (qS cf5) W9 R9 w9 i9 (qS_fine cf5_ok cf5_valid) 4 (by decide) (by decide) (builds_plain gc cf5 cf5_ok cf5_valid rfl rfl) (Nat.zero_le _))
 rw[send_c]at H10
 clear c9 i9
 go_upto_region 10 with (go_at_call 16;with_reducible refine(H10.out).mono ?_;rintro e w10 hO;obtain⟨A3,c3,he,hX⟩:=nxo_txo hO;dsimp only at he hX;subst he;have T10:=zh (C9.out w10 _ hX).1.rot;have K10:=zh (((C9.out w10 _ hX).2 b HNB.out).trans K9.out);clear hO hX)
 obtain⟨W10,R10,i10,c10,_⟩:=T10.out.call
 have C10:=zh c10
 have H11:=zh (tNext_ok gd (qS cf5) W10 R10 w10 i10 (qS_fine cf5_ok cf5_valid) 5 (by decide) (by decide) (builds_plain gd cf5 cf5_ok cf5_valid rfl rfl) (Nat.zero_le _))
 rw[send_d]at H11
 clear c10 i10
 go_upto_region 11 with (go_at_call 16;with_reducible refine(H11.out).mono ?_;rintro e w11 hO;obtain⟨A4,c4,he,hX⟩:=nxo_txo hO;dsimp only at he hX;subst he;have T11:=zh (C10.out w11 _ hX).1.rot;have K11:=zh (((C10.out w11 _ hX).2 b HNB.out).trans K10.out);clear hO hX)
 have z0:=(World.cell?_of_block (a:=⟨b,o+0,none⟩) K11.out).trans Y0.out
 have z1:=(World.cell?_of_block (a:=⟨b,o+1,none⟩) K11.out).trans Y1.out
 rw[Nat.add_zero]at z0
 go_wp2
 go_ret
 exact⟨rfl,T11.out.low⟩
end Go.Proofs.YtjanmleoomoedaaGreat
