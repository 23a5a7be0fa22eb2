import Derived.Test.YtbfpdnnphdagjaaGreatSEy
import Derived.Test.YtbfpdnnphdagjaaGreatMZAy
import Derived.Test.YtbfpdnnphdagjaaGreatMZMy
import Derived.Test.YtbfpdnnphdagjaaGreatMSDy
import Derived.Test.YtbfpdnnphdagjaaGreatTAy
set_option linter.unusedVariables false
set_option linter.unusedSimpArgs false
namespace Go.Proofs.YtbfpdnnphdagjaaGreat
open Go.RowKit
section
variable (pn:Nat->Nat) (z:Nat->Nat->Int)
def lU (Rp:Nat->Bool) (k:Nat):PV:=⟨(k:Int),pn k,z k,Rp k⟩
def AH (k:Nat):QV:=⟨pn k,z k,0⟩
end
structure DT (cf:ax) (pn:Nat->Nat) (z:Nat->Nat->Int) (N q:Nat) (Pd Rp:Nat->Bool) (s:TS):Prop where
 C:s.C=cf
 now:s.now=0
 Q:s.Q=(List.range' N q).map (AH pn z)
 next:s.next=(N:Int)
 P:s.P=((List.range N).filter Pd).map (lU pn z Rp)
 fine:s.Fine
def r5 (N q:Nat) (Pd Rp:Nat->Bool) (j:Nat):Bool:=(decide (j < N) && Pd j && Rp j) || (decide (N<=j) && decide (j < N+q))
def jL (T:Nat->Bool) (m:Nat):Nat:=((List.range m).filter T).length
theorem yR (T:Nat->Bool) (m:Nat):jL T m<=m:=by
 unfold jL
 exact a9 (List.length_filter_le _ _) (by rw[List.length_range];exact Nat.le_refl _)
theorem gH (T:Nat->Bool) (m:Nat):jL T (m+1)=jL T m+(if T m=true then 1 else 0):=by
 unfold jL;rw[List.range_succ,List.filter_append,List.length_append];congr 1;by_cases h:T m=true
 ·rw[if_pos h];simp[h]
 ·rw[if_neg h];simp[h]
theorem lK {T T':Nat->Bool}:∀{m:Nat},(∀j,j < m->T j=T' j)->jL T m=jL T' m
 | 0,_=>rfl
 | m+1,h=>by rw[gH,gH,lK (fun j hj=>h j (by omega)),h m (by omega)]
theorem g6 {T T':Nat->Bool} {k:Nat}:∀{m:Nat},k < m->T k=true->(∀j,T' j=(T j && !decide (j=k)))->jL T' m+1=jL T m
 | 0,h,_,_=>by omega
 | m+1,h,hk,ht=>by
  rw[gH,gH];by_cases e:k=m
  ·subst e;have h1:jL T' k=jL T k:=lK (fun j hj=>by rw[ht];have h9:¬j=k:=(by omega);simp[h9]);rw[h1,ht,hk];simp
  ·have h1:=g6 (m:=m) (T:=T) (T':=T') (by omega) hk ht;have h2:T' m=T m:=by rw[ht];have h9:¬m=k:=(by omega);simp[h9]
   rw[h2];omega
section
variable {pn:Nat->Nat} {z:Nat->Nat->Int} {Rp:Nat->Bool}
theorem mh:∀(l:List Nat),((∀k,k∈l->Rp k=false)/\aR (l.map (lU pn z Rp))=none)\/∃i k,l[i]? = some k/\Rp k=true/\aR (l.map (lU pn z Rp))=some (i,lU pn z Rp k)
 | []=>.inl ⟨fun k hk=>(by cases hk),rfl⟩
 | a :: r=>by
  by_cases h:Rp a=true
  ·refine .inr ⟨0,a,rfl,h,?_⟩;rw[List.map_cons];unfold aR;rw[if_pos (show(lU pn z Rp a).rep=true from h)]
  ·have hn:aR ((a :: r).map (lU pn z Rp))=(aR (r.map (lU pn z Rp))).map fun x=>(x.1+1,x.2):=by
    rw[List.map_cons]
    conv=>lhs;unfold aR
    rw[if_neg (show ¬(lU pn z Rp a).rep=true from h)]
   rcases mh r with ⟨h1,h2⟩ | ⟨i,k,h1,h2,h3⟩
   ·refine .inl ⟨fun k hk=>?_,by rw[hn,h2];rfl⟩;rcases List.mem_cons.1 hk with rfl | hk
    ·simpa using h
    ·exact h1 k hk
   ·exact .inr ⟨i+1,k,by simpa using h1,h2,by rw[hn,h3];rfl⟩
theorem yC {l:List Nat} (hl:l.Pairwise (· < ·)) {i k:Nat} (hi:l[i]? = some k):(l.map (lU pn z Rp)).set i { lU pn z Rp k with rep:=false }=l.map (lU pn z (fun j=>Rp j && !decide (j=k))):=by
 apply List.ext_getElem?;intro j;have hil:i < l.length:=(List.getElem?_eq_some_iff.1 hi).1;rw[List.getElem?_set];by_cases e:i=j
 ·subst e;rw[if_pos rfl,if_pos (by rw[List.length_map];exact hil),List.getElem?_map,hi];show some _=some _;unfold lU;simp
 ·rw[if_neg e,List.getElem?_map,List.getElem?_map]
  cases hj:l[j]? with
  | none=>rfl
  | some x=>
   have hjl:j < l.length:=(List.getElem?_eq_some_iff.1 hj).1;have hx:x ≠ k:=by
    have h1:=List.pairwise_iff_getElem.1 hl;rw[List.getElem?_eq_getElem hil]at hi;rw[List.getElem?_eq_getElem hjl]at hj;have h2:=Option.some.inj hi;have h3:=Option.some.inj hj;rcases Nat.lt_or_gt_of_ne e with h | h
    ·have:=h1 i j hil hjl h;omega
    ·have:=h1 j i hjl hil h;omega
   show some _=some _;unfold lU;simp[hx]
end
section
variable {cf:ax} {pn:Nat->Nat} {z:Nat->Nat->Int} {N q:Nat} {Pd Rp:Nat->Bool} {s:TS}
theorem i5 (N:Nat) (Pd:Nat->Bool):((List.range N).filter Pd).Pairwise (· < ·):=List.Pairwise.filter _ List.pairwise_lt_range
theorem zU (hok:cf.Ok) (hv:cf.Valid):DT cf pn z 0 0 (fun _=>false) (fun _=>false) (gm cf):=⟨rfl,rfl,rfl,rfl,rfl,tA hok hv⟩
theorem DT.plen (h:DT cf pn z N q Pd Rp s):s.P.length<=N:=by
 rw[h.P,List.length_map]
 exact a9 (List.length_filter_le _ _) (by rw[List.length_range];exact Nat.le_refl _)
theorem DT.qlen (h:DT cf pn z N q Pd Rp s):s.Q.length=q:=by rw[h.Q,List.length_map,List.length_range']
theorem DT.submit (h:DT cf pn z N q Pd Rp s) (hds:cf.ds=0) (h1:1<=pn (N+q)) (h9:pn (N+q)<=9000):∃s',s.submit 0 (pn (N+q)) (z (N+q))=(0,s')/\DT cf pn z N (q+1) Pd Rp s':=by
 have hf:=h.fine.submit (by rw[h.now];exact Int.le_refl _) 0 (pn (N+q)) (z (N+q));have e:s.submit 0 (pn (N+q)) (z (N+q))=(0,{ s with now:=max s.now 0,Q:=s.Q++[⟨pn (N+q),z (N+q),max s.now 0⟩] }):=by
  unfold TS.submit;rw[if_neg (by decide),if_neg (by omega),if_neg (by omega),TS.tick_zero (by rw[h.C];exact hds)]
 rw[e]at hf;have h0:max s.now 0=0:=by rw[h.now];rfl
 refine⟨_,e,h.C,h0,?_,h.next,h.P,hf⟩;show s.Q++_=_;rw[h.Q,h0,List.range'_1_concat,List.map_append]
 rfl
theorem DT.send (h:DT cf pn z N q Pd Rp s) (hac:cf.ac=true) (hds:cf.ds=0) (hN:N+q<=1000) :
  ((∀j,r5 N q Pd Rp j=false)/\∃s',s.send 0=⟨0,zB,0,10,s'⟩/\DT cf pn z N q Pd Rp s')\/
  ∃k s' N' q' Pd' Rp',s.send 0=⟨bi cf (pn k),bG cf k (pn k) (nf (z k)),(k:Int),0,s'⟩/\DT cf pn z N' q' Pd' Rp' s'/\N'+q'=N+q/\N<=N'/\k < N'/\r5 N q Pd Rp k=true/\(∀j,r5 N' q' Pd' Rp' j=(r5 N q Pd Rp j && !decide (j=k)))/\(∀j,j < N->Pd' j=Pd j)/\(∀j,N<=j->j < N'->Pd' j=true):=by
 have hf:=h.fine.send 0;have h0:max s.now 0=0:=by rw[h.now];rfl
 have htick:s.tick 0={ s with now:=max s.now 0 }:=TS.tick_zero (by rw[h.C];exact hds) 0;have hT:(s.tick 0).Q=s.Q:=by rw[htick]
 rcases mh (pn:=pn) (z:=z) (Rp:=Rp) ((List.range N).filter Pd)with ⟨h1,h2⟩ | ⟨i,k,h1,h2,h3⟩
 ·rw[<-h.P]at h2;have hrp:∀j,j < N->Pd j=true->Rp j=false:=fun j hj hp=>h1 j (List.mem_filter.2 ⟨List.mem_range.2 hj,hp⟩)
  cases q with
  | zero=>
   have e:s.send 0=⟨0,zB,0,10,s.tick 0⟩:=by
    unfold TS.send;rw[if_neg (by decide),h2];simp only;rw[hT,h.Q]
    rfl
   rw[e]at hf;refine .inl ⟨fun j=>?_,s.tick 0,e,?_⟩
   ·unfold r5;by_cases hj:j < N
    ·cases hp:Pd j
     ·simp<;>omega
     ·simp[hrp j hj hp]<;>omega
    ·simp[hj]<;>omega
   ·rw[htick]at hf ⊢
    exact⟨h.C,h0,h.Q,h.next,h.P,hf⟩
  | succ q=>
   have hnx:¬s.next=4294967296:=by rw[h.next];omega
   have hfu:s.full=false:=by
    unfold TS.full
    cases hP:s.P with
    | nil=>rfl
    | cons p r=>
     have hp:p∈s.P:=by rw[hP];simp
     rw[h.P,List.mem_map]at hp;obtain⟨j,hj,rfl⟩:=hp;have hj2:=List.mem_range.1 (List.mem_filter.1 hj).1;show decide (2048<=(s.next-(j:Int)) % 18446744073709551616)=false;rw[h.next]
     exact decide_eq_false (by omega)
   have hQ:(s.tick 0).Q=AH pn z N :: (List.range' (N+1) q).map (AH pn z):=by rw[hT,h.Q,List.range'_succ];rfl
   have e:s.send 0=⟨bi s.C (pn N),bG s.C s.next.toNat (pn N) (nf (z N)),s.next,0,{ s.tick 0 with Q:=(List.range' (N+1) q).map (AH pn z),next:=s.next+1,P:=if s.C.ac=true then s.P++[⟨s.next,pn N,z N,false⟩] else s.P }⟩:=by
    unfold TS.send;rw[if_neg (by decide),h2];simp only;rw[hQ];simp only;rw[if_neg hnx,if_neg (by rw[hfu];decide)]
    rfl
   obtain⟨s',hs'⟩:∃s':TS,s'={ s.tick 0 with Q:=(List.range' (N+1) q).map (AH pn z),next:=s.next+1,P:=if s.C.ac=true then s.P++[⟨s.next,pn N,z N,false⟩] else s.P }:=⟨_,rfl⟩
   rw[<-hs']at e;rw[e]at hf;have hf':s'.Fine:=hf;rw[htick]at hs';refine .inr ⟨N,s',N+1,q,fun j=>if j=N then true else Pd j,fun j=>if j=N then false else Rp j,by rw[e,h.next,h.C];rfl,⟨by rw[hs'];exact h.C,by rw[hs'];exact h0,by rw[hs'],?_,?_,hf'⟩,by omega,by omega,by omega,by unfold r5;simp,fun j=>?_,fun j hj=>if_neg (by omega),fun j h1 h2=>if_pos (by omega)⟩
   ·rw[hs'];show s.next+1=((N+1:Nat):Int);rw[h.next];omega
   ·rw[hs'];show(if s.C.ac=true then s.P++[⟨s.next,pn N,z N,false⟩] else s.P)=_;rw[h.C,if_pos hac,List.range_succ,List.filter_append,List.map_append];have e1:((List.range N).filter (fun j=>if j=N then true else Pd j)).map (lU pn z (fun j=>if j=N then false else Rp j))=s.P:=by
     rw[h.P,List.filter_congr (q:=Pd) (fun j hj=>if_neg (by have:=List.mem_range.1 hj;omega))];refine List.map_congr_left (fun j hj=>?_);have hj2:=List.mem_range.1 (List.mem_filter.1 hj).1;unfold lU;simp only[if_neg (show ¬j=N by omega)]
    rw[e1];congr 1;rw[h.next];unfold lU;simp
   ·unfold r5;by_cases hjN:j=N
    ·subst hjN;simp<;>omega
    ·by_cases hj:j < N
     ·have e1:j < N+1:=by omega
      have e2:¬N<=j:=by omega
      have e3:¬N+1<=j:=by omega
      simp[hjN,hj,e1,e2,e3]
     ·have e1:¬j < N+1:=by omega
      have e2:N<=j:=by omega
      have e3:N+1<=j:=by omega
      simp[hjN,hj,e1,e2,e3];omega
 ·have hk:=List.mem_filter.1 (List.mem_of_getElem? h1);have hkN:=List.mem_range.1 hk.1;rw[<-h.P]at h3;have e:s.send 0=⟨bi s.C (pn k),bG s.C k (pn k) (nf (z k)),(k:Int),0,{ s.tick 0 with P:=s.P.set i { lU pn z Rp k with rep:=false } }⟩:=by
   unfold TS.send;rw[if_neg (by decide),h3]
   rfl
  rw[e,htick]at hf;refine .inr ⟨k,_,N,q,Pd,fun j=>Rp j && !decide (j=k),by rw[e,h.C],⟨?_,?_,?_,?_,?_,?_⟩,rfl,Nat.le_refl _,hkN,by unfold r5;simp[hkN,hk.2,h2],fun j=>?_,fun j hj=>rfl,fun j h1 h2=>by omega⟩
  ·rw[htick];exact h.C
  ·rw[htick];exact h0
  ·rw[htick];exact h.Q
  ·rw[htick];exact h.next
  ·show s.P.set i { lU pn z Rp k with rep:=false }=_;rw[h.P]
   exact yC (i5 N Pd) h1
  ·rw[htick];exact hf
  ·unfold r5;by_cases hjk:j=k
   ·subst hjk;have:¬N<=j:=by omega
    simp[this]
   ·simp[hjk]
theorem DT.confirm (h:DT cf pn z N q Pd Rp s) (c:Int->Bool):DT cf pn z N q (fun k=>Pd k && !c (k:Int)) Rp { s with P:=s.P.filter (fun e=>!c e.ct) }:=by
 refine⟨h.C,h.now,h.Q,h.next,?_,⟨h.fine.ok,h.fine.val,h.fine.at_⟩⟩;show s.P.filter (fun e=>!c e.ct)=_;rw[h.P,List.filter_map,List.filter_filter];congr 1;refine List.filter_congr (fun k _=>?_);show(!c (k:Int) && Pd k)=_;rw[Bool.and_comm]
theorem oq {f c:Nat->Int} (hf:∀j,j < 16->0<=f j/\f j < 256) (hc:∀j,j < 16->0<=c j/\c j < 256):(cf.keys f c).Ok:=⟨hf,hc⟩
theorem DT.rekey (h:DT cf pn z N q Pd Rp s) {f c:Nat->Int} (hf:∀j,j < 16->0<=f j/\f j < 256) (hc:∀j,j < 16->0<=c j/\c j < 256):DT (cf.keys f c) pn z N q Pd (fun _=>true) (s.rekeyed f c):=by
 refine⟨by show s.C.keys f c=_;rw[h.C],h.now,h.Q,h.next,?_,⟨oq hf hc,h.fine.val,h.fine.at_⟩⟩;show s.P.map PV.again=_;rw[h.P,List.map_map]
 rfl
end
section
variable (P:Nat->SV)
def cG (S:Nat->Bool):Nat->Nat->Nat
 | _,0=>0
 | a,m+1=>if S a=true then 1+cG S (a+1) m else 0
def lP (S:Nat->Bool) (a m:Nat):List SV:=((List.range' a m).filter S).map P
variable {P}
theorem n5 (hP:∀k,(P k).ct=(k:Int)) {S:Nat->Bool} {a m:Nat} {e:SV} (h:e∈lP P S a m):∃j,a<=j/\j < a+m/\S j=true/\e=P j:=by
 obtain⟨j,hj,rfl⟩:=List.mem_map.1 h;obtain⟨h1,h2⟩:=List.mem_filter.1 hj;rw[List.mem_range'_1]at h1
 exact⟨j,h1.1,h1.2,h2,rfl⟩
theorem sF (S:Nat->Bool):∀m a,cG S a m<=m
 | 0,_=>Nat.le_refl _
 | m+1,a=>by
  unfold cG
  split
  ·have:=sF S m (a+1);omega
  ·omega
theorem sM (S:Nat->Bool):∀m a j,j < cG S a m->S (a+j)=true
 | 0,_,j,h=>by cases h
 | m+1,a,j,h=>by
  unfold cG at h
  split at h
  ·rename_i hs
   cases j with
   | zero=>exact hs
   | succ j=>
    have:=sM S m (a+1) j (by omega)
    rwa [show a+(j+1)=a+1+j by omega]
  ·cases h
theorem qk (S:Nat->Bool):∀m a,cG S a m < m->S (a+cG S a m)=false
 | 0,_,h=>by cases h
 | m+1,a,h=>by
  unfold cG at h ⊢;by_cases hs:S a=true
  ·rw[if_pos hs]at h ⊢;have:=qk S m (a+1) (by omega)
   rwa [show a+(1+cG S (a+1) m)=a+1+cG S (a+1) m by omega]
  ·rw[if_neg hs];simpa using hs
theorem wT {L:List SV} {d:Int} (h:∀e,e∈L->e.ct ≠ d):aU L d=([],L,d):=by
 cases L with
 | nil=>rfl
 | cons e r=>exact y6 e r d (h e (by simp))
theorem nh (hP:∀k,(P k).ct=(k:Int)) (S:Nat->Bool):∀m a,aU (lP P S a m) (a:Int)=((List.range' a (cG S a m)).map P,lP P S (a+cG S a m) (m-cG S a m),((a+cG S a m:Nat):Int))
 | 0,a=>rfl
 | m+1,a=>by
  by_cases hs:S a=true
  ·have hl:lP P S a (m+1)=P a :: lP P S (a+1) m:=by
    unfold lP;rw[List.range'_succ,List.filter_cons,if_pos hs]
    rfl
   have ih:=nh hP S m (a+1);have hr:cG S a (m+1)=1+cG S (a+1) m:=by
    show(if S a=true then _ else _)=_;rw[if_pos hs]
   rw[hl,yD (P a) _ (a:Int) (hP a),hr,show(a:Int)+1=((a+1:Nat):Int) by omega,ih];rw[show 1+cG S (a+1) m=cG S (a+1) m+1 by omega,List.range'_succ,List.map_cons,show a+(cG S (a+1) m+1)=a+1+cG S (a+1) m by omega,show m+1-(cG S (a+1) m+1)=m-cG S (a+1) m by omega]
  ·have hr:cG S a (m+1)=0:=by
    show(if S a=true then _ else _)=_;rw[if_neg hs]
   rw[hr];refine wT (fun e he h=>?_);obtain⟨j,h1,h2,h3,rfl⟩:=n5 hP he;rw[hP]at h;have:j=a:=by omega
   rw[this]at h3
   exact hs h3
theorem xa {x:SV} {l:List SV} (h:∀y,y∈l->x.ct < y.ct):dq x l=x :: l:=by
 cases l with
 | nil=>rfl
 | cons y r=>exact Aq x y r (h y (by simp))
theorem ox (hP:∀k,(P k).ct=(k:Int)) (S:Nat->Bool) (k:Nat) (hk:S k=false):∀m a,a<=k->k < a+m->dq (P k) (lP P S a m)=lP P (fun j=>S j || decide (j=k)) a m
 | 0,a,h1,h2=>by omega
 | m+1,a,h1,h2=>by
  unfold lP;rw[List.range'_succ,List.filter_cons,List.filter_cons];by_cases e:a=k
  ·subst e;rw[if_neg (by rw[hk];decide),if_pos (by simp),List.map_cons];have h3:(List.range' (a+1) m).filter (fun j=>S j || decide (j=a))=(List.range' (a+1) m).filter S:=List.filter_congr (fun j hj=>by
    rw[List.mem_range'_1]at hj;have:¬j=a:=by omega
    simp[this])
   rw[h3];refine xa (fun y hy=>?_);obtain⟨j,h4,_,_,rfl⟩:=n5 (m:=m) (a:=a+1) hP hy;rw[hP,hP];omega
  ·have ih:=ox hP S k hk m (a+1) (by omega) (by omega);unfold lP at ih;by_cases hs:S a=true
   ·rw[if_pos hs,if_pos (by simp[hs]),List.map_cons,List.map_cons,<-ih];show(if (P k).ct < (P a).ct then _ else _)=_;rw[if_neg (by rw[hP,hP];omega)]
   ·rw[if_neg hs,if_neg (by simp[hs,e]),ih]
end
structure BS (cf:ax) (P:Nat->SV) (N:Nat) (S:Nat->Bool) (d:Nat) (s:RS):Prop where
 C:s.C=cf
 run:s.run=false
 deliver:s.deliver=(d:Int)
 le:d<=N
 L:s.L=lP P S d (N-d)
 pre:∀k,k < d->S k=true
 gap:d < N->S d=false
 next:s.next<=(N:Int)
theorem zI (cf:ax) (X:Obj) (P:Nat->SV) (N:Nat):BS cf P N (fun _=>false) 0 (eZ cf X):=
 ⟨rfl,rfl,rfl,Nat.zero_le _,by
  unfold lP;rw[List.filter_eq_nil_iff.2 (fun a _=>(by simp))]
  rfl,fun k h=>(by cases h),fun _=>rfl,(by show(0:Int)<=_;omega)⟩
section
variable {s:RS} {n:Nat} {z:Nat->Nat} {ct:Int}
theorem lO {s:RS} {n:Nat} {z:Nat->Nat} (h:n < s.C.least):s.take n z=(5,false,s):=by unfold RS.take;rw[if_pos h]
theorem mH (h1:¬n < s.C.least) (h:z 0 / 16 ≠ 8):s.take n z=(9,false,s):=by unfold RS.take;rw[if_neg h1,if_pos h]
theorem kS (h1:¬n < s.C.least) (h2:¬z 0 / 16 ≠ 8) (h:bR s.deliver (fI z)=none):s.take n z=(6,false,s):=by unfold RS.take;rw[if_neg h1,if_neg h2,h]
theorem mZ (h1:¬n < s.C.least) (h2:¬z 0 / 16 ≠ 8) (h3:bR s.deliver (fI z)=some ct) (h:16384 < n-2):s.take n z=(4,false,s):=by unfold RS.take;rw[if_neg h1,if_neg h2,h3];simp only;rw[if_pos h]
theorem ld (h1:¬n < s.C.least) (h2:¬z 0 / 16 ≠ 8) (h3:bR s.deliver (fI z)=some ct) (h4:¬16384 < n-2) (h:cj s.C ct.toNat n z=false):s.take n z=(11,false,s):=by unfold RS.take;rw[if_neg h1,if_neg h2,h3];simp only;rw[if_neg h4,if_pos h]
theorem pd (h1:¬n < s.C.least) (h2:¬z 0 / 16 ≠ 8) (h3:bR s.deliver (fI z)=some ct) (h4:¬16384 < n-2) (h5:¬cj s.C ct.toNat n z=false) (h:stored s.L ct=true\/ct < s.deliver):s.take n z=(0,false,{ s with dup:=s.dup+1 }):=by unfold RS.take;rw[if_neg h1,if_neg h2,h3];simp only;rw[if_neg h4,if_neg h5,if_pos h]
theorem mX (h1:¬n < s.C.least) (h2:¬z 0 / 16 ≠ 8) (h3:bR s.deliver (fI z)=some ct) (h4:¬16384 < n-2) (h5:¬cj s.C ct.toNat n z=false) (h6:¬(stored s.L ct=true\/ct < s.deliver)) (h:aT s.C n=0):s.take n z=(5,false,s):=by unfold RS.take;rw[if_neg h1,if_neg h2,h3];simp only;rw[if_neg h4,if_neg h5,if_neg h6,if_pos h]
theorem oH (h1:¬n < s.C.least) (h2:¬z 0 / 16 ≠ 8) (h3:bR s.deliver (fI z)=some ct) (h4:¬16384 < n-2) (h5:¬cj s.C ct.toNat n z=false) (h6:¬(stored s.L ct=true\/ct < s.deliver)) (h7:¬aT s.C n=0) (h:9000 < aT s.C n):s.take n z=(4,false,s):=by unfold RS.take;rw[if_neg h1,if_neg h2,h3];simp only;rw[if_neg h4,if_neg h5,if_neg h6,if_neg h7,if_pos h]
theorem mO (h1:¬n < s.C.least) (h2:¬z 0 / 16 ≠ 8) (h3:bR s.deliver (fI z)=some ct) (h4:¬16384 < n-2) (h5:¬cj s.C ct.toNat n z=false) (h6:¬(stored s.L ct=true\/ct < s.deliver)) (h7:¬aT s.C n=0) (h8:¬9000 < aT s.C n):s.take n z=(0,true,{ s with L:=dq ⟨ct,aT s.C n,fun j=>((eC s.C ct.toNat z j:Nat):Int)⟩ s.L,next:=max s.next (ct+1) }):=by unfold RS.take;rw[if_neg h1,if_neg h2,h3];simp only;rw[if_neg h4,if_neg h5,if_neg h6,if_neg h7,if_neg h8]
end
theorem jr:∀(l:List SV) (d nx:Int),zt l->(∀e,e∈l->d<=e.ct/\e.ct < nx)->d<=nx->(nx=d\/∃e,e∈l/\e.ct=nx-1)->zt (aU l d).2.1/\(∀e,e∈(aU l d).2.1->(aU l d).2.2 < e.ct/\e.ct < nx)/\(aU l d).2.2<=nx/\(nx=(aU l d).2.2\/∃e,e∈(aU l d).2.1/\e.ct=nx-1)/\d<=(aU l d).2.2
 | [],d,nx,_,_,h3,h4=>by
  refine⟨List.Pairwise.nil,fun e he=>by simp[aU]at he,h3,?_,Int.le_refl _⟩;rcases h4 with h | ⟨e,he,_⟩
  ·exact .inl h
  ·simp at he
 | x :: r,d,nx,h1,h2,h3,h4=>by
  have ha:(∀e,e∈r->x.ct < e.ct)/\zt r:=List.pairwise_cons.1 h1;have hx:=h2 x (by simp);unfold aU;by_cases hc:x.ct=d
  ·rw[if_pos hc];have ih:=jr r (d+1) nx ha.2 (fun e he=>⟨by have:=ha.1 e he;omega,(h2 e (by simp[he])).2⟩) (by omega) (by
    rcases h4 with h | ⟨e,he,h⟩
    ·omega
    ·rcases List.mem_cons.1 he with rfl | he
     ·exact .inl (by omega)
     ·exact .inr ⟨e,he,h⟩)
   exact⟨ih.1,ih.2.1,ih.2.2.1,ih.2.2.2.1,by have:=ih.2.2.2.2;simp only;omega⟩
  ·rw[if_neg hc];refine⟨h1,fun e he=>⟨?_,(h2 e he).2⟩,h3,?_,Int.le_refl _⟩
   ·show d < e.ct;rcases List.mem_cons.1 he with rfl | he
    ·omega
    ·have:=ha.1 e he;omega
   ·rcases h4 with h | h
    ·omega
    ·exact .inr h
structure cQ (s:RS):Prop where
 asc:zt s.L
 rng:∀e,e∈s.L->s.deliver < e.ct/\e.ct < s.next
 le:s.deliver<=s.next
 last:s.next=s.deliver\/∃e,e∈s.L/\e.ct=s.next-1
 win:s.next-s.deliver<=2048
theorem mJ {s:RS} (h1:zt s.L) (h2:∀e,e∈s.L->s.deliver<=e.ct/\e.ct < s.next) (h3:s.deliver<=s.next) (h4:s.next=s.deliver\/∃e,e∈s.L/\e.ct=s.next-1) (h5:s.next-s.deliver<=2048):cQ s.deliver_.2:=by
 have h:=jr s.L s.deliver s.next h1 h2 h3 h4
 exact⟨h.1,h.2.1,h.2.2.1,h.2.2.2.1,by show s.next-(aU s.L s.deliver).2.2<=2048;have:=h.2.2.2.2;omega⟩
theorem jZ (s:RS):s.timer.L=s.L/\s.timer.deliver=s.deliver/\s.timer.next=s.next:=by
 unfold RS.timer RS.start RS.stop
 split<;>split<;>exact⟨rfl,rfl,rfl⟩
theorem cQ.same {s s':RS} (h:cQ s) (e:s'.L=s.L/\s'.deliver=s.deliver/\s'.next=s.next):cQ s':=
 ⟨by rw[e.1];exact h.asc,by rw[e.1,e.2.1,e.2.2];exact h.rng,by rw[e.2.1,e.2.2];exact h.le,by rw[e.1,e.2.1,e.2.2];exact h.last,by rw[e.2.1,e.2.2];exact h.win⟩
theorem xD {k:Int} {L:List SV} {e:SV} (h:e∈iG k L):e∈L/\k<=e.ct:=by
 unfold iG at h;rw[List.mem_filter]at h;refine⟨h.1,?_⟩;have:=h.2;simp at this;omega
theorem nE {s:RS} (h:cQ s) (hl:s.run=true->s.deliver<=s.limit) (hn:s.limit<=s.next):cQ s.expire.2:=by
 unfold RS.expire;by_cases h1:s.run=false\/s.now < s.expiry
 ·rw[if_pos h1];exact h
 ·rw[if_neg h1];have hr:s.run=true:=by
   cases hr:s.run
   ·exact absurd (.inl hr) h1
   ·rfl
  have hd:=hl hr;have hm:max s.deliver s.limit=s.limit:=Int.max_eq_right hd;refine cQ.same (s:=s.cut.deliver_.2) (mJ ?_ (fun e he=>?_) ?_ ?_ ?_) (jZ _)
  ·exact List.Pairwise.filter _ h.asc
  ·have h2:=xD (show e∈iG s.limit s.L from he)
   exact⟨by show max s.deliver s.limit<=e.ct;omega,(h.rng e h2.1).2⟩
  ·show max s.deliver s.limit<=s.next;omega
  ·show s.next=max s.deliver s.limit\/∃e,e∈iG s.limit s.L/\e.ct=s.next-1;rcases h.last with h2 | ⟨e,he,h2⟩
   ·exact .inl (by omega)
   ·by_cases h3:e.ct < s.limit
    ·exact .inl (by omega)
    ·exact .inr ⟨e,by unfold iG;rw[List.mem_filter];exact⟨he,by simp;omega⟩,h2⟩
  ·show s.next-max s.deliver s.limit<=2048;have:=h.win;omega
theorem gh (x:SV):∀(l:List SV) (e:SV),e∈dq x l↔e=x\/e∈l
 | [],e=>by simp[dq]
 | y :: r,e=>by
  unfold dq
  split
  ·simp
  ·simp only[List.mem_cons,gh x r e];constructor
   ·rintro (h | h | h)
    ·exact .inr (.inl h)
    ·exact .inl h
    ·exact .inr (.inr h)
   ·rintro (h | h | h)
    ·exact .inr (.inl h)
    ·exact .inl h
    ·exact .inr (.inr h)
theorem oI {x:SV}:∀{l:List SV},zt l->(∀e,e∈l->e.ct ≠ x.ct)->zt (dq x l)
 | [],_,_=>List.pairwise_singleton _ _
 | y :: r,h,hn=>by
  have h1:(∀e,e∈r->y.ct < e.ct)/\zt r:=List.pairwise_cons.1 h;have hy:=hn y (by simp);unfold dq
  split
  ·rename_i hlt;refine List.pairwise_cons.2 ⟨fun e he=>?_,h⟩;rcases List.mem_cons.1 he with rfl | he
   ·exact hlt
   ·exact Int.lt_trans hlt (h1.1 e he)
  ·rename_i hlt;refine List.pairwise_cons.2 ⟨fun e he=>?_,oI h1.2 (fun e he=>hn e (by simp[he]))⟩;rcases (gh x r e).1 he with rfl | he
   ·omega
   ·exact h1.1 e he
theorem yl {d sn ct:Int} (h:bR d sn=some ct) (h0:0<=sn) (h1:sn < 4096):ct<=d+2047:=by
 unfold bR at h;by_cases h2:0<=iN d sn/\iN d sn < 1048576
 ·rw[if_pos h2]at h;have h3:=Option.some.inj h;unfold iN at h3
  split at h3
  ·omega
  ·split at h3<;>omega
 ·rw[if_neg h2]at h
  cases h
theorem rt {s:RS} {n:Nat} {z:Nat->Nat} (h:cQ s) (hz:∀j,j < n->z j < 256) (ht:(s.take n z).2.1=true):cQ (s.take n z).2.2.deliver_.2:=by
 by_cases h1:n < s.C.least
 ·rw[lO h1]at ht;cases ht
 by_cases h2:z 0 / 16 ≠ 8
 ·rw[mH h1 h2]at ht;cases ht
 cases h3:bR s.deliver (fI z) with
 | none=>rw[kS h1 h2 h3]at ht;cases ht
 | some ct=>
  by_cases h4:16384 < n-2
  ·rw[mZ h1 h2 h3 h4]at ht;cases ht
  by_cases h5:cj s.C ct.toNat n z=false
  ·rw[ld h1 h2 h3 h4 h5]at ht;cases ht
  by_cases h6:stored s.L ct=true\/ct < s.deliver
  ·rw[pd h1 h2 h3 h4 h5 h6]at ht;cases ht
  by_cases h7:aT s.C n=0
  ·rw[mX h1 h2 h3 h4 h5 h6 h7]at ht;cases ht
  by_cases h8:9000 < aT s.C n
  ·rw[oH h1 h2 h3 h4 h5 h6 h7 h8]at ht;cases ht
  rw[mO h1 h2 h3 h4 h5 h6 h7 h8];have hn2:2<=n:=by
   have:2<=s.C.least:=by unfold ax.least;split<;>omega
   omega
  have hsn:(0:Int)<=(fI z:Int)/\(fI z:Int) < 4096:=by
   have:=hz 1 (by omega);unfold fI;omega
  have hw:=yl h3 hsn.1 hsn.2;have hno:∀e,e∈s.L->e.ct ≠ ct:=fun e he hc=>h6 (.inl (by
   unfold stored;rw[List.any_eq_true]
   exact⟨e,he,decide_eq_true hc⟩))
  have hge:s.deliver<=ct:=by
   by_cases hlt:ct < s.deliver
   ·exact absurd (.inr hlt) h6
   ·omega
  have hle:=h.le;have hwin:=h.win;refine mJ (s:={ s with L:=dq _ s.L,next:=max s.next (ct+1) }) (oI h.asc hno) (fun e he=>?_) ?_ ?_ ?_
  ·rcases (gh _ s.L e).1 he with rfl | he
   ·show s.deliver<=ct/\ct < max s.next (ct+1);omega
   ·have:=h.rng e he;show s.deliver<=e.ct/\e.ct < max s.next (ct+1);omega
  ·show s.deliver<=max s.next (ct+1);omega
  ·show max s.next (ct+1)=s.deliver\/∃e,e∈dq _ s.L/\e.ct=max s.next (ct+1)-1;by_cases h9:s.next<=ct+1
   ·exact .inr ⟨_,(gh _ s.L _).2 (.inl rfl),by show ct=max s.next (ct+1)-1;omega⟩
   ·rcases h.last with h10 | ⟨e,he,h10⟩
    ·omega
    ·exact .inr ⟨e,(gh _ s.L _).2 (.inr he),by omega⟩
  ·show max s.next (ct+1)-s.deliver<=2048;omega
theorem rn {s:RS} {n:Nat} {z:Nat->Nat} (ht:¬(s.take n z).2.1=true):(s.take n z).2.2.L=s.L/\(s.take n z).2.2.deliver=s.deliver/\(s.take n z).2.2.next=s.next:=by
 by_cases h1:n < s.C.least
 ·rw[lO h1];exact⟨rfl,rfl,rfl⟩
 by_cases h2:z 0 / 16 ≠ 8
 ·rw[mH h1 h2];exact⟨rfl,rfl,rfl⟩
 cases h3:bR s.deliver (fI z) with
 | none=>rw[kS h1 h2 h3];exact⟨rfl,rfl,rfl⟩
 | some ct=>
  by_cases h4:16384 < n-2
  ·rw[mZ h1 h2 h3 h4];exact⟨rfl,rfl,rfl⟩
  by_cases h5:cj s.C ct.toNat n z=false
  ·rw[ld h1 h2 h3 h4 h5];exact⟨rfl,rfl,rfl⟩
  by_cases h6:stored s.L ct=true\/ct < s.deliver
  ·rw[pd h1 h2 h3 h4 h5 h6];exact⟨rfl,rfl,rfl⟩
  by_cases h7:aT s.C n=0
  ·rw[mX h1 h2 h3 h4 h5 h6 h7];exact⟨rfl,rfl,rfl⟩
  by_cases h8:9000 < aT s.C n
  ·rw[oH h1 h2 h3 h4 h5 h6 h7 h8];exact⟨rfl,rfl,rfl⟩
  ·rw[mO h1 h2 h3 h4 h5 h6 h7 h8]at ht;exact absurd rfl ht
theorem ma {s:RS} (h:cQ s) (hl:s.run=true->s.deliver<=s.limit) (hn:s.limit<=s.next) (t:Int) {n:Nat} {z:Nat->Nat} (hz:∀j,j < n->z j < 256):cQ (s.receive t n z).2.2:=by
 unfold RS.receive;by_cases h1:1073741824<=t
 ·rw[if_pos h1];exact h
 ·rw[if_neg h1];have h2:cQ (s.at_ t).expire.2:=nE (s:=s.at_ t) (h.same ⟨rfl,rfl,rfl⟩) hl hn;simp only;generalize (s.at_ t).expire.2=q at h2 ⊢;by_cases h3:(q.take n z).2.1=true
  ·rw[if_pos h3]
   exact(rt h2 hz h3).same (jZ _)
  ·rw[if_neg h3]
   exact h2.same (rn h3)
def yu (pn:Nat->Nat) (z:Nat->Nat->Int) (k:Nat) (v:SV):Prop:=v.ct=(k:Int)/\v.n=pn k/\∀j,j < pn k->v.z j=z k j
theorem tQ {P P':Nat->SV} {S:Nat->Bool} {a m:Nat} (h:∀j,a<=j->j < a+m->S j=true->P j=P' j):lP P S a m=lP P' S a m:=by
 unfold lP;refine List.map_congr_left (fun j hj=>?_);have hm:=List.mem_filter.1 hj;have hr:=List.mem_range'_1.1 hm.1
 exact h j hr.1 hr.2 hm.2
theorem BS.congr {cf:ax} {P P':Nat->SV} {N:Nat} {S:Nat->Bool} {d:Nat} {s:RS} (h:BS cf P N S d s) (hP:∀j,S j=true->P j=P' j):BS cf P' N S d s:=
 ⟨h.C,h.run,h.deliver,h.le,by rw[h.L];exact tQ (fun j _ _ hs=>hP j hs),h.pre,h.gap,h.next⟩
theorem wP {cf:ax} (hok:cf.Ok) (hro:cf.ro=0) {N:Nat} (hN:N<=1000) {P:Nat->SV} (hP:∀k,(P k).ct=(k:Int)) {n:Nat} {zz:Nat->Nat} (h1:1<=n/\n<=9000) (hz:∀j,j < n->zz j < 256) {S:Nat->Bool} {d:Nat} {s:RS} (h:BS cf P N S d s) (k:Nat) (hk:k < N) (hPk:S k=false->P k=AE cf k n zz) :
  ∃d' s',d<=d'/\s.receive 0 (bi cf n) (bG cf k n zz)=((List.range' d (d'-d)).map P,0,s')/\BS cf P N (fun j=>S j || decide (j=k)) d' s'/\s'.dup<=s.dup+1:=by
 have hC:=h.C;have hc:bR s.deliver ((k % 4096:Nat):Int)=some (k:Int):=by
  rw[h.deliver]
  exact ur (by omega) (by have:=h.le;omega) (by omega)
 by_cases hs:S k=true
 ·have hS:(fun j=>S j || decide (j=k))=S:=by
   funext j
   by_cases e:j=k
   ·subst e;simp[hs]
   ·simp[e]
  have hst:stored s.L (k:Int)=true\/(k:Int) < s.deliver:=by
   by_cases hkd:k < d
   ·right;rw[h.deliver];omega
   ·left;rw[h.L];unfold stored;rw[List.any_eq_true];refine⟨_,List.mem_map.2 ⟨k,List.mem_filter.2 ⟨?_,hs⟩,rfl⟩,by simp[hP]⟩;rw[List.mem_range'_1];have:=h.le;omega
  have hr:=om (s:=s) (t:=0) (by omega) h.run (by rw[hC];exact hok) k n zz h1.1 h1.2 hz hc hst;rw[hC]at hr;refine⟨d,{ s.at_ 0 with dup:=s.dup+1 },Nat.le_refl _,?_,?_,Int.le_refl _⟩
  ·rw[hr,Nat.sub_self];rfl
  ·rw[hS]
   exact⟨h.C,h.run,h.deliver,h.le,h.L,h.pre,h.gap,h.next⟩
 ·have hs':S k=false:=by simpa using hs
  have hdk:d<=k:=Nat.le_of_not_lt (fun hlt=>hs (h.pre k hlt));have hst:¬(stored s.L (k:Int)=true\/(k:Int) < s.deliver):=by
   rintro (hh | hh)
   ·refine ue s.L (k:Int) (fun e he=>?_) hh;rw[h.L]at he;obtain⟨j,_,_,h3,rfl⟩:=n5 hP he;intro e2;rw[hP]at e2;have:j=k:=by omega
    rw[this]at h3
    exact hs h3
   ·rw[h.deliver]at hh;omega
  obtain⟨S',hS'⟩:∃S':Nat->Bool,S'=fun j=>S j || decide (j=k):=⟨_,rfl⟩
  have hL':dq (AE s.C k n zz) s.L=lP P S' d (N-d):=by
   rw[hC,h.L,hS',<-hPk hs']
   exact ox (P:=P) hP S k hs' (N-d) d hdk (by omega)
  have hr:=nG (s:=s) (t:=0) (by omega) h.run (by rw[hC];exact hok) k n zz h1.1 h1.2 hz hc hst _ rfl;rw[hC]at hr;rw[<-hC,hL']at hr;rw[hC]at hr;have hf:=nh (P:=P) hP S' (N-d) d;have hrl:=sF S' (N-d) d;have hdl:({ s.at_ 0 with L:=lP P S' d (N-d),next:=max s.next ((k:Int)+1) }:RS).deliver_=((List.range' d (cG S' d (N-d))).map P,{ s.at_ 0 with L:=lP P S' (d+cG S' d (N-d)) (N-d-cG S' d (N-d)),next:=max s.next ((k:Int)+1),deliver:=((d+cG S' d (N-d):Nat):Int) }):=by
   unfold RS.deliver_;show((aU (lP P S' d (N-d)) s.deliver).1,_)=_;rw[show({ s.at_ 0 with L:=lP P S' d (N-d),next:=max s.next ((k:Int)+1) }:RS).deliver=s.deliver from rfl,h.deliver,hf]
  rw[hdl]at hr;simp only at hr;rw[vf (s:={ s.at_ 0 with L:=lP P S' (d+cG S' d (N-d)) (N-d-cG S' d (N-d)),next:=max s.next ((k:Int)+1),deliver:=((d+cG S' d (N-d):Nat):Int) }) h.run (by show s.C.ro=0;rw[hC];exact hro)]at hr;refine⟨d+cG S' d (N-d),_,Nat.le_add_right _ _,by rw[hr,show d+cG S' d (N-d)-d=cG S' d (N-d) by omega],?_,by show s.dup<=s.dup+1;omega⟩;have hle:=h.le;rw[<-hS'];refine⟨h.C,h.run,rfl,by omega,by rw[show N-(d+cG S' d (N-d))=N-d-cG S' d (N-d) by omega],fun j hj=>?_,fun hlt=>?_,?_⟩
  ·by_cases hjd:j < d
   ·rw[hS'];simp[h.pre j hjd]
   ·have:=sM S' (N-d) d (j-d) (by omega)
    rwa [show d+(j-d)=j by omega]at this
  ·exact qk S' (N-d) d (by omega)
  ·have:=h.next;show max s.next ((k:Int)+1)<=(N:Int);omega
structure DR (cf:ax) (pn:Nat->Nat) (z:Nat->Nat->Int) (S:Nat->Bool) (d:Nat) (s:RS):Prop where
 bs:∃P:Nat->SV,(∀k:Nat,(P k).ct=(k:Int))/\(∀k,S k=true->yu pn z k (P k))/\BS cf P 1000 S d s
 wh:cQ s
section
variable {cf:ax} {pn:Nat->Nat} {z:Nat->Nat->Int} {S:Nat->Bool} {d:Nat} {s:RS}
theorem DR.C (h:DR cf pn z S d s):s.C=cf:=by obtain⟨P,h1,h2,h3⟩:=h.bs;exact h3.C
theorem DR.run (h:DR cf pn z S d s):s.run=false:=by obtain⟨P,h1,h2,h3⟩:=h.bs;exact h3.run
theorem DR.deliver (h:DR cf pn z S d s):s.deliver=(d:Int):=by obtain⟨P,h1,h2,h3⟩:=h.bs;exact h3.deliver
theorem DR.pre (h:DR cf pn z S d s):∀k,k < d->S k=true:=by obtain⟨P,h1,h2,h3⟩:=h.bs;exact h3.pre
theorem DR.len (h:DR cf pn z S d s) {m:Nat} (hm:∀k,S k=true->k < m):s.L.length<=m:=by
 obtain⟨P,h1,h2,h3⟩:=h.bs;rw[h3.L];unfold lP;rw[List.length_map];have h4:∀(a b:Nat),((List.range' a b).filter S).length<=m-a:=fun a b=>by
  induction b generalizing a with
  | zero=>simp
  | succ b ih=>
   rw[List.range'_succ,List.filter_cons];have h5:=ih (a+1)
   split
   ·have:=hm a (by assumption);rw[List.length_cons];omega
   ·omega
 have:=h4 d (1000-d);omega
theorem At (X:Obj):DR cf pn z (fun _=>false) 0 (eZ cf X):=
 ⟨⟨fun k=>⟨(k:Int),0,fun _=>0⟩,fun k=>rfl,fun k h=>(by cases h),zI cf X _ 1000⟩,⟨List.Pairwise.nil,fun e he=>(by cases he),Int.le_refl _,.inl rfl,by show(0:Int)-0<=2048;decide⟩⟩
theorem DR.recv (h:DR cf pn z S d s) (hlim:s.limit<=s.next) (hok:cf.Ok) (hro:cf.ro=0) (k:Nat) (hk:k < 1000) (h1:1<=pn k/\pn k<=9000) (hz:∀j,j < pn k->0<=z k j/\z k j < 256) :
  ∃d' s' L,d<=d'/\s.receive 0 (bi cf (pn k)) (bG cf k (pn k) (nf (z k)))=(L,0,s')/\L.length=d'-d/\(∀i v,L[i]? = some v->yu pn z (d+i) v)/\DR cf pn z (fun j=>S j || decide (j=k)) d' s'/\s'.dup<=s.dup+1:=by
 obtain⟨P,hP,hF,hB⟩:=h.bs;obtain⟨P',hP'⟩:∃P':Nat->SV,P'=fun j=>if S j=true then P j else if j=k then AE cf k (pn k) (nf (z k)) else P j:=⟨_,rfl⟩
 have hct:∀j,(P' j).ct=(j:Int):=fun j=>by
  rw[hP'];by_cases e:S j=true
  ·simp only[e,if_true];exact hP j
  ·simp only[e];by_cases e2:j=k
   ·simp only[e2];rfl
   ·simp only[e2];exact hP j
 have hB':BS cf P' 1000 S d s:=hB.congr (fun j hs=>by rw[hP'];simp only[hs,if_true]);have hfit:∀j,(S j || decide (j=k))=true->yu pn z j (P' j):=fun j hj=>by
  by_cases e:S j=true
  ·have:P' j=P j:=by rw[hP'];simp only[e,if_true]
   rw[this]
   exact hF j e
  ·have e2:j=k:=by simpa[e]using hj
   have:P' j=AE cf k (pn k) (nf (z k)):=by rw[hP'];simp only[e2]at e ⊢;simp[e]
   rw[this,e2];refine⟨rfl,rfl,fun i hi=>?_⟩;show((cJ cf k (pn k) (nf (z k)) i:Nat):Int)=z k i;rw[mQ cf k (pn k) (nf (z k)) i hi,dO hz hi]
 obtain⟨d',s',hdd,hr,hb,hdup⟩:=wP hok hro ay hct h1 (fun j hj=>dZ hz hj) hB' k hk (fun hs=>by rw[hP'];simp[hs]);refine⟨d',s',_,hdd,hr,by rw[List.length_map,List.length_range'],fun i v hv=>?_,⟨⟨P',hct,hfit,hb⟩,?_⟩,hdup⟩
 ·rw[List.getElem?_map]at hv;have hi:i < d'-d:=by
   by_cases hi:i < d'-d
   ·exact hi
   ·rw[List.getElem?_eq_none (by rw[List.length_range'];omega)]at hv;cases hv
  rw[List.getElem?_range' hi]at hv;obtain rfl:=(Option.some.inj hv).symm;rw[Nat.one_mul]
  exact hfit _ (hb.pre _ (by omega))
 ·have hw:=ma h.wh (fun hr=>by rw[h.run]at hr;cases hr) hlim 0 (n:=bi cf (pn k)) (z:=bG cf k (pn k) (nf (z k))) (fun j _=>nF hok.keyN (fun j hj=>dZ hz hj) j);rw[hr]at hw
  exact hw
theorem DR.stat (h:DR cf pn z S d s) {j:Nat} (hs:stored s.L (s.deliver+1+(j:Int))=true):S (d+1+j)=true:=by
 obtain⟨P,hP,hF,hB⟩:=h.bs;unfold stored at hs;rw[List.any_eq_true]at hs;obtain⟨e,he,hc⟩:=hs;rw[hB.L]at he;obtain⟨i,h1,h2,h3,rfl⟩:=n5 hP he;have hc2:=of_decide_eq_true hc;rw[hP,hB.deliver]at hc2;have:i=d+1+j:=by omega
 rw[<-this]
 exact h3
theorem DR.rekey (h:DR cf pn z S d s) (f c:Nat->Int):DR (cf.keys f c) pn z S d (s.rekeyed f c):=by
 obtain⟨P,hP,hF,hB⟩:=h.bs
 exact⟨⟨P,hP,hF,⟨by show s.C.keys f c=_;rw[hB.C],hB.run,hB.deliver,hB.le,hB.L,hB.pre,hB.gap,hB.next⟩⟩,h.wh.same ⟨rfl,rfl,rfl⟩⟩
theorem DR.move (h:DR cf pn z S d s) (cf':ax) (X:Obj):DR cf' pn z S d (dU cf' X s.deliver s.next s.L):=by
 obtain⟨P,hP,hF,hB⟩:=h.bs
 exact⟨⟨P,hP,hF,⟨rfl,rfl,hB.deliver,hB.le,hB.L,hB.pre,hB.gap,hB.next⟩⟩,h.wh.same ⟨rfl,rfl,rfl⟩⟩
theorem DR.all (h:DR cf pn z S d s) {n:Nat} (hn:n<=1000) (h1:∀k,k < n->S k=true) (h2:∀k,S k=true->k < n):d=n:=by
 obtain⟨P,hP,hF,hB⟩:=h.bs;by_cases hlt:d < n
 ·have:=hB.gap (by omega);rw[h1 d hlt]at this
  cases this
 ·by_cases hgt:n < d
  ·have:=h2 n (hB.pre n hgt);omega
  ·omega
end
structure Ag where
 P:World->(Nat->Prop)->Prop
 keep:∀{w w':World} {O F:Nat->Prop},P w O->aa F w w'->(∀k,F k->¬O k)->P w' O
 lt:∀{w:World} {O:Nat->Prop},P w O->∀k,O k->k < w.heap.size
def bW (A:Nat->Ag) (i:Nat) (X:Ag):Nat->Ag:=fun j=>if j=i then X else A j
theorem bL (A:Nat->Ag) (i:Nat) (X:Ag):bW A i X i=X:=if_pos rfl
theorem cy (A:Nat->Ag) {i j:Nat} (X:Ag) (h:j ≠ i):bW A i X j=A j:=if_neg h
def an (w0 w:World) (n:Nat) (A:Nat->Ag):Prop:=∃O:Nat->Nat->Prop,(∀i,i < n->(A i).P w (O i))/\(∀i,i < n->∀k,O i k->w0.heap.size<=k)/\(∀i j,i < n->j < n->i ≠ j->∀k,O i k->¬O j k)/\Below w0.heap.size w0 w
section
variable {w0 w w':World} {n:Nat} {A A':Nat->Ag}
theorem an.low (h:an w0 w n A):Below w0.heap.size w0 w:=by
 obtain⟨O,h1,h2,h3,h4⟩:=h
 exact h4
theorem an.below (h:an w0 w n A) (hb:Below w.heap.size w w'):an w0 w' n A:=by
 obtain⟨O,h1,h2,h3,h4⟩:=h
 exact⟨O,fun i hi=>(A i).keep (h1 i hi) (aa.of_below (F:=fun _=>False) hb) (fun k hf=>hf.elim),h2,h3,h4.trans (hb.mono h4.size)⟩
theorem an.congr (h:an w0 w n A) (he:∀i,i < n->A' i=A i):an w0 w n A':=by
 obtain⟨O,h1,h2,h3,h4⟩:=h
 exact⟨O,fun i hi=>by rw[he i hi];exact h1 i hi,h2,h3,h4⟩
theorem an.less (h:an w0 w n A) {m:Nat} (hm:m<=n):an w0 w m A:=by
 obtain⟨O,h1,h2,h3,h4⟩:=h
 exact⟨O,fun i hi=>h1 i (by omega),fun i hi=>h2 i (by omega),fun i j hi hj=>h3 i j (by omega) (by omega),h4⟩
theorem an.at_ (h:an w0 w n A) {i:Nat} (hi:i < n):∃O,(A i).P w O/\(∀k,O k->w0.heap.size<=k)/\(∀j,j < n->j ≠ i->∃Oj,(A j).P w Oj/\∀k,O k->¬Oj k)/\∀(X:Ag) (O':Nat->Prop) (w':World),X.P w' O'->aa O w w'->(∀k,O' k->O k\/w.heap.size<=k)->an w0 w' n (bW A i X):=by
 obtain⟨O,h1,h2,h3,h4⟩:=h;refine⟨O i,h1 i hi,h2 i hi,fun j hj hji=>⟨O j,h1 j hj,fun k hk=>h3 i j hi hj (fun e=>hji e.symm) k hk⟩,fun X O' w' hX hk hO=>⟨fun j=>if j=i then O' else O j,fun j hj=>?_,fun j hj k hk'=>?_,fun a b ha hb hab k h5 h6=>?_,aa.below h4 hk (h2 i hi) h4.size⟩⟩
 ·by_cases e:j=i
  ·subst e;simp only[bL,↓reduceIte]
   exact hX
  ·simp only[cy _ _ e,if_neg e]
   exact(A j).keep (h1 j hj) hk (fun k hf hjk=>h3 j i hj hi e k hjk hf)
 ·have hs:=h4.size;by_cases e:j=i
  ·simp only[if_pos e]at hk';rcases hO k hk' with h | h
   ·exact h2 i hi k h
   ·omega
  ·simp only[if_neg e]at hk'
   exact h2 j hj k hk'
 ·by_cases e:a=i
  ·have e2:¬b=i:=fun e2=>hab (e.trans e2.symm);simp only[if_pos e]at h5;simp only[if_neg e2]at h6;rcases hO k h5 with h | h
   ·exact h3 i b hi hb (fun x=>e2 x.symm) k h h6
   ·have:=(A b).lt (h1 b hb) k h6;omega
  ·simp only[if_neg e]at h5;by_cases e2:b=i
   ·simp only[if_pos e2]at h6;rcases hO k h6 with h | h
    ·exact h3 a i ha hi e k h5 h
    ·have:=(A a).lt (h1 a ha) k h5;omega
   ·simp only[if_neg e2]at h6
    exact h3 a b ha hb hab k h5 h6
theorem an.new_ (h:an w0 w n A) (hb:Below w.heap.size w w') {X:Ag} {O':Nat->Prop} (hX:X.P w' O') (hO:∀k,O' k->w.heap.size<=k):an w0 w' (n+1) (bW A n X):=by
 obtain⟨O,h1,h2,h3,h4⟩:=h;have hs:=h4.size;refine⟨fun j=>if j=n then O' else O j,fun j hj=>?_,fun j hj k hk'=>?_,fun a b ha hb' hab k h5 h6=>?_,h4.trans (hb.mono hs)⟩
 ·by_cases e:j=n
  ·subst e;simp only[bL,↓reduceIte]
   exact hX
  ·simp only[cy _ _ e,if_neg e]
   exact(A j).keep (h1 j (by omega)) (aa.of_below (F:=fun _=>False) hb) (fun k hf=>hf.elim)
 ·by_cases e:j=n
  ·simp only[if_pos e]at hk';have:=hO k hk';omega
  ·simp only[if_neg e]at hk'
   exact h2 j (by omega) k hk'
 ·by_cases e:a=n
  ·have e2:¬b=n:=fun e2=>hab (e.trans e2.symm);simp only[if_pos e]at h5;simp only[if_neg e2]at h6;have:=hO k h5;have:=(A b).lt (h1 b (by omega)) k h6;omega
  ·simp only[if_neg e]at h5;by_cases e2:b=n
   ·simp only[if_pos e2]at h6;have:=hO k h6;have:=(A a).lt (h1 a (by omega)) k h5;omega
   ·simp only[if_neg e2]at h6
    exact h3 a b (by omega) (by omega) hab k h5 h6
theorem an.two (h:an w0 w n A) {i:Nat} (hi:i < n):∃O,(A i).P w O/\(∀k,O k->w0.heap.size<=k)/\∀(X Y:Ag) (O' O2:Nat->Prop) (w':World),X.P w' O'->Y.P w' O2->aa O w w'->(∀k,O' k->O k\/w.heap.size<=k)->(∀k,O2 k->w.heap.size<=k/\¬O' k)->an w0 w' (n+1) (bW (bW A i X) n Y):=by
 obtain⟨O,h1,h2,h3,h4⟩:=h;refine⟨O i,h1 i hi,h2 i hi,fun X Y O' O2 w' hX hY hk hO hO2=>?_⟩;have hs:=h4.size;refine⟨fun j=>if j=n then O2 else if j=i then O' else O j,fun j hj=>?_,fun j hj k hk'=>?_,fun a b ha hb hab k h5 h6=>?_,aa.below h4 hk (h2 i hi) hs⟩
 ·by_cases e:j=n
  ·subst e;simp only[bL,↓reduceIte]
   exact hY
  ·simp only[cy _ _ e,if_neg e];by_cases e2:j=i
   ·subst e2;simp only[bL,↓reduceIte]
    exact hX
   ·simp only[cy _ _ e2,if_neg e2]
    exact(A j).keep (h1 j (by omega)) hk (fun k hf hjk=>h3 j i (by omega) hi e2 k hjk hf)
 ·by_cases e:j=n
  ·simp only[if_pos e]at hk';have:=(hO2 k hk').1;omega
  ·simp only[if_neg e]at hk';by_cases e2:j=i
   ·simp only[if_pos e2]at hk';rcases hO k hk' with h | h
    ·exact h2 i hi k h
    ·omega
   ·simp only[if_neg e2]at hk'
    exact h2 j (by omega) k hk'
 ·have main:∀a b,a < n+1->b < n+1->a ≠ b->a ≠ n->∀k,(if a=i then O' else O a) k->(if b=n then O2 else if b=i then O' else O b) k->False:=fun a b ha hb hab han k h5 h6=>by
   have ha2:a < n:=by omega
   by_cases e:b=n
   ·simp only[if_pos e]at h6;by_cases e2:a=i
    ·simp only[if_pos e2]at h5
     exact(hO2 k h6).2 h5
    ·simp only[if_neg e2]at h5;have:=(hO2 k h6).1;have:=(A a).lt (h1 a ha2) k h5;omega
   ·simp only[if_neg e]at h6;have hb2:b < n:=by omega
    by_cases e2:a=i
    ·have e3:¬b=i:=fun e3=>hab (e2.trans e3.symm);simp only[if_pos e2]at h5;simp only[if_neg e3]at h6;rcases hO k h5 with h | h
     ·exact h3 i b hi hb2 (fun x=>e3 x.symm) k h h6
     ·have:=(A b).lt (h1 b hb2) k h6;omega
    ·simp only[if_neg e2]at h5;by_cases e3:b=i
     ·simp only[if_pos e3]at h6;rcases hO k h6 with h | h
      ·exact h3 a i ha2 hi e2 k h5 h
      ·have:=(A a).lt (h1 a ha2) k h5;omega
     ·simp only[if_neg e3]at h6
      exact h3 a b ha2 hb2 hab k h5 h6
  by_cases e:a=n
  ·have e2:¬b=n:=fun e2=>hab (e.trans e2.symm);simp only[if_neg e2]at h6;have h5':=h5;refine main b a hb ha (fun x=>hab x.symm) e2 k h6 ?_
   exact h5
  ·simp only[if_neg e]at h5
   exact main a b ha hb hab e k h5 h6
end
def aY (m:Nat):Nat->Int:=fun j=>if j=0 then ((m % 256:Nat):Int) else if j=1 then ((m / 256 % 256:Nat):Int) else if j=2 then 99 else 0
theorem f9 (m j:Nat):0<=aY m j/\aY m j < 256:=by
 unfold aY
 split
 ·omega
 split
 ·omega
 split<;>omega
theorem Ac {m m':Nat} (h:m < 65536) (h':m' < 65536) (he:∀j,j < 16->aY m j=aY m' j):m=m':=by
 have h0:=he 0 (by decide);have h1:=he 1 (by decide);unfold aY at h0 h1;simp at h0 h1;omega
def dB (keys:Nat) (used:List (Array Value)):Prop:=∃U:List (Nat->Int),used=U.map aj/\∀f,f∈U->∃m,m<=keys/\f=aY m
theorem kO {k k':Nat} {used:List (Array Value)} (h:dB k used) (hk:k<=k'):dB k' used:=by
 obtain⟨U,h1,h2⟩:=h;refine⟨U,h1,fun f hf=>?_⟩;obtain⟨m,h3,h4⟩:=h2 f hf
 exact⟨m,by omega,h4⟩
theorem mI {k:Nat}:dB k [aj (aY k)]:=⟨[aY k],rfl,fun f hf=>⟨k,Nat.le_refl _,List.mem_singleton.1 hf⟩⟩
theorem eM {k m:Nat} {U:List (Nat->Int)} (h2:∀f,f∈U->∃m,m<=k/\f=aY m) (hm:k < m) (h6:m < 65536):de (aY m) U=false:=by
 unfold de;rw[List.any_eq_false];intro f hf he;obtain⟨m',h3,rfl⟩:=h2 f hf;have:=Ac h6 (by omega) (uf.1 he);omega
end Go.Proofs.YtbfpdnnphdagjaaGreat
