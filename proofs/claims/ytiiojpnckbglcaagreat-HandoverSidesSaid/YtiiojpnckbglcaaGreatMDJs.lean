import Derived.Test.YtiiojpnckbglcaaGreatMDAs
import Derived.Sort.LotA
import Derived.BigGuard
import Derived.BigRegion
import Derived.BigCall
import Derived.Deep.QuietTactic
import Derived.BigQuiet
import Derived.Sort.AssemblyPlain
set_option maxRecDepth 1000000
set_option maxHeartbeats 4000000
set_option linter.unusedVariables false
set_option linter.unusedSimpArgs false
namespace Go.Proofs.YtiiojpnckbglcaaGreat
open Go.RowKit Go.Sort
attribute [local go_sem ↓] Go.wp_at_zero Go.wp_at_succ
theorem ux (x:Int) (w:World):Calls Tryz.prog 205 #[.int .u64 x] w fun e w'=>e=.returned (.bool false)/\w'=w:=by
 go_enter Tryz.func205,Tryz.ntmps205;go_wp2;go_ret
 exact⟨rfl,rfl⟩
theorem al (x y:Int) (w:World):Calls Tryz.prog 163 #[.int .u64 x,.int .u64 y] w fun e w'=>e=.returned (.bool (decide (x < y)))/\w'=w:=by
 have HN:=zh (fun x V=>ux x V);go_enter Tryz.func163,Tryz.ntmps163;go_wp2_with (go_at_call 205;refine(HN.out _ _).mono ?_;rintro e w1 ⟨rfl,rfl⟩);go_ret
 exact⟨rfl,rfl⟩
def aA (w:World) (b n:Nat) (d:Array Int):Prop:=∃cs,ae w b 76 cs/\n<=cs.size/\∀t,t < n->cs[t]? = some (.int .u64 d[t]!)
theorem aA.cell {w:World} {b n:Nat} {d:Array Int} (h:aA w b n d) {t:Nat} (ht:t < n):w.cell? ⟨b,t,none⟩=some (.int .u64 d[t]!):=by
 obtain⟨cs,hB,hs,hc⟩:=h;rw[hB.cell t,hc t ht]
theorem aA.fr {w:World} {b n:Nat} {d:Array Int} (h:aA w b n d) (t:Nat):w.frozen? ⟨b,t,none⟩=false:=by
 obtain⟨cs,hB,_⟩:=h
 exact hB.frozen t
theorem aA.swap {w:World} {b n:Nat} {d:Array Int} (h:aA w b n d) (hd:d.size=n) {i j:Nat} (hi:i < n) (hj:j < n):aA ((w.setCell ⟨b,i,none⟩ (.int .u64 d[j]!)).setCell ⟨b,j,none⟩ (.int .u64 d[i]!)) b n (swp d i j):=by
 obtain⟨cs,hB,hs,hc⟩:=h;refine⟨_,(hB.set_ i _).set_ j _,by simpa using hs,fun t ht=>?_⟩;rw[Array.getElem?_setIfInBounds,Array.getElem?_setIfInBounds];by_cases e:j=t
 ·subst e;rw[if_pos rfl,if_pos (by simp;omega),swp_right d i j (by omega)]
 ·rw[if_neg e];by_cases e2:i=t
  ·subst e2;rw[if_pos rfl,if_pos (by omega),swp_left d i j (by omega) (fun h=>e h.symm)]
  ·rw[if_neg e2,hc t ht,swp_other d i j t (fun h=>e2 h.symm) (fun h=>e h.symm)]
theorem aA.keepF {F:Nat->Prop} {w w':World} {b n:Nat} {d:Array Int} (h:aA w b n d) (hk:aa F w w') (hF:¬F b):aA w' b n d:=by
 obtain⟨cs,hB,h2⟩:=h
 exact⟨cs,hk.blk hB hF,h2⟩
theorem aA.drew {w:World} {b n:Nat} {d:Array Int} (h:aA w b n d) (q:Nat):aA (w.drewN q) b n d:=h
theorem aa.drewN {F:Nat->Prop} {w w':World} (h:aa F w w') (q:Nat):aa F w (w'.drewN q):=⟨h.os,h.tape,h.output,h.size,h.block⟩
theorem uB (j:Nat) (d:Array Int) (hj:0 < j) (hl:ltInt d[j]! d[j-1]! = true):insInner ltInt 0 j d=insInner ltInt 0 (j-1) (swp d j (j-1)):=by
 obtain⟨k,rfl⟩:∃k,j=k+1:=⟨j-1,by omega⟩
 rw[insInner];simp only[Nat.add_sub_cancel]at hl ⊢;simp[hl]
theorem o5 (j:Nat) (d:Array Int) (h:j=0\/ltInt d[j]! d[j-1]! = false):insInner ltInt 0 j d=d:=by
 cases j with
 | zero=>rw[insInner]
 | succ k=>
  rw[insInner];simp only[Nat.add_sub_cancel]at h;rcases h with h | h
  ·cases h
  ·simp[h]
theorem uz (b i:Nat) (d:Array Int) (h:i < b):insOuter ltInt 0 b i d=insOuter ltInt 0 b (i+1) (insInner ltInt 0 i d):=by rw[insOuter,if_pos h]
theorem pM (b i:Nat) (d:Array Int) (h:¬i < b):insOuter ltInt 0 b i d=d:=by rw[insOuter,if_neg h]
theorem vv (A:Option Addr) (b c n:Nat) (d:Array Int) (hA:0 < n->A=some ⟨b,0,none⟩) (hd:d.size=n) (hn:n<=1000000) (w:World) (h:0 < n->aA w b n d) :
  Calls Tryz.prog 157 #[.slice A n c,.int .i64 0,.int .i64 n] w fun e w'=>e=.returned (.tuple #[])/\(0 < n->aA w' b n (Sort.insertionSort ltInt d 0 n))/\aa (fun k=>0 < n/\k=b) w w':=by
 have HU:=zh h;have HA:=zh hA;have HL:=zh (fun x y V=>al x y V);have HN:=zh hn;clear h hn;go_enter Tryz.func157,Tryz.ntmps157;go_wp2;go_loopw [6] (fun vi wr=>∃(i:Nat) (dk:Array Int),vi=.int .i64 i/\0 < i/\i<=n+1/\dk.size=n/\(0 < n->aA wr b n dk)/\aa (fun k=>0 < n/\k=b) w wr/\insOuter ltInt 0 n i dk=insOuter ltInt 0 n 1 d) (fun vi _=>n+1-(intOf vi).toNat)
 case atStart=>exact⟨1,d,rfl,by omega,by omega,hd,HU.out,aa.refl,rfl⟩
 case round=>
  obtain⟨i,dk,rfl,hi0,hi1,hsk,hU,hK,hO⟩:=hrel;have HO:=zh hO;have HUK:=zh hU;have HKK:=zh hK;clear hO hU hK;have hnn:=HN.out;by_cases hlt:i < n;rotate_left
  ·have t1:¬(i:Int) < (n:Int):=by omega
   go_wp2;go_end0
   exact⟨rfl,fun h0=>by
    have e:=HO.out;rw[pM n i dk hlt]at e;unfold Sort.insertionSort;rw[<-e]
    exact HUK.out h0,HKK.out⟩
  have hn0:0 < n:=by omega
  obtain rfl:=HA.out hn0;have t1:(i:Int) < (n:Int):=by omega
  go_wp2;go_loopw [7] (fun vj wr2=>∃(j:Nat) (dj:Array Int),vj=.int .i64 j/\j<=i/\dj.size=n/\aA wr2 b n dj/\aa (fun k=>0 < n/\k=b) w wr2/\insInner ltInt 0 j dj=insInner ltInt 0 i dk) (fun vj _=>(intOf vj).toNat)
  case atStart=>exact⟨i,dk,rfl,Nat.le_refl _,hsk,HUK.out hn0,HKK.out,rfl⟩
  case round=>
   obtain⟨j,dj,rfl,hji,hsj,hU,hK,hI⟩:=hrel;have HI:=zh hI;have HUJ:=zh hU;have HKJ:=zh hK;clear hI hU hK HUK HKK;have OUT:=zh (show(j=0\/ltInt dj[j]! dj[j-1]! = false)->∀q,∃(i':Nat) (dk':Array Int),Value.int .i64 ((i:Int)+1)=.int .i64 (i':Nat)/\0 < i'/\i'<=n+1/\dk'.size=n/\(0 < n->aA (wr.drewN q) b n dk')/\aa (fun k=>0 < n/\k=b) w (wr.drewN q)/\insOuter ltInt 0 n i' dk'=insOuter ltInt 0 n 1 d from fun hs q=>
    ⟨i+1,dj,by go_num,by omega,by omega,hsj,fun _=>HUJ.out.drew q,HKJ.out.drewN q,by rw[<-HO.out,uz n i dk hlt,<-HI.out,o5 j dj hs]⟩)
   by_cases hj0:0 < j
   ·obtain⟨x,hx⟩:=af (dj[j]!)
    obtain⟨y,hy⟩:=af (dj[j-1]!)
    have c0:wr.cell? ⟨b,j,none⟩=some (.int .u64 x):=by rw[hx];exact HUJ.out.cell (by omega)
    have c1:wr.cell? ⟨b,j-1,none⟩=some (.int .u64 y):=by rw[hy];exact HUJ.out.cell (by omega)
    have f0:=HUJ.out.fr j;have f1:=HUJ.out.fr (j-1);have j0:(0:Int) < (j:Int):=by omega
    have j1:(j:Int) < (n:Int):=by omega
    have j2:(j:Int)-1 < (n:Int):=by omega
    have j3:(0:Int)<=(j:Int)-1:=by omega
    have j4:((j:Int)-1).toNat=j-1:=by omega
    have hjj:¬j=j-1:=by omega
    have wj:IntKind.i64.wrap ((j:Int)-1)=(j:Int)-1:=by simp[IntKind.wrap_i64];omega
    have HXY:=zh (And.intro hx hy);have HSW:=zh (show ∀q,aA (((wr.drewN q).setCell ⟨b,j,none⟩ (.int .u64 y)).setCell ⟨b,j-1,none⟩ (.int .u64 x)) b n (swp dj j (j-1)) by rw[hx,hy];exact fun q=>(HUJ.out.drew q).swap hsj (by omega) (by omega));have HKW:=zh (show ∀q,aa (fun k=>0 < n/\k=b) w (((wr.drewN q).setCell ⟨b,j,none⟩ (.int .u64 y)).setCell ⟨b,j-1,none⟩ (.int .u64 x))from fun q=>((HKJ.out.drewN q).setCell (p:=⟨b,j,none⟩) ⟨hn0,rfl⟩ _).setCell (p:=⟨b,j-1,none⟩) ⟨hn0,rfl⟩ _);clear hx hy;by_cases hxy:x < y
    ·have HLT:=zh (show ltInt dj[j]! dj[j-1]! = true by rw[<-HXY.out.1,<-HXY.out.2];simpa[ltInt]using hxy);have dxy:decide (x < y)=true:=by simpa using hxy
     go_wp2;go_quiet (first | (go_at_call 163;refine Calls.quiet_of_same (al _ _ _)));go_wp2;go_region
     all_goals go_wp2
     refine⟨⟨j-1,swp dj j (j-1),by congr 1;omega,by omega,by rw[size_swp];exact hsj,HSW.out _,HKW.out _,by rw[<-HI.out,uB j dj hj0 HLT.out]⟩,by simp[intOf];omega⟩
    ·have HLT:=zh (show ltInt dj[j]! dj[j-1]! = false by rw[<-HXY.out.1,<-HXY.out.2];simpa[ltInt]using hxy);have dxy:decide (x < y)=false:=by simpa using hxy
     go_wp2;go_quiet (first | (go_at_call 163;refine Calls.quiet_of_same (al _ _ _)));go_wp2;go_roundw
     case rel=>exact OUT.out (Or.inr HLT.out) nq
     case measure=>simp[intOf];omega
   ·have hj1:j=0:=by omega
    subst hj1;have jz:¬(0:Int) < 0:=by omega
    go_wp2;go_quiet (first | (go_at_call 163;refine Calls.quiet_of_same (al _ _ _)));go_wp2;go_roundw
    case rel=>first | exact OUT.out (Or.inl rfl) nq | exact OUT.out (Or.inl trivial) nq
    case measure=>simp[intOf];omega
end Go.Proofs.YtiiojpnckbglcaaGreat
namespace Go.Proofs.YtiiojpnckbglcaaGreat
open Go.Sort
theorem pS {a b:Nat} {d d':Array Int} (hab:a<=b) (hb:b<=d.size) (hp:PermIn a b d d') (h:d.toList.Nodup):d'.toList.Nodup:=by
 have hm:=permIn_mono d d' a b 0 d.size (Nat.zero_le _) hb ao hp;have h2:=hm.2.2;have e1:d.extract 0 d.size=d:=by simp
 have e2:d'.extract 0 d.size=d':=by rw[<-hm.1];simp
 rw[e1,e2]at h2
 exact h2.nodup_iff.2 h
theorem nT {d:Array Int} (h:d.toList.Nodup) {i j:Nat} (hi:i < d.size) (hj:j < d.size) (hij:i ≠ j):d[i]! ≠ d[j]!:=by
 rw[getElem!_pos d i hi,getElem!_pos d j hj];intro e;have hp:=List.pairwise_iff_getElem.1 h;rcases Nat.lt_or_gt_of_ne hij with hl | hl
 ·exact hp i j (by simpa using hi) (by simpa using hj) hl (by simpa using e)
 ·exact hp j i (by simpa using hj) (by simpa using hi) hl (by simpa using e.symm)
def eE (a b:Nat) (d:Array Int):Prop:=a=0\/∀i,a<=i->i < b->d[a-1]! < d[i]!
theorem eE.below {a b:Nat} {d:Array Int} (h:eE a b d):Below ltInt a b d:=h.imp id fun h i h1 h2=>by
 have:=h i h1 h2;simp[ltInt];omega
theorem eE.perm {a b:Nat} {d d':Array Int} (h:eE a b d) (hb:b<=d.size) (hp:PermIn a b d d'):eE a b d':=by
 rcases h with h | h
 ·exact Or.inl h
 ·rcases Nat.eq_zero_or_pos a with h0 | h0
  ·exact Or.inl h0
  ·refine Or.inr ?_;rw[hp.2.1 (a-1) (Or.inl (by omega))]
   exact permIn_all d d' a b (fun x=>d[a-1]! < x) hb hp h
structure PQ (a0 b0:Nat) (d0:Array Int) (a b:Nat) (d:Array Int):Prop where
 ab:a<=b
 bs:b<=d.size
 sz:d.size=d0.size
 nd:d.toList.Nodup
 low:eE a b d
 go:∀d',PermIn a b d d'->SortedIn ltInt a b d'->PermIn a0 b0 d0 d'/\SortedIn ltInt a0 b0 d'
theorem PQ.start {a b:Nat} {d:Array Int} (hab:a<=b) (hb:b<=d.size) (hn:d.toList.Nodup) (hl:eE a b d):PQ a b d a b d:=⟨hab,hb,rfl,hn,hl,fun _ h1 h2=>⟨h1,h2⟩⟩
theorem PQ.perm {a0 b0 a b:Nat} {d0 d d1:Array Int} (h:PQ a0 b0 d0 a b d) (hp:PermIn a b d d1):PQ a0 b0 d0 a b d1:=
 ⟨h.ab,by rw[hp.1];exact h.bs,by rw[hp.1,h.sz],pS h.ab h.bs hp h.nd,h.low.perm h.bs hp,fun d' h1 h2=>h.go d' (permIn_trans _ _ _ _ _ hp h1) h2⟩
structure kM (a b:Nat) (d:Array Int) (mid:Nat) (d':Array Int):Prop where
 am:a<=mid
 mb:mid < b
 perm:PermIn a b d d'
 lo:∀t,a<=t->t < mid->d'[t]! < d'[mid]!
 hi:∀t,mid < t->t < b->d'[mid]!<=d'[t]!
theorem PQ.left {a0 b0 a b mid:Nat} {d0 d d1 d2:Array Int} (h:PQ a0 b0 d0 a b d) (hp:kM a b d mid d1) (h2:PermIn a mid d1 d2) (hs:SortedIn ltInt a mid d2):PQ a0 b0 d0 (mid+1) b d2:=by
 have hq:=h.perm hp.perm;have hsz:d2.size=d1.size:=h2.1;have hm:=permIn_mono d1 d2 a mid a b ao (Nat.le_of_lt hp.mb) hq.bs h2;have hq2:=hq.perm hm;have em:d2[mid]! = d1[mid]!:=h2.2.1 mid (Or.inr ao);have eh:∀t,mid<=t->d2[t]! = d1[t]!:=fun t ht=>h2.2.1 t (Or.inr ht);have hlo:∀t,a<=t->t < mid->d2[t]! < d2[mid]!:=by
  rw[em]
  exact permIn_all d1 d2 a mid (fun x=>x < d1[mid]!) (by have:=hq.bs;have:=hp.mb;omega) h2 hp.lo
 have hhi:∀t,mid < t->t < b->d2[mid]! < d2[t]!:=fun t h1 h3=>by
  have hne:=nT hq2.nd (i:=mid) (j:=t) (by have:=hq2.bs;have:=hp.mb;omega) (by have:=hq2.bs;omega) (by omega);have:=hp.hi t h1 h3;rw[<-em,<-eh t (by omega)]at this;omega
 refine⟨hp.mb,hq2.bs,hq2.sz,hq2.nd,Or.inr fun i h1 h3=>hhi i (by omega) h3,fun d' p1 s1=>?_⟩;have pm:=permIn_mono d2 d' (mid+1) b a b (by have:=hp.am;omega) ao hq2.bs p1;refine hq2.go d' pm (sorted_glue swo_ltInt (a:=a) (mid:=mid) (b:=b) ?_ s1 ?_ ?_)
 ·exact hs.congr fun i h1 h3=>p1.2.1 i (Or.inl (by omega))
 ·intro i h1 h3;rw[p1.2.1 i (Or.inl (by omega)),p1.2.1 mid (Or.inl (by omega))];simpa[ltInt]using hlo i h1 h3
 ·intro i h1 h3;rw[p1.2.1 mid (Or.inl (by omega))];have:=permIn_all d2 d' (mid+1) b (fun x=>d2[mid]! < x) hq2.bs p1 (fun i h1 h3=>hhi i (by omega) h3) i (by omega) h3;simp[ltInt];omega
theorem PQ.right {a0 b0 a b mid:Nat} {d0 d d1 d2:Array Int} (h:PQ a0 b0 d0 a b d) (hp:kM a b d mid d1) (h2:PermIn (mid+1) b d1 d2) (hs:SortedIn ltInt (mid+1) b d2):PQ a0 b0 d0 a mid d2:=by
 have hq:=h.perm hp.perm;have hm:=permIn_mono d1 d2 (mid+1) b a b (by have:=hp.am;omega) ao hq.bs h2;have hq2:=hq.perm hm;have el:∀t,t<=mid->d2[t]! = d1[t]!:=fun t ht=>h2.2.1 t (Or.inl (by omega));have hlo:∀t,a<=t->t < mid->d2[t]! < d2[mid]!:=fun t h1 h3=>by
  rw[el t (by omega),el mid ao];exact hp.lo t h1 h3
 have hhi:∀t,mid+1<=t->t < b->d2[mid]!<=d2[t]!:=by
  rw[el mid ao]
  exact permIn_all d1 d2 (mid+1) b (fun x=>d1[mid]!<=x) hq.bs h2 (fun i h1 h3=>hp.hi i (by omega) h3)
 have hbs:=hq2.bs;have hmb:=hp.mb;refine⟨hp.am,by omega,hq2.sz,hq2.nd,?_,fun d' p1 s1=>?_⟩
 ·rcases hq2.low with h0 | h0
  ·exact Or.inl h0
  ·exact Or.inr fun i h1 h3=>h0 i h1 (by omega)
 have pm:=permIn_mono d2 d' a mid a b ao (by omega) hq2.bs p1;refine hq2.go d' pm (sorted_glue swo_ltInt (a:=a) (mid:=mid) (b:=b) s1 ?_ ?_ ?_)
 ·exact hs.congr fun i h1 h3=>p1.2.1 i (Or.inr (by omega))
 ·intro i h1 h3;rw[p1.2.1 mid (Or.inr ao)];have:=permIn_all d2 d' a mid (fun x=>x < d2[mid]!) (by omega) p1 hlo i h1 h3;simpa[ltInt]using this
 ·intro i h1 h3;rw[p1.2.1 i (Or.inr (by omega)),p1.2.1 mid (Or.inr ao)];have:=hhi i (by omega) h3;simp[ltInt];omega
structure PI (a b:Nat) (d:Array Int) (i j:Nat) (dk:Array Int):Prop where
 ai:a < i
 ij:i<=j+1
 jb:j < b
 bs:b<=d.size
 perm:PermIn (a+1) b d dk
 lo:∀t,a < t->t < i->dk[t]! < d[a]!
 hi:∀t,j < t->t < b->d[a]!<=dk[t]!
theorem PI.size {a b i j:Nat} {d dk:Array Int} (h:PI a b d i j dk):dk.size=d.size:=h.perm.1
theorem PI.pv {a b i j:Nat} {d dk:Array Int} (h:PI a b d i j dk):dk[a]! = d[a]!:=h.perm.2.1 a (Or.inl (by omega))
theorem PI.start {a b:Nat} {d:Array Int} (h:a < b) (hb:b<=d.size):PI a b d (a+1) (b-1) d:=
 ⟨by omega,by omega,by omega,hb,permIn_refl _ _ _,fun t h1 h2=>absurd h2 (by omega),fun t h1 h2=>absurd h2 (by omega)⟩
theorem PI.up {a b i j:Nat} {d dk:Array Int} (h:PI a b d i j dk) (hij:i<=j) (hl:dk[i]! < d[a]!):PI a b d (i+1) j dk:=
 ⟨by have:=h.ai;omega,by omega,h.jb,h.bs,h.perm,fun t h1 h2=>by
  rcases Nat.lt_or_ge t i with h3 | h3
  ·exact h.lo t h1 h3
  ·rw[show t=i by omega];exact hl,h.hi⟩
theorem PI.down {a b i j:Nat} {d dk:Array Int} (h:PI a b d i j dk) (hij:i<=j) (hl:d[a]!<=dk[j]!):PI a b d i (j-1) dk:=by
 have h1:=h.ai;have h2:=h.jb;refine⟨h.ai,by omega,by omega,h.bs,h.perm,h.lo,fun t h3 h4=>?_⟩;rcases Nat.lt_or_ge j t with h5 | h5
 ·exact h.hi t h5 h4
 ·rw[show t=j by omega];exact hl
theorem PI.swap {a b i j:Nat} {d dk:Array Int} (h:PI a b d i j dk) (hij:i<=j) (hi:d[a]!<=dk[i]!) (hj:dk[j]! < d[a]!):PI a b d (i+1) (j-1) (swp dk i j):=by
 have h1:=h.ai;have h2:=h.jb;have h3:=h.bs;have h4:=h.size;have hne:i ≠ j:=fun e=>by rw[e]at hi;omega
 refine⟨by omega,by omega,by omega,h.bs,permIn_trans _ _ _ _ _ h.perm (swp_permIn dk (a+1) b i j (by omega) (by omega) (by omega) h2 (by omega)),fun t h5 h6=>?_,fun t h5 h6=>?_⟩
 ·rcases Nat.lt_or_ge t i with h7 | h7
  ·rw[swp_other dk i j t (by omega) (by omega)];exact h.lo t h5 h7
  ·rw[show t=i by omega,swp_left dk i j (by omega) hne];exact hj
 ·rcases Nat.lt_or_ge j t with h7 | h7
  ·rw[swp_other dk i j t (by omega) (by omega)];exact h.hi t h7 h6
  ·rw[show t=j by omega,swp_right dk i j (by omega)];exact hi
theorem PI.done {a b i j:Nat} {d d0 dk:Array Int} (h:PI a b d i j dk) (hij:j < i) (h0:PermIn a b d0 d):kM a b d0 j (swp dk j a):=by
 have h1:=h.ai;have h2:=h.jb;have h3:=h.bs;have h4:=h.size;have h5:=h.ij;have ea:=h.pv;have ej:(swp dk j a)[j]! = d[a]!:=by
  by_cases e:j=a
  ·subst e;rw[swp_right dk j j (by omega)];exact ea
  ·rw[swp_left dk j a (by omega) e];exact ea
 refine⟨by omega,h2,permIn_trans _ _ _ _ _ h0 (permIn_trans _ _ _ _ _ (permIn_mono d dk (a+1) b a b (by omega) ao h3 h.perm) (swp_permIn dk a b j a (by omega) h2 ao (by omega) (by omega))),fun t h6 h7=>?_,fun t h6 h7=>?_⟩
 ·rw[ej];rcases Nat.eq_or_lt_of_le h6 with e | e
  ·subst e;rw[swp_right dk j a (by omega)]
   exact h.lo j (by omega) (by omega)
  ·rw[swp_other dk j a t (by omega) (by omega)]
   exact h.lo t e (by omega)
 ·rw[ej,swp_other dk j a t (by omega) (by omega)]
  exact h.hi t h6 h7
theorem nX {n:Nat} {d d':Array Int} (hn:d.size=n) (hp:PermIn 0 n d d') (hs:SortedIn ltInt 0 n d'):d'.size=n/\d'.toList.Perm d.toList/\d'.toList.Pairwise (·<=·):=by
 subst hn;have hsz:=hp.1;have h2:=hp.2.2;have e1:d.extract 0 d.size=d:=by simp
 have e2:d'.extract 0 d.size=d':=by rw[<-hsz];simp
 rw[e1,e2]at h2;refine⟨hsz,h2,List.pairwise_iff_getElem.2 fun i j hi hj hij=>?_⟩;have hi':i < d'.size:=by simpa using hi
 have hj':j < d'.size:=by simpa using hj
 have:=hs i j (Nat.zero_le _) hij (by omega);rw[getElem!_pos d' j hj',getElem!_pos d' i hi']at this;simp only[ltInt,decide_eq_false_iff_not]at this;rw[Array.getElem_toList,Array.getElem_toList];omega
end Go.Proofs.YtiiojpnckbglcaaGreat
namespace Go.Proofs.YtiiojpnckbglcaaGreat
open Go.RowKit Go.Sort
attribute [local go_sem ↓] Go.wp_at_zero Go.wp_at_succ
def SO (w w':World) (B n a b:Nat) (d d':Array Int):Prop:=PermIn a b d d'/\aA w' B n d'/\aa (fun k=>k=B) w w'
theorem SO.refl {w:World} {B n a b:Nat} {d:Array Int} (h:aA w B n d):SO w w B n a b d d:=⟨permIn_refl _ _ _,h,aa.refl⟩
theorem SO.size {w w1:World} {B n a b:Nat} {d d1:Array Int} (h:SO w w1 B n a b d d1):d1.size=d.size:=h.1.1
theorem SO.drew {w w1:World} {B n a b:Nat} {d d1:Array Int} (h:SO w w1 B n a b d d1) (q:Nat):SO w (w1.drewN q) B n a b d d1:=⟨h.1,h.2.1,h.2.2.drewN q⟩
theorem SO.swap {w w1:World} {B n a b:Nat} {d d1:Array Int} (h:SO w w1 B n a b d d1) (hd:d.size=n) {i j:Nat} (hi:a<=i) (hi2:i < b) (hj:a<=j) (hj2:j < b) (hb:b<=n) :
  SO w ((w1.setCell ⟨B,i,none⟩ (.int .u64 d1[j]!)).setCell ⟨B,j,none⟩ (.int .u64 d1[i]!)) B n a b d (swp d1 i j):=
 ⟨permIn_trans _ _ _ _ _ h.1 (swp_permIn d1 a b i j hi hi2 hj hj2 (by rw[h.size];omega)),h.2.1.swap (by rw[h.size];exact hd) (by omega) (by omega),(h.2.2.setCell (p:=⟨B,i,none⟩) rfl _).setCell (p:=⟨B,j,none⟩) rfl _⟩
theorem rE (a j:Nat) (d:Array Int) (hj:a < j) (hl:ltInt d[j]! d[j-1]! = true):insInner ltInt a j d=insInner ltInt a (j-1) (swp d j (j-1)):=by
 obtain⟨k,rfl⟩:∃k,j=k+1:=⟨j-1,by omega⟩
 rw[insInner];simp only[Nat.add_sub_cancel]at hl ⊢;simp[hl,hj]
theorem mY (a j:Nat) (d:Array Int) (h:j<=a\/ltInt d[j]! d[j-1]! = false):insInner ltInt a j d=d:=by
 cases j with
 | zero=>rw[insInner]
 | succ k=>
  rw[insInner];simp only[Nat.add_sub_cancel]at h;rcases h with h | h
  ·rw[if_neg];simp;omega
  ·simp[h]
theorem sj (a b i:Nat) (d:Array Int) (h:i < b):insOuter ltInt a b i d=insOuter ltInt a b (i+1) (insInner ltInt a i d):=by rw[insOuter,if_pos h]
theorem mX (a b i:Nat) (d:Array Int) (h:¬i < b):insOuter ltInt a b i d=d:=by rw[insOuter,if_neg h]
theorem tF (B c n a b:Nat) (d:Array Int) (hd:d.size=n) (hn:n<=1000000) (hab:a<=b) (hb:b<=n) (w:World) (h:aA w B n d) :
  Calls Tryz.prog 157 #[.slice (some ⟨B,0,none⟩) n c,.int .i64 a,.int .i64 b] w fun e w'=>e=.returned (.tuple #[])/\∃d',SortedIn ltInt a b d'/\SO w w' B n a b d d':=by
 have HU:=zh h;have HL:=zh (fun x y V=>al x y V);have HN:=zh hn;have HS:=zh (insertionSort_holds (lt:=ltInt) swo_ltInt d a b hab (by omega));have HAB:=zh hab;have HB:=zh hb;have wi:IntKind.i64.wrap ((a:Int)+1)=(a:Int)+1:=by simp[IntKind.wrap_i64];omega
 clear h hn;go_enter Tryz.func157,Tryz.ntmps157;go_wp2;go_loopw [6] (fun vi wr=>∃(i:Nat) (dk:Array Int),vi=.int .i64 i/\a < i/\(i<=b\/i=a+1)/\dk.size=n/\aA wr B n dk/\aa (fun k=>k=B) w wr/\insOuter ltInt a b i dk=insOuter ltInt a b (a+1) d) (fun vi _=>b+1-(intOf vi).toNat)
 case atStart=>exact⟨a+1,d,by go_num,by omega,Or.inr rfl,hd,HU.out,aa.refl,rfl⟩
 case round=>
  obtain⟨i,dk,rfl,hi0,hi1,hsk,hU,hK,hO⟩:=hrel;have HO:=zh hO;have HUK:=zh hU;have HKK:=zh hK;clear hO hU hK;have hnn:=HN.out;by_cases hlt:i < b;rotate_left
  ·have t1:¬(i:Int) < (b:Int):=by omega
   go_wp2;go_end0;refine⟨rfl,dk,?_,?_,HUK.out,HKK.out⟩
   all_goals
    have e:=HO.out;rw[mX a b i dk hlt]at e;have hs:=HS.out;unfold Sort.insertionSort at hs;rw[<-e]at hs
   ·exact hs.2
   ·exact hs.1
  have t1:(i:Int) < (b:Int):=by omega
  go_wp2;go_loopw [7] (fun vj wr2=>∃(j:Nat) (dj:Array Int),vj=.int .i64 j/\j<=i/\a<=j/\dj.size=n/\aA wr2 B n dj/\aa (fun k=>k=B) w wr2/\insInner ltInt a j dj=insInner ltInt a i dk) (fun vj _=>(intOf vj).toNat)
  case atStart=>exact⟨i,dk,rfl,Nat.le_refl _,by omega,hsk,HUK.out,HKK.out,rfl⟩
  case round=>
   obtain⟨j,dj,rfl,hji,haj,hsj,hU,hK,hI⟩:=hrel;have HI:=zh hI;have HUJ:=zh hU;have HKJ:=zh hK;clear hI hU hK HUK HKK;have OUT:=zh (show(j<=a\/ltInt dj[j]! dj[j-1]! = false)->∀q,∃(i':Nat) (dk':Array Int),Value.int .i64 ((i:Int)+1)=.int .i64 (i':Nat)/\a < i'/\(i'<=b\/i'=a+1)/\dk'.size=n/\aA (wr.drewN q) B n dk'/\aa (fun k=>k=B) w (wr.drewN q)/\insOuter ltInt a b i' dk'=insOuter ltInt a b (a+1) d from fun hs q=>
    ⟨i+1,dj,by go_num,by omega,by omega,hsj,HUJ.out.drew q,HKJ.out.drewN q,by rw[<-HO.out,sj a b i dk hlt,<-HI.out,mY a j dj hs]⟩)
   by_cases hj0:a < j
   ·obtain⟨x,hx⟩:=af (dj[j]!)
    obtain⟨y,hy⟩:=af (dj[j-1]!)
    have c0:wr.cell? ⟨B,j,none⟩=some (.int .u64 x):=by rw[hx];exact HUJ.out.cell (by omega)
    have c1:wr.cell? ⟨B,j-1,none⟩=some (.int .u64 y):=by rw[hy];exact HUJ.out.cell (by omega)
    have f0:=HUJ.out.fr j;have f1:=HUJ.out.fr (j-1);have j0:(a:Int) < (j:Int):=by omega
    have j1:(j:Int) < (n:Int):=by omega
    have j2:(j:Int)-1 < (n:Int):=by omega
    have j3:(0:Int)<=(j:Int)-1:=by omega
    have j4:((j:Int)-1).toNat=j-1:=by omega
    have hjj:¬j=j-1:=by omega
    have wj:IntKind.i64.wrap ((j:Int)-1)=(j:Int)-1:=by simp[IntKind.wrap_i64];omega
    have HXY:=zh (And.intro hx hy);have HSW:=zh (show ∀q,aA (((wr.drewN q).setCell ⟨B,j,none⟩ (.int .u64 y)).setCell ⟨B,j-1,none⟩ (.int .u64 x)) B n (swp dj j (j-1)) by rw[hx,hy];exact fun q=>(HUJ.out.drew q).swap hsj (by omega) (by omega));have HKW:=zh (show ∀q,aa (fun k=>k=B) w (((wr.drewN q).setCell ⟨B,j,none⟩ (.int .u64 y)).setCell ⟨B,j-1,none⟩ (.int .u64 x))from fun q=>((HKJ.out.drewN q).setCell (p:=⟨B,j,none⟩) rfl _).setCell (p:=⟨B,j-1,none⟩) rfl _);clear hx hy;by_cases hxy:x < y
    ·have HLT:=zh (show ltInt dj[j]! dj[j-1]! = true by rw[<-HXY.out.1,<-HXY.out.2];simpa[ltInt]using hxy);have dxy:decide (x < y)=true:=by simpa using hxy
     go_wp2;go_quiet (first | (go_at_call 163;refine Calls.quiet_of_same (al _ _ _)));go_wp2;go_region
     all_goals go_wp2
     refine⟨⟨j-1,swp dj j (j-1),by congr 1;omega,by omega,by omega,by rw[size_swp];exact hsj,HSW.out _,HKW.out _,by rw[<-HI.out,rE a j dj hj0 HLT.out]⟩,by simp[intOf];omega⟩
    ·have HLT:=zh (show ltInt dj[j]! dj[j-1]! = false by rw[<-HXY.out.1,<-HXY.out.2];simpa[ltInt]using hxy);have dxy:decide (x < y)=false:=by simpa using hxy
     go_wp2;go_quiet (first | (go_at_call 163;refine Calls.quiet_of_same (al _ _ _)));go_wp2;go_roundw
     case rel=>exact OUT.out (Or.inr HLT.out) nq
     case measure=>simp[intOf];omega
   ·have hj1:j=a:=by omega
    subst hj1;have jz:¬(j:Int) < (j:Int):=by omega
    go_wp2;go_quiet (first | (go_at_call 163;refine Calls.quiet_of_same (al _ _ _)));go_wp2;go_roundw
    case rel=>first | exact OUT.out (Or.inl ao) nq | exact OUT.out (Or.inl trivial) nq
    case measure=>simp[intOf];omega
end Go.Proofs.YtiiojpnckbglcaaGreat
namespace Go.Proofs.YtiiojpnckbglcaaGreat
open Go.Sort
theorem kj {hi F root:Nat} (d:Array Int) (h:hi<=2*root+1):siftDown ltInt hi F root d=d:=by rw[siftDown,dif_pos h]
theorem qm {hi F root ch:Nat} (d:Array Int) (h0:2*root+1 < hi) (hc:ch=if 2*root+2 < hi/\d[F+(2*root+1)]! < d[F+(2*root+2)]! then 2*root+2 else 2*root+1) (hl:d[F+root]! < d[F+ch]!) :
  siftDown ltInt hi F root d=siftDown ltInt hi F ch (swp d (F+root) (F+ch)):=by
 subst hc;rw[siftDown,dif_neg (by omega)];have e:F+(2*root+1)+1=F+(2*root+2):=by omega
 have e2:2*root+1+1=2*root+2:=by omega
 rw[e,e2]
 split at hl<;>rename_i h
 ·simp only[h.1,h.2,hl,ltInt,decide_true,Bool.and_true,if_true,Bool.not_true,Bool.false_eq_true,if_false,dite_true];simp
 ·have hb:(decide (2*root+2 < hi) && ltInt d[F+(2*root+1)]! d[F+(2*root+2)]!)=false:=by
   rw[Bool.and_eq_false_iff];by_cases h1:2*root+2 < hi
   ·right;simp[ltInt];have:=fun h2=>h ⟨h1,h2⟩;omega
   ·left;simpa using h1
  rw[hb,if_neg h,if_neg (by simp)];have hl':ltInt d[F+root]! d[F+(2*root+1)]! = true:=by simpa[ltInt]using hl
  rw[hl',if_neg (by simp)]
theorem lZ {hi F root ch:Nat} (d:Array Int) (h0:2*root+1 < hi) (hc:ch=if 2*root+2 < hi/\d[F+(2*root+1)]! < d[F+(2*root+2)]! then 2*root+2 else 2*root+1) (hl:¬d[F+root]! < d[F+ch]!) :
  siftDown ltInt hi F root d=d:=by
 subst hc;rw[siftDown,dif_neg (by omega)];have e:F+(2*root+1)+1=F+(2*root+2):=by omega
 have e2:2*root+1+1=2*root+2:=by omega
 rw[e,e2]
 split at hl<;>rename_i h
 ·have hl':ltInt d[F+root]! d[F+(2*root+2)]! = false:=by simpa[ltInt]using hl
  have hb:(decide (2*root+2 < hi) && ltInt d[F+(2*root+1)]! d[F+(2*root+2)]!)=true:=by simp[ltInt,h.1,h.2]
  rw[hb,if_pos rfl,hl',if_pos (by simp)]
 ·have hb:(decide (2*root+2 < hi) && ltInt d[F+(2*root+1)]! d[F+(2*root+2)]!)=false:=by
   rw[Bool.and_eq_false_iff];by_cases h1:2*root+2 < hi
   ·right;simp[ltInt];have:=fun h2=>h ⟨h1,h2⟩;omega
   ·left;simpa using h1
  have hl':ltInt d[F+root]! d[F+(2*root+1)]! = false:=by simpa[ltInt]using hl
  rw[hb,if_neg (by simp),hl',if_pos (by simp)]
theorem lh (hi F:Nat):∀(m root:Nat) (d:Array Int),hi-root<=m->(siftDown ltInt hi F root d).size=d.size:=by
 intro m
 induction m with
 | zero=>intro root d h;rw[kj d (by omega)]
 | succ m ih=>
  intro root d h;by_cases h0:hi<=2*root+1
  ·rw[kj d h0]
  ·obtain⟨ch,hc⟩:=af (if 2*root+2 < hi/\d[F+(2*root+1)]! < d[F+(2*root+2)]! then 2*root+2 else 2*root+1)
   by_cases hl:d[F+root]! < d[F+ch]!
   ·rw[qm d (by omega) hc hl,ih ch _ (by split at hc<;>omega),size_swp]
   ·rw[lZ d (by omega) hc hl]
end Go.Proofs.YtiiojpnckbglcaaGreat
