import Derived.Test.YtnadmdadcpemnaaGreatMIDx
import Derived.Test.YtnadmdadcpemnaaGreatMIFx
import Derived.Test.YtnadmdadcpemnaaGreatMIIx
import Derived.Deep.Cut
import Derived.Deep.CutRange
import Derived.Deep.LoopGhost
namespace Go.Proofs.YtnadmdadcpemnaaGreat
open Go.RowKit Go.Sort
set_option linter.unusedVariables false
set_option linter.unusedSimpArgs false
attribute [local go_sem ↓] Go.wp_at_zero Go.wp_at_succ
private theorem zh {p:Prop} (h:p):Go.RowKit.Hid p:=h
def ST (w:World) (B n a b:Nat) (d:Array Int) (a' b':Nat) (dk:Array Int) (V:World):Prop:=PQ a b d a' b' dk∧UArr V B n dk∧KeepF (fun k=>k=B) w V
section
variable {w V V2:World} {B n a b a' b' mid:Nat} {d dk d2 d3:Array Int}
theorem ST.step (h:ST w B n a b d a' b' dk V) (h2:SO V V2 B n a' b' dk d2):ST w B n a b d a' b' d2 V2:=⟨h.1.perm h2.1,h2.2.1,h.2.2.trans h2.2.2 (fun _ _ e=>e)⟩
theorem ST.below (h:ST w B n a b d a' b' dk V) (hb:RowKit.Below V.heap.size V V2):ST w B n a b d a' b' dk V2:=⟨h.1,h.2.1.keepF (KeepF.of_below (F:=fun _=>False) hb) (fun e=>e),h.2.2.trans (KeepF.of_below (F:=fun _=>False) hb) (fun _ _ e=>e.elim)⟩
theorem ST.drew (h:ST w B n a b d a' b' dk V) (q:Nat):ST w B n a b d a' b' dk (V.drewN q):=⟨h.1,h.2.1.drew q,h.2.2.drewN q⟩
theorem ST.done (h:ST w B n a b d a' b' dk V) (h2:SO V V2 B n a' b' dk d2) (hs:SortedIn ltInt a' b' d2):∃d',SortedIn ltInt a b d'∧SO w V2 B n a b d d':=by
 obtain⟨h3,h4⟩:=h.1.go d2 h2.1 hs
 exact⟨d2,h4,h3,h2.2.1,h.2.2.trans h2.2.2 (fun _ _ e=>e)⟩
theorem ST.left (h:ST w B n a b d a' b' dk V) (hp:PartO a' b' dk mid d2) (hk:KeepF (fun k=>k=B) V V2) (V3:World) (h3:SO V2 V3 B n a' mid d2 d3) (hs:SortedIn ltInt a' mid d3):ST w B n a b d (mid+1) b' d3 V3:=
 ⟨h.1.left hp h3.1 hs,h3.2.1,(h.2.2.trans hk (fun _ _ e=>e)).trans h3.2.2 (fun _ _ e=>e)⟩
theorem ST.right (h:ST w B n a b d a' b' dk V) (hp:PartO a' b' dk mid d2) (hk:KeepF (fun k=>k=B) V V2) (V3:World) (h3:SO V2 V3 B n (mid+1) b' d2 d3) (hs:SortedIn ltInt (mid+1) b' d3):ST w B n a b d a' mid d3 V3:=
 ⟨h.1.right hp h3.1 hs,h3.2.1,(h.2.2.trans hk (fun _ _ e=>e)).trans h3.2.2 (fun _ _ e=>e)⟩
end
theorem low_right {a b mid:Nat} {d d1:Array Int} (hn:d1.toList.Nodup) (hb:b≤d1.size) (hp:PartO a b d mid d1):BelowS (mid+1) b d1:=Or.inr fun i h1 h2=>by
 have hne:=nodup_ne hn (i:=mid) (j:=i) (by have:=hp.mb;omega) (by omega) (by omega)
 have:=hp.hi i (by omega) h2
 rw[Nat.add_sub_cancel]
 omega
set_option maxRecDepth 1000000 in
set_option maxHeartbeats 16000000 in
theorem pdq_ok (B c n:Nat) (hn:n≤250):∀(N a b:Nat) (m:Int) (d:Array Int) (w:World),b-a < N→d.size=n→a≤b→b≤n→d.toList.Nodup→BelowS a b d→UArr w B n d→
  Calls Tryz.prog 93 #[.slice (some ⟨B,0,none⟩) n c,.int .i64 a,.int .i64 b,.int .i64 m] w fun e w'=>e=.returned (.tuple #[])∧∃d',SortedIn ltInt a b d'∧SO w w' B n a b d d':=by
 intro N
 induction N with
 | zero=>intro _ _ _ _ _ h;exact absurd h (Nat.not_lt_zero _)
 | succ N ih=>
  intro a b m d w hN hd hab hb hnd hlow hU
  have HST0:=zh (show ST w B n a b d a b d w from ⟨PQ.start hab (by omega) hnd hlow,hU,KeepF.refl⟩)
  have HR:=zh (show n≤250∧b≤n∧b-a≤N from by omega)
  have HSZ:=zh (show ∀(a' b':Nat) (dk:Array Int) (V:World),ST w B n a b d a' b' dk V→dk.size=n∧a'≤b'∧b'≤n from fun _ _ _ _ h=>⟨h.1.sz.trans hd,h.1.ab,by have:=h.1.bs;rw[h.1.sz]at this;omega⟩)
  have HIH:=zh ih
  clear ih hN hd hab hb hnd hlow hU
  go_enter Tryz.func93,Tryz.ntmps93
  go_wp2
  go_loopg [1,2,3,8,9] (b-a) (fun k s1 s2 s3 s8 s9 wr=>∃(a' b':Nat) (lim:Int) (wb wp:Bool) (dk:Array Int),s1=.int .i64 a'∧s2=.int .i64 b'∧s3=.int .i64 lim∧s8=.bool wb∧s9=.bool wp∧b'-a'≤k∧k≤b-a∧ST w B n a b d a' b' dk wr)
  case atStart=>exact⟨a,b,m,true,true,d,rfl,rfl,rfl,rfl,rfl,Nat.le_refl _,Nat.le_refl _,HST0.out⟩
  case round=>
   obtain⟨a',b',lim,wb,wp,dk,rfl,rfl,rfl,rfl,rfl,hk,hkN,hS⟩:=hrel
   have HS:=zh hS
   obtain⟨z1,z2,z3⟩:=HSZ.out _ _ _ _ hS
   have hr:=HR.out
   clear hS
   obtain⟨L,hL⟩:∃L,L=b'-a':=⟨_,rfl⟩
   have v1:IntKind.i64.wrap ((b':Int)-(a':Int))=(L:Int):=by simp[IntKind.wrap_i64];omega
   by_cases h12:L≤12
   ·have h12z:(L:Int)≤12:=by omega
    have HC:=zh (uinsA_ok B c n a' b' dk z1 (by omega) z2 z3 wr HS.out.2.1)
    clear hL hk hkN
    go_wp2_with (go_at_call 110;refine(HC.out).mono ?_;rintro e w1 ⟨rfl,d2,hs,ho⟩;have H1:=zh hs;have H2:=zh ho;clear hs ho)
    (try simp only[Exit.inBlock,Exit.then])
    refine bodyPost_ret (v:=.tuple #[]) (by simp[results,Tryz.results93,go_sem]) rfl ?_
    exact⟨rfl,HS.out.done H2.out H1.out⟩
   have h12z:¬(L:Int)≤12:=by omega
   have HL:=zh (show L=b'-a'∧12 < L from ⟨hL,by omega⟩)
   have HG:=zh (And.intro hk hkN)
   by_cases hl0:lim=0
   ·have HC:=zh (heap_ok B c n a' b' dk z1 (by omega) (by omega) z3 wr HS.out.2.1)
    subst hl0
    clear hL hk hkN
    go_wp2_with (go_at_call 111;refine(HC.out).mono ?_;rintro e w1 ⟨rfl,d2,hs,ho⟩;have H1:=zh hs;have H2:=zh ho;clear hs ho)
    (try simp only[Exit.inBlock,Exit.then])
    refine bodyPost_ret (v:=.tuple #[]) (by simp[results,Tryz.results93,go_sem]) rfl ?_
    exact⟨rfl,HS.out.done H2.out H1.out⟩
   have HZ:=zh (And.intro z1 (And.intro z2 z3))
   clear hL hk hkN z1 z2 z3
   go_upto_if 35 with fail
   go_cut [3]from 19 (fun s3 wc=>∃(l2:Int) (d1:Array Int),s3=.int .i64 l2∧ST w B n a b d a' b' d1 wc)
   case first=>
    have HC:=zh (break_ok B c n a' b' dk HZ.out.1 (by omega) (by have:=HL.out;omega) HZ.out.2.2 wr HS.out.2.1)
    cases wb
    ·go_wp2_with (go_at_call 112;refine(HC.out).mono ?_;rintro e w1 ⟨rfl,d2,ho⟩;have H2:=zh ho;clear ho)
     go_meet
     case rel=>exact⟨_,d2,rfl,HS.out.step H2.out⟩
    ·go_wp2_with fail
     go_meet
     case rel=>exact⟨lim,dk,rfl,HS.out⟩
   case rest=>
    obtain⟨l2,d1,rfl,hS1⟩:=hcut
    have HS1:=zh hS1
    have HZ1:=zh (HSZ.out _ _ _ _ hS1)
    have HC:=zh (pivot_ok B c n a' b' d1 (by omega) (by have:=HL.out;omega) HZ.out.2.2 wc hS1.2.1)
    clear hS1 HS hl0
    go_upto_if 50 with (go_at_call 113;refine(HC.out).mono ?_;rintro e w2 ⟨p,t,rfl,hp,hb⟩;have HP:=zh hp;have HS2:=zh (HS1.out.below hb);clear hp hb)
    go_cut [11,12]from 19 (fun s11 s12 wc=>∃(p:Nat) (t:Int) (d2:Array Int),s11=.int .i64 p∧s12=.int .i64 t∧(a'≤p∧p < b')∧ST w B n a b d a' b' d2 wc)
    case first=>
     by_cases ht:t=2
     ·subst ht
      have HC:=zh (rev_ok B c n a' b' d1 HZ1.out.1 (by omega) (by have:=HL.out;omega) HZ.out.2.2 w2 HS2.out.2.1)
      obtain⟨p2,hp2⟩:∃p2,p2=(b'-1)-(p-a'):=⟨_,rfl⟩
      obtain⟨b1,hb1⟩:∃b1,b1=b'-1:=⟨_,rfl⟩
      obtain⟨pa,hpa⟩:∃pa,pa=p-a':=⟨_,rfl⟩
      have hpp:=HP.out
      have hzz:=HZ.out
      have v2:IntKind.i64.wrap ((b':Int)-1)=(b1:Int):=by simp[IntKind.wrap_i64];omega
      have v3:IntKind.i64.wrap ((p:Int)-(a':Int))=(pa:Int):=by simp[IntKind.wrap_i64];omega
      have v4:IntKind.i64.wrap ((b1:Int)-(pa:Int))=(p2:Int):=by simp[IntKind.wrap_i64];omega
      have HP2:=zh (show a'≤p2∧p2 < b' from by omega)
      clear hp2 hb1 hpa hpp hzz
      go_wp2_with (go_at_call 114;refine(HC.out).mono ?_;rintro e w1 ⟨rfl,d2,ho⟩;have H2:=zh ho;clear ho)
      go_meet
      case rel=>exact⟨p2,1,d2,rfl,rfl,HP2.out,HS2.out.step H2.out⟩
     ·go_wp2_with fail
      go_meet
      case rel=>exact⟨p,t,d1,rfl,rfl,HP.out,HS2.out⟩
    case rest=>
     clear HP
     obtain⟨p,t,d2,rfl,rfl,hp,hS2⟩:=hcut
     have HP:=zh hp
     have HS2:=zh hS2
     have HZ2:=zh (HSZ.out _ _ _ _ hS2)
     clear hp hS2 HS1 HC
     go_upto_region 15 with fail
     go_cut [68]from 19 (fun s68 wx=>(∃q:Bool,s68=.bool q)∧wx=wc)
     case first=>
      by_cases ht:t=1
      ·subst ht
       cases wb<;>cases wp<;>(go_wp2_with fail;go_meet;exact⟨⟨_,rfl⟩,rfl⟩)
      ·cases wb<;>cases wp<;>(go_wp2_with fail;go_meet;exact⟨⟨_,rfl⟩,rfl⟩)
     case rest=>
      obtain⟨⟨q,rfl⟩,rfl⟩:=hcut
      go_upto_if 68 with fail
      go_cut []from 19 (fun wx=>∃d3,ST w B n a b d a' b' d3 wx)
      case first=>
       have HC:=zh (pins_ok B c n a' b' d2 HZ2.out.1 (by omega) (by have:=HL.out;omega) HZ.out.2.2 HS2.out.1.low wc HS2.out.2.1)
       cases q
       ·go_wp2_with fail
        go_meet
        case rel=>exact⟨d2,HS2.out⟩
       ·go_wp2_with (go_at_call 115;refine(HC.out).mono ?_;rintro e w4 ⟨tt,d3,rfl,ho,hs⟩;have H2:=zh ho;have H3:=zh hs;clear ho hs)
        all_goals first
         | (have htt:tt=false:=(by assumption);go_meet;exact⟨d3,HS2.out.step H2.out⟩)
         | (have htt:tt=true:=(by assumption);(try simp only[Exit.inBlock,Exit.then]);refine bodyPost_ret (v:=.tuple #[]) (by simp[results,Tryz.results93,go_sem]) rfl ?_;exact⟨rfl,HS2.out.done H2.out (H3.out htt)⟩)
      case rest=>
       obtain⟨d3,hS3⟩:=hcut
       have HS3:=zh hS3
       have HZ3:=zh (HSZ.out _ _ _ _ hS3)
       clear hS3 HS2
       obtain⟨y,hy⟩:∃y,y=d3[p]!:=⟨_,rfl⟩
       have hpp:=HP.out
       have hzz:=HZ3.out
       have c1:wc.cell? ⟨B,p,none⟩=some (.int .u64 y):=by rw[hy];exact HS3.out.2.1.cell (by omega)
       have f1:=HS3.out.2.1.fr p
       have l1:(p:Int) < (n:Int):=by omega
       go_upto_region 17 with fail
       go_cut [87]from 19 (fun s87 wx=>s87=.bool false∧ST w B n a b d a' b' d3 wx)
       case first=>
        rcases Nat.eq_zero_or_pos a' with ha0 | ha0
        ·subst ha0
         have u1:¬(0:Int) < 0:=by omega
         go_quiet (first | (go_at_call 116;refine Calls.quiet_of_same (less_ok _ _ _)))
         go_wp2_with fail
         go_meet
         case rel=>exact⟨rfl,HS3.out.drew nq⟩
        ·have u1:(0:Int) < (a':Int):=by omega
         obtain⟨a0,ha1⟩:∃a0,a0=a'-1:=⟨_,rfl⟩
         have u2:IntKind.i64.wrap ((a':Int)-1)=(a0:Int):=by simp[IntKind.wrap_i64];omega
         obtain⟨x,hx⟩:∃x,x=d3[a0]!:=⟨_,rfl⟩
         have c0:wc.cell? ⟨B,a0,none⟩=some (.int .u64 x):=by rw[hx];exact HS3.out.2.1.cell (by omega)
         have f0:=HS3.out.2.1.fr a0
         have l0:(a0:Int) < (n:Int):=by omega
         have hxy:x < y:=by
          rcases HS3.out.1.low with h0 | h0
          ·omega
          ·rw[hx,hy,ha1];exact h0 p hpp.1 hpp.2
         have dxy:decide (x < y)=true:=by simpa using hxy
         clear hx hy ha1
         go_quiet (first | (go_at_call 116;refine Calls.quiet_of_same (less_ok _ _ _)))
         go_wp2_with fail
         go_meet
         case rel=>exact⟨rfl,HS3.out.drew nq⟩
       case rest=>
        obtain⟨rfl,hS4⟩:=hcut
        have HS4:=zh hS4
        have HC:=zh (part_ok B c n a' b' p d3 hzz.1 (by omega) hpp.1 hpp.2 hzz.2.2 wc hS4.2.1)
        obtain⟨q8,hq8⟩:∃q8,q8=L / 8:=⟨_,rfl⟩
        have v5:Int.tdiv (L:Int) 8=(q8:Int):=by rw[hq8];simp[Int.tdiv_eq_ediv]
        have v6:IntKind.i64.wrap (q8:Int)=(q8:Int):=by have:=HL.out;simp[IntKind.wrap_i64];omega
        clear hS4 HS3 c1 f1 l1 hy hpp hzz hq8
        go_upto_if 113 with (go_at_call 118;refine(HC.out).mono ?_;rintro e w7 ⟨mid,ap,d4,rfl,hpo,hu,hk⟩;have HPO:=zh hpo;have HU7:=zh hu;have HK7:=zh hk;have hm1:=hpo.am;have hm2:=hpo.mb;obtain⟨l1,hl1⟩:∃l1,l1=mid-a':=⟨_,rfl⟩;obtain⟨l3,hl3⟩:∃l3,l3=b'-mid:=⟨_,rfl⟩;obtain⟨m1,hm3⟩:∃m1,m1=mid+1:=⟨_,rfl⟩;have hz0:=HZ.out;have u1:IntKind.i64.wrap ((mid:Int)-(a':Int))=(l1:Int):=(by simp[IntKind.wrap_i64];omega);have u2:IntKind.i64.wrap ((b':Int)-(mid:Int))=(l3:Int):=(by simp[IntKind.wrap_i64];omega);have u3:IntKind.i64.wrap ((mid:Int)+1)=(m1:Int):=(by simp[IntKind.wrap_i64];omega);have HM:=zh (show l1=mid-a'∧l3=b'-mid∧m1=mid+1∧a'≤mid∧mid < b' from ⟨hl1,hl3,hm3,hm1,hm2⟩);clear hl1 hl3 hm3 hm1 hm2 hz0 hpo hu hk)
        have HQ:=zh (HS4.out.1.perm HPO.out.perm)
        have hzz:=HZ.out
        have HD4:=zh (show d4.size=n from HPO.out.perm.1.trans HZ3.out.1)
        have hmm:=HM.out
        have hg:=HG.out
        by_cases h4:l1 < l3
        ·have h4z:(l1:Int) < (l3:Int):=by omega
         have HI:=zh (HIH.out a' mid l2 d4 w7 (by omega) HD4.out hmm.2.2.2.1 (by omega) HQ.out.nd (HQ.out.low.imp id fun h i h1 h2=>h i h1 (by omega)) HU7.out)
         clear hmm hg hzz h4
         go_wp2_with (go_at_call 93;refine(HI.out).mono ?_;rintro e w8 ⟨rfl,d5,hs,ho⟩;have H1:=zh hs;have H2:=zh ho;clear hs ho)
         go_roundg (b'-m1)
         case measure=>have:=HM.out;have:=HG.out;omega
         case rel=>exact⟨m1,b',l2,_,ap,d5,rfl,rfl,rfl,rfl,rfl,Nat.le_refl _,by have:=HM.out;have:=HG.out;omega,by rw[HM.out.2.2.1];exact HS4.out.left HPO.out HK7.out _ H2.out H1.out⟩
        ·have h4z:¬(l1:Int) < (l3:Int):=by omega
         have HI:=zh (show Calls Tryz.prog 93 #[.slice (some ⟨B,0,none⟩) n c,.int .i64 m1,.int .i64 b',.int .i64 l2] w7 fun e w'=>e=.returned (.tuple #[])∧∃d',SortedIn ltInt (mid+1) b' d'∧SO w7 w' B n (mid+1) b' d4 d' from by
          rw[hmm.2.2.1];exact HIH.out (mid+1) b' l2 d4 w7 (by omega) HD4.out (by omega) hzz.2.2 HQ.out.nd (low_right HQ.out.nd HQ.out.bs HPO.out) HU7.out)
         clear hmm hg hzz h4
         go_wp2_with (go_at_call 93;refine(HI.out).mono ?_;rintro e w8 ⟨rfl,d5,hs,ho⟩;have H1:=zh hs;have H2:=zh ho;clear hs ho)
         go_roundg (mid-a')
         case measure=>have:=HM.out;have:=HG.out;omega
         case rel=>exact⟨a',mid,l2,_,ap,d5,rfl,rfl,rfl,rfl,rfl,Nat.le_refl _,by have:=HM.out;have:=HG.out;omega,HS4.out.right HPO.out HK7.out _ H2.out H1.out⟩
end Go.Proofs.YtnadmdadcpemnaaGreat
