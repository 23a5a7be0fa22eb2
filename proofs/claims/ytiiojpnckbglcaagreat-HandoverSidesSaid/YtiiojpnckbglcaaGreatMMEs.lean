import Derived.Test.YtiiojpnckbglcaaGreatUs
import Derived.Test.YtiiojpnckbglcaaGreatApps
import Derived.Test.YtiiojpnckbglcaaGreatStrs
import Derived.Test.YtiiojpnckbglcaaGreatHNs
import Derived.BigGuardPart
import Derived.BigQuiet
import Derived.Deep.DeepFit
import Derived.Deep.OwnRows
import Derived.Deep.QuietTactic
import Derived.Handy
import Derived.KernelRfl
import Derived.ScopeJumps
import Derived.WalkLawsBesides
import Derived.WalkMore
import Derived.WalkSpells
import Derived.RegionTactic
import Derived.ChangeAlike
set_option maxRecDepth 100000
set_option maxHeartbeats 1600000
set_option linter.unusedVariables false
set_option linter.unusedSimpArgs false
namespace Go.Proofs.YtiiojpnckbglcaaGreat
open Go.RowKit
def eb (first:Nat) (b:Nat->Bool) (i j:Nat):Int:=if j=0 then 0 else if j < 5 then ((first / 2 ^ (8*(4-j)) % 256:Nat):Int) else ((cQ b i (j-5):Nat):Int)
def bT (first:Nat) (b:Nat->Bool) (i m:Nat):List Value:=(List.range m).map (fun j=>.int .u8 (eb first b i j))
theorem fk (first:Nat) (b:Nat->Bool) (i m:Nat):(bT first b i m).length=m:=by simp[bT]
theorem eT (first:Nat) (b:Nat->Bool) (i m j:Nat) (h:j < m):(bT first b i m)[j]? = some (.int .u8 (eb first b i j)):=by simp[bT,h]
theorem nA (first:Nat) (b:Nat->Bool) (i m:Nat) (h5:5<=m) (h:aC b i<=8*(m-5)):bT first b i (m+1)=bT first b i m++[.int .u8 0]:=by
 unfold bT;rw[List.range_succ,List.map_append,List.map_singleton];have:eb first b i m=0:=by
  unfold eb;rw[if_neg (by omega),if_neg (by omega),jP b i _ h];rfl
 rw[this]
theorem n7 (first:Nat) (b:Nat->Bool) (i m:Nat) (h:b i=false):bT first b (i+1) m=bT first b i m:=by
 unfold bT;refine List.map_congr_left fun j hj=>?_;unfold eb;rw[gU b i _ h]
theorem qj (first:Nat) (b:Nat->Bool) (i m:Nat):(bT first b i m).set (5+i / 8) (.int .u8 ((cQ b (i+1) (i / 8):Nat):Int))=bT first b (i+1) m:=by
 refine List.ext_getElem? fun j=>?_;rw[List.getElem?_set];by_cases hj:j < m
 ·rw[eT _ _ _ _ _ hj,fk]
  split
  ·rename_i hjj;subst hjj;rw[if_pos hj,eT _ _ (i+1) _ _ hj];unfold eb;rw[if_neg (by omega),if_neg (by omega),Nat.add_sub_cancel_left]
  ·rename_i hjj;rw[eT _ _ _ _ _ hj];unfold eb;by_cases h5:j < 5
   ·simp[h5]
   ·rw[oC b i _ (by omega)]
 ·rw[List.getElem?_eq_none (by rw[fk];omega),List.getElem?_eq_none (by rw[fk];omega),fk]
  split
  ·rename_i hjj;rw[if_neg (by omega)]
  ·rfl
theorem tL (first:Nat) (hf:first < 4294967296) (b:Nat->Bool):bT first b 0 5=[.int .u8 0,.int .u8 ((first:Int) / 16777216),.int .u8 ((first:Int) / 65536 % 256),.int .u8 ((first:Int) / 256 % 256),.int .u8 ((first:Int) % 256)]:=by
 simp[bT,List.range_succ,eb];omega
def m7 (first n:Nat) (b:Nat->Bool) (w:World) (e:Ending) (w':World):Prop:=
 ∃g cap,e=.returned (.tuple #[.slice (some ⟨g,0,none⟩) (5+(aC b n+7) / 8) cap,.int .i64 0])/\5+(aC b n+7) / 8<=cap/\au w' w'.heap.size (some ⟨g,0,none⟩) (5+(aC b n+7) / 8) (fun j=>.int .u8 (eb first b n j))/\Below w.heap.size w w'
theorem qr (first n c:Nat) (A:Option Addr) (b:Nat->Bool) (w:World) (hf:first < 4294967296) (hn:n<=2047) (hr:au w w.heap.size A n (fun j=>.bool (b j))) :
  Calls Tryz.prog 73 #[.int .u64 (first:Int),.slice A n c] w (m7 first n b w):=by
 have HR:=Lib.hid hr;clear hr;obtain⟨i0,hi0,hz0,hz1,hz2⟩:=info_parts Tryz.infoByte;go_enter Tryz.func73,Tryz.ntmps73;go_wp2;have R0:(w.alloc (.cells #[.int .u8 0,.int .u8 ((first:Int) / 16777216),.int .u8 ((first:Int) / 65536 % 256),.int .u8 ((first:Int) / 256 % 256),.int .u8 ((first:Int) % 256)] 5)).ownsRow w.heap.size 5 1 (.slice (some ⟨w.heap.size,0,none⟩) 5 5) 5 (bT first b 0 5):=by
  rw[tL first hf b]
  exact⟨rfl,.inr ⟨_,_,_,rfl,Nat.le_refl _,heap_alloc_new w _,Nat.le_refl _,by decide,rfl,rfl⟩⟩
 go_loopw [6,46] (fun v6 v46 wr=>∃i:Nat,i<=n/\v46=.int .i64 i/\wr.ownsRow w.heap.size 5 1 v6 (5+(aC b i+7) / 8) (bT first b i (5+(aC b i+7) / 8))/\Below w.heap.size w wr) (fun _ v _=>n-(intOf v).toNat)
 case atStart=>exact⟨0,Nat.zero_le _,rfl,by simpa[aC]using R0,bM _⟩
 case round=>
  obtain⟨i,hi,rfl,hown,hW⟩:=hrel;by_cases hlt:i < n
  ·obtain⟨lb,lo,rfl,hlb,hlc⟩:=HR.out (by omega);have hci:wr.cell? ⟨lb,lo+i,none⟩=some (.bool (b i)):=(hW.cell (p:=⟨lb,lo+i,none⟩) hlb).trans (hlc i hlt);clear hlc
   cases hbi:b i with
   | false=>
    rw[hbi]at hci;have HB:=Lib.hid hbi;clear hbi;go_wp2;go_roundw
    case rel=>exact⟨i+1,by omega,by go_num,by rw[se b i HB.out,n7 first b i _ HB.out];exact hown,hW⟩
    case measure=>simp[intOf];omega
   | true=>
    rw[hbi]at hci;have HB:=Lib.hid hbi;clear hbi;have hll:=gS b i;go_wp2;go_loopw [6] (fun v6 wr=>∃m:Nat,5+(aC b i+7) / 8<=m/\m<=6+i / 8/\wr.ownsRow w.heap.size 5 1 v6 m (bT first b i m)/\Below w.heap.size w wr) (fun v _=>7+i / 8-(match v with | .slice _ n _=>n | _=>0))
    case atStart=>exact⟨_,Nat.le_refl _,by omega,hown,hW⟩
    case round=>
     obtain⟨m,hm1,hm2,hown2,hW2⟩:=hrel;obtain⟨g,cap,rfl,hg,hgl⟩:=np hown2 (by omega);by_cases hm:m<=5+i / 8
     ·go_wp2_with (at_builtin;refine gY _ rfl _ _ 44 rfl w.heap.size 5 i0 (.int .u8 0) 1 Tryz.underlying44 hi0 hz0 hz1 hz2 rfl _ _ _ rfl hown2 _ rfl rfl (by unfold maxLen;omega) (by omega) hW2.size ?_;intro v' w2 hown' hg2);obtain⟨g2,cap2,rfl,hg2',hgl2⟩:=np hown' (by omega);refine⟨⟨m+1,by omega,by omega,by rw[nA first b i m (by omega) (by omega)];exact hown',hW2.trans hg2⟩,?_⟩;show 7+i / 8-(m+1) < 7+i / 8-m;omega
     ·obtain rfl:m=6+i / 8:=by omega
      have hcell:wr.cell? ⟨g,5+i / 8,none⟩=some (.int .u8 ((cQ b i (i / 8):Nat):Int)):=by
       have:=hown2.cells (g:=g) rfl (5+i / 8) _ (eT first b i _ _ (by omega));unfold eb at this;rw[if_neg (by omega),if_neg (by omega),Nat.add_sub_cancel_left]at this;have e:(⟨g,0,none⟩:Addr).add (5+i / 8)=⟨g,5+i / 8,none⟩:=by unfold Addr.add;split<;>simp_all
       rw[<-e];exact this
      have hfr:=hown2.frozenAt (5+i / 8);go_wp2;go_region
      all_goals go_wp2
      go_roundw
      case rel=>
       rw[yj b i HB.out];refine⟨i+1,by omega,by go_num,?_,(hW2.drew).setCell (by simpa using hg) _⟩;have h8:5+(aC b (i+1)+7) / 8=6+i / 8:=by rw[nL b i HB.out];omega
       rw[h8,<-qj]
       exact((hown2.drew).stored _ _).1
      case measure=>simp[intOf];omega
  ·obtain rfl:i=n:=by omega
   go_wp2;go_ret2;obtain⟨g,cap,rfl,hg,hgl,hcap⟩:=ur hown (by omega)
   exact⟨g,cap,rfl,hcap,qF hown (fun j hj=>eT _ _ _ _ _ hj) hgl,hW⟩
def fd (first:Int) (n:Nat):Int:=if 4294967296 < first\/(first=4294967296/\0 < n) then 2 else if 2047 < n then 4 else 0
def dV (first:Int) (n:Nat) (b:Nat->Bool):Nat:=if fd first n ≠ 0 then 0 else if first=4294967296 then 6 else 5+(aC b n+7) / 8
def lw (first:Int) (n:Nat) (b:Nat->Bool) (j:Nat):Int:=if first=4294967296 then eb 4294967295 (fun _=>true) 1 j else eb first.toNat b n j
def fP (first:Int) (n:Nat) (b:Nat->Bool) (w:World) (e:Ending) (w':World):Prop:=
 ∃A cap,e=.returned (.tuple #[.slice A (dV first n b) cap,.int .i64 (fd first n)])/\au w' w'.heap.size A (dV first n b) (fun j=>.int .u8 (lw first n b j))/\Below w.heap.size w w'
theorem vQ (first:Int) (n c:Nat) (A:Option Addr) (b:Nat->Bool) (w:World) (h0:0<=first) (hm:n<=maxLen) (hr:au w w.heap.size A n (fun j=>.bool (b j))) :
  Calls Tryz.prog 73 #[.int .u64 first,.slice A n c] w (fP first n b w):=by
 by_cases h1:4294967296 < first\/(first=4294967296/\0 < n)
 ·have e1:fd first n=2:=by unfold fd;rw[if_pos h1]
  have e2:dV first n b=0:=by unfold dV;rw[if_pos (by rw[e1];decide)]
  have e3:fP first n b w=fun e w'=>∃A cap,e=.returned (.tuple #[.slice A 0 cap,.int .i64 2])/\au w' w'.heap.size A 0 (fun j=>.int .u8 (lw first n b j))/\Below w.heap.size w w':=by
   funext e w';unfold fP;rw[e1,e2]
  rw[e3];clear e1 e2 e3 hr;rcases h1 with h1 | ⟨rfl,h1⟩
  rotate_left
  all_goals
   go_enter Tryz.func73,Tryz.ntmps73;go_wp2;go_ret2
   first | exact⟨none,0,rfl,au.nil,Below.refl _ _⟩ | exact⟨none,⟨0,rfl⟩,au.nil,Below.refl _ _⟩
 ·by_cases h2:2047 < n
  ·have e1:fd first n=4:=by unfold fd;rw[if_neg h1,if_pos h2]
   have e2:dV first n b=0:=by unfold dV;rw[if_pos (by rw[e1];decide)]
   have e3:fP first n b w=fun e w'=>∃A cap,e=.returned (.tuple #[.slice A 0 cap,.int .i64 4])/\au w' w'.heap.size A 0 (fun j=>.int .u8 (lw first n b j))/\Below w.heap.size w w':=by
    funext e w';unfold fP;rw[e1,e2]
   rw[e3];have hlt:first < 4294967296:=by omega
   clear e1 e2 e3 hr h1;go_enter Tryz.func73,Tryz.ntmps73;go_wp2;go_ret2
   first | exact⟨none,0,rfl,au.nil,Below.refl _ _⟩ | exact⟨none,⟨0,rfl⟩,au.nil,Below.refl _ _⟩
  ·have e1:fd first n=0:=by unfold fd;rw[if_neg h1,if_neg h2]
   by_cases h3:first=4294967296
   ·subst h3;obtain rfl:n=0:=by omega
    have e2:dV 4294967296 0 b=6:=by unfold dV;rw[if_neg (by rw[e1];decide),if_pos rfl]
    have e3:fP 4294967296 0 b w=fun e w'=>∃A cap,e=.returned (.tuple #[.slice A 6 cap,.int .i64 0])/\au w' w'.heap.size A 6 (fun j=>.int .u8 (eb 4294967295 (fun _=>true) 1 j))/\Below w.heap.size w w':=by
     funext e w';unfold fP;rw[e1,e2];unfold lw;simp only[if_pos]
    rw[e3];clear e1 e2 e3 hr h1 h2;have hrec:∀w1:World,w1=w.alloc (.cells #[.bool true] 4)->Calls Tryz.prog 73 #[.int .u64 4294967295,.slice (some ⟨w.heap.size,0,none⟩) 1 1] w1 (m7 4294967295 1 (fun _=>true) w1):=by
     intro w1 e;refine qr 4294967295 1 1 _ (fun _=>true) w1 (by decide) (by decide) (fun _=>⟨_,_,rfl,by rw[e];simp,fun j hj=>?_⟩);obtain rfl:j=0:=by omega
     rw[e]
     exact(ae.new w 4 #[.bool true]).cell 0
    have HRec:=Lib.hid hrec;clear hrec;go_enter Tryz.func73,Tryz.ntmps73;go_wp2_with (go_at_call 73;refine(HRec.out _ rfl).mono ?_;rintro e w1 ⟨g,cap,rfl,hg,hR,hb⟩);go_ret2
    exact⟨_,_,rfl,hR,((Below.refl w.heap.size w).alloc ao _).trans (hb.mono (by simp))⟩
   ·obtain⟨f,rfl⟩:∃f:Nat,first=f:=⟨first.toNat,by omega⟩
    refine(qr f n c A b w (by omega) (by omega) hr).mono ?_;rintro e w1 ⟨g,cap,rfl,hg,hR,hb⟩;have e2:dV f n b=5+(aC b n+7) / 8:=by unfold dV;rw[if_neg (by rw[e1];decide),if_neg h3]
    refine⟨_,cap,by rw[e1,e2],?_,hb⟩;rw[e2];refine hR.congr fun j hj=>?_;unfold lw;rw[if_neg h3,Int.toNat_natCast]
end Go.Proofs.YtiiojpnckbglcaaGreat
