import Derived.Test.YtbfpdnnphdagjaaGreatMEy
import Derived.ChangeAlike
set_option maxRecDepth 100000
set_option maxHeartbeats 1600000
set_option linter.unusedVariables false
set_option linter.unusedSimpArgs false
namespace Go.Proofs.YtbfpdnnphdagjaaGreat
open Go.RowKit
def j8 (first n:Nat) (b:Nat->Bool) (w:World) (e:Ending) (w':World):Prop:=
 ∃g cap,e=.returned (.tuple #[.slice (some ⟨g,0,none⟩) (5+(aq b n+7) / 8) cap,.int .i64 0])/\5+(aq b n+7) / 8<=cap/\aD w' w'.heap.size (some ⟨g,0,none⟩) (5+(aq b n+7) / 8) (fun j=>.int .u8 (eb first b n j))/\Below w.heap.size w w'
theorem nX (first n c:Nat) (A:Option Addr) (b:Nat->Bool) (w:World) (hf:first < 4294967296) (hn:n<=2047) (hr:aD w w.heap.size A n (fun j=>.bool (b j))) :
  Calls Tryz.prog 40 #[.int .u64 (first:Int),.slice A n c] w (j8 first n b w):=by
 have HR:=Lib.hid hr;clear hr;obtain⟨i0,hi0,hz0,hz1,hz2⟩:=info_parts Tryz.infoByte;go_enter Tryz.func40,Tryz.ntmps40;go_wp2;have R0:(w.alloc (.cells #[.int .u8 0,.int .u8 ((first:Int) / 16777216),.int .u8 ((first:Int) / 65536 % 256),.int .u8 ((first:Int) / 256 % 256),.int .u8 ((first:Int) % 256)] 5)).ownsRow w.heap.size 5 1 (.slice (some ⟨w.heap.size,0,none⟩) 5 5) 5 (cI first b 0 5):=by
  rw[wy first hf b]
  exact⟨rfl,.inr ⟨_,_,_,rfl,Nat.le_refl _,heap_alloc_new w _,Nat.le_refl _,by decide,rfl,rfl⟩⟩
 go_loopw [6,46] (fun v6 v46 wr=>∃i:Nat,i<=n/\v46=.int .i64 i/\wr.ownsRow w.heap.size 5 1 v6 (5+(aq b i+7) / 8) (cI first b i (5+(aq b i+7) / 8))/\Below w.heap.size w wr) (fun _ v _=>n-(intOf v).toNat)
 case atStart=>exact⟨0,Nat.zero_le _,rfl,by simpa[aq]using R0,bU _⟩
 case round=>
  obtain⟨i,hi,rfl,hown,hW⟩:=hrel;by_cases hlt:i < n
  ·obtain⟨lb,lo,rfl,hlb,hlc⟩:=HR.out (by omega);have hci:wr.cell? ⟨lb,lo+i,none⟩=some (.bool (b i)):=(hW.cell (p:=⟨lb,lo+i,none⟩) hlb).trans (hlc i hlt);clear hlc
   cases hbi:b i with
   | false=>
    rw[hbi]at hci;have HB:=Lib.hid hbi;clear hbi;go_wp2;go_roundw
    case rel=>exact⟨i+1,by omega,by go_num,by rw[ta b i HB.out,py first b i _ HB.out];exact hown,hW⟩
    case measure=>simp[intOf];omega
   | true=>
    rw[hbi]at hci;have HB:=Lib.hid hbi;clear hbi;have hll:=dH b i;go_wp2;go_loopw [6] (fun v6 wr=>∃m:Nat,5+(aq b i+7) / 8<=m/\m<=6+i / 8/\wr.ownsRow w.heap.size 5 1 v6 m (cI first b i m)/\Below w.heap.size w wr) (fun v _=>7+i / 8-(match v with | .slice _ n _=>n | _=>0))
    case atStart=>exact⟨_,Nat.le_refl _,by omega,hown,hW⟩
    case round=>
     obtain⟨m,hm1,hm2,hown2,hW2⟩:=hrel;obtain⟨g,cap,rfl,hg,hgl⟩:=qr hown2 (by omega);by_cases hm:m<=5+i / 8
     ·go_wp2_with (at_builtin;refine iv _ rfl _ _ 41 rfl w.heap.size 5 i0 (.int .u8 0) 1 Tryz.underlying41 hi0 hz0 hz1 hz2 rfl _ _ _ rfl hown2 _ rfl rfl (by unfold maxLen;omega) (by omega) hW2.size ?_;intro v' w2 hown' hg2);obtain⟨g2,cap2,rfl,hg2',hgl2⟩:=qr hown' (by omega);refine⟨⟨m+1,by omega,by omega,by rw[pS first b i m (by omega) (by omega)];exact hown',hW2.trans hg2⟩,?_⟩;show 7+i / 8-(m+1) < 7+i / 8-m;omega
     ·obtain rfl:m=6+i / 8:=by omega
      have hcell:wr.cell? ⟨g,5+i / 8,none⟩=some (.int .u8 ((bu b i (i / 8):Nat):Int)):=by
       have:=hown2.cells (g:=g) rfl (5+i / 8) _ (fd first b i _ _ (by omega));unfold eb at this;rw[if_neg (by omega),if_neg (by omega),Nat.add_sub_cancel_left]at this;have e:(⟨g,0,none⟩:Addr).add (5+i / 8)=⟨g,5+i / 8,none⟩:=by unfold Addr.add;split<;>simp_all
       rw[<-e];exact this
      have hfr:=hown2.frozenAt (5+i / 8);go_wp2;go_region
      all_goals go_wp2
      go_roundw
      case rel=>
       rw[AR b i HB.out];refine⟨i+1,by omega,by go_num,?_,(hW2.drew).setCell (by simpa using hg) _⟩;have h8:5+(aq b (i+1)+7) / 8=6+i / 8:=by rw[qz b i HB.out];omega
       rw[h8,<-q9]
       exact((hown2.drew).stored _ _).1
      case measure=>simp[intOf];omega
  ·obtain rfl:i=n:=by omega
   go_wp2;go_ret2;obtain⟨g,cap,rfl,hg,hgl,hcap⟩:=wS hown (by omega)
   exact⟨g,cap,rfl,hcap,sq hown (fun j hj=>fd _ _ _ _ _ hj) hgl,hW⟩
end Go.Proofs.YtbfpdnnphdagjaaGreat
