import Derived.Test.YtbfpdnnphdagjaaGreatMXCy
set_option maxRecDepth 100000
set_option maxHeartbeats 1600000
set_option linter.unusedVariables false
set_option linter.unusedSimpArgs false
namespace Go.Proofs.YtbfpdnnphdagjaaGreat
open Go.RowKit
def fz (first:Int) (n:Nat):Int:=if 4294967296 < first\/(first=4294967296/\0 < n) then 2 else if 2047 < n then 4 else 0
def ey (first:Int) (n:Nat) (b:Nat->Bool):Nat:=if fz first n ≠ 0 then 0 else if first=4294967296 then 6 else 5+(aq b n+7) / 8
def m6 (first:Int) (n:Nat) (b:Nat->Bool) (j:Nat):Int:=if first=4294967296 then eb 4294967295 (fun _=>true) 1 j else eb first.toNat b n j
def fY (first:Int) (n:Nat) (b:Nat->Bool) (w:World) (e:Ending) (w':World):Prop:=
 ∃A cap,e=.returned (.tuple #[.slice A (ey first n b) cap,.int .i64 (fz first n)])/\aD w' w'.heap.size A (ey first n b) (fun j=>.int .u8 (m6 first n b j))/\Below w.heap.size w w'
theorem yw (first:Int) (n c:Nat) (A:Option Addr) (b:Nat->Bool) (w:World) (h0:0<=first) (hm:n<=maxLen) (hr:aD w w.heap.size A n (fun j=>.bool (b j))) :
  Calls Tryz.prog 40 #[.int .u64 first,.slice A n c] w (fY first n b w):=by
 by_cases h1:4294967296 < first\/(first=4294967296/\0 < n)
 ·have e1:fz first n=2:=by unfold fz;rw[if_pos h1]
  have e2:ey first n b=0:=by unfold ey;rw[if_pos (by rw[e1];decide)]
  have e3:fY first n b w=fun e w'=>∃A cap,e=.returned (.tuple #[.slice A 0 cap,.int .i64 2])/\aD w' w'.heap.size A 0 (fun j=>.int .u8 (m6 first n b j))/\Below w.heap.size w w':=by
   funext e w';unfold fY;rw[e1,e2]
  rw[e3];clear e1 e2 e3 hr;rcases h1 with h1 | ⟨rfl,h1⟩
  rotate_left
  all_goals
   go_enter Tryz.func40,Tryz.ntmps40;go_wp2;go_ret2
   first | exact⟨none,0,rfl,aD.nil,Below.refl _ _⟩ | exact⟨none,⟨0,rfl⟩,aD.nil,Below.refl _ _⟩
 ·by_cases h2:2047 < n
  ·have e1:fz first n=4:=by unfold fz;rw[if_neg h1,if_pos h2]
   have e2:ey first n b=0:=by unfold ey;rw[if_pos (by rw[e1];decide)]
   have e3:fY first n b w=fun e w'=>∃A cap,e=.returned (.tuple #[.slice A 0 cap,.int .i64 4])/\aD w' w'.heap.size A 0 (fun j=>.int .u8 (m6 first n b j))/\Below w.heap.size w w':=by
    funext e w';unfold fY;rw[e1,e2]
   rw[e3];have hlt:first < 4294967296:=by omega
   clear e1 e2 e3 hr h1;go_enter Tryz.func40,Tryz.ntmps40;go_wp2;go_ret2
   first | exact⟨none,0,rfl,aD.nil,Below.refl _ _⟩ | exact⟨none,⟨0,rfl⟩,aD.nil,Below.refl _ _⟩
  ·have e1:fz first n=0:=by unfold fz;rw[if_neg h1,if_neg h2]
   by_cases h3:first=4294967296
   ·subst h3;obtain rfl:n=0:=by omega
    have e2:ey 4294967296 0 b=6:=by unfold ey;rw[if_neg (by rw[e1];decide),if_pos rfl]
    have e3:fY 4294967296 0 b w=fun e w'=>∃A cap,e=.returned (.tuple #[.slice A 6 cap,.int .i64 0])/\aD w' w'.heap.size A 6 (fun j=>.int .u8 (eb 4294967295 (fun _=>true) 1 j))/\Below w.heap.size w w':=by
     funext e w';unfold fY;rw[e1,e2];unfold m6;simp only[if_pos]
    rw[e3];clear e1 e2 e3 hr h1 h2;have hrec:∀w1:World,w1=w.alloc (.cells #[.bool true] 4)->Calls Tryz.prog 40 #[.int .u64 4294967295,.slice (some ⟨w.heap.size,0,none⟩) 1 1] w1 (j8 4294967295 1 (fun _=>true) w1):=by
     intro w1 e;refine nX 4294967295 1 1 _ (fun _=>true) w1 (by decide) (by decide) (fun _=>⟨_,_,rfl,by rw[e];simp,fun j hj=>?_⟩);obtain rfl:j=0:=by omega
     rw[e]
     exact(ae.new w 4 #[.bool true]).cell 0
    have HRec:=Lib.hid hrec;clear hrec;go_enter Tryz.func40,Tryz.ntmps40;go_wp2_with (go_at_call 40;refine(HRec.out _ rfl).mono ?_;rintro e w1 ⟨g,cap,rfl,hg,hR,hb⟩);go_ret2
    exact⟨_,_,rfl,hR,((Below.refl w.heap.size w).alloc ay _).trans (hb.mono (by simp))⟩
   ·obtain⟨f,rfl⟩:∃f:Nat,first=f:=⟨first.toNat,by omega⟩
    refine(nX f n c A b w (by omega) (by omega) hr).mono ?_;rintro e w1 ⟨g,cap,rfl,hg,hR,hb⟩;have e2:ey f n b=5+(aq b n+7) / 8:=by unfold ey;rw[if_neg (by rw[e1];decide),if_neg h3]
    refine⟨_,cap,by rw[e1,e2],?_,hb⟩;rw[e2];refine hR.congr fun j hj=>?_;unfold m6;rw[if_neg h3,Int.toNat_natCast]
end Go.Proofs.YtbfpdnnphdagjaaGreat
