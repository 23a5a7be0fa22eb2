import Derived.Test.YtbfpdnnphdagjaaGreatMQz
set_option maxRecDepth 100000
set_option maxHeartbeats 800000
set_option linter.unusedVariables false
set_option linter.unusedSimpArgs false
namespace Go.Proofs.YtbfpdnnphdagjaaGreat
open Go.RowKit
def nc (n:Nat) (z:Nat->Int) (w:World) (e:Ending) (w':World):Prop:=
 ∃A2 c2,e=.returned (.tuple #[.agg #[.int .i64 (if n=0 then 0 else 1),.int .u32 0,.slice none 0 0,.slice A2 n c2],.int .i64 (if n=0 then 5 else 0)])/\az w' w'.heap.size A2 n (fun j=>.int .u8 (z j))/\Below w.heap.size w w'
theorem lh (A:Option Addr) (n c:Nat) (z:Nat->Int) (w:World) (hn:n<=140737488355328) (hr:az w w.heap.size A n (fun j=>.int .u8 (z j))) :
  Calls Tryz.prog 39 #[.slice A n c] w (nc n z w):=by
 have HR:=Lib.hid hr;clear hr;by_cases h0:n=0
 ·subst h0;go_enter Tryz.func39,Tryz.ntmps39;go_wp2;refine bodyPost_ret (v:=.tuple #[.agg #[.int .i64 0,.int .u32 0,.slice none 0 0,.slice none 0 0],.int .i64 5]) (by simp[results,Tryz.results39,go_sem]) rfl ⟨none,0,rfl,az.nil,(Below.refl w.heap.size w).alloc ay _⟩
 ·have hnz:((n:Int) == 0)=false:=by simp;omega
  go_enter Tryz.func39,Tryz.ntmps39;go_wp2_with (go_at_call 25;refine(bL _ _ _ z _ hn (HR.out.alloc ay _ |>.more (by simp))).mono ?_;rintro e w1 ⟨A2,c2,rfl,_,hR,hfr,hb⟩;have R0:ae w1 w.heap.size 62 #[.int .i64 0,.int .u32 0,.slice none 0 0,.slice none 0 0]:=(ae.new _ _ _).below hb (by simp);obtain⟨c0,c1',c2',c3,f0,f1,f2,f3⟩:=R0.four;have R:=Lib.hid R0;clear R0);obtain⟨y0,y1,y2,y3,_,_,_,_⟩:=ae.four (a:=.int .i64 1) (b:=.int .u32 0) (c:=.slice none 0 0) (d:=.slice A2 n c2) ((((R.out.set_ 0 (.int .i64 1)).set_ 1 (.int .u32 0)).set_ 2 (.slice none 0 0)).set_ 3 (.slice A2 n c2));refine bodyPost_ret (v:=.tuple #[.agg #[.int .i64 1,.int .u32 0,.slice none 0 0,.slice A2 n c2],.int .i64 0]) (by simp[results,Tryz.results39,go_sem,y0,y1,y2,y3]) rfl ⟨A2,c2,by rw[if_neg h0,if_neg h0],hR.four_stores R.out (by intro u j hu;simp at hu;rcases hu with rfl | rfl | rfl | rfl | rfl | rfl | rfl | rfl<;>simp),?_⟩
  exact(((((((Below.refl w.heap.size w).alloc ay _).trans (hb.mono (by simp))).setCell (by simp) _).setCell (by simp) _).setCell (by simp) _).setCell (by simp) _)
end Go.Proofs.YtbfpdnnphdagjaaGreat
