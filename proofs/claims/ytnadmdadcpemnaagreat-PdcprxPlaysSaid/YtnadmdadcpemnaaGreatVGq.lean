import Derived.Test.YtnadmdadcpemnaaGreatVFq
namespace Go.Proofs.YtnadmdadcpemnaaGreat
set_option linter.unusedVariables false
set_option linter.unusedSimpArgs false
open Go.RowKit
attribute [local go_sem ↓] Go.wp_at_zero Go.wp_at_succ
theorem subc_ok (i:Int) (x y:Nat) (hx:x < 256) (pb cg:Nat) (w:World) (h1:w.cell? ⟨pb,0,none⟩=some (.pointer (some ⟨cg,0,none⟩))) (h2:w.cell? ⟨cg,x,none⟩=some (.int .u8 y)) :
  Calls Tryz.prog 168 #[.int .i64 i,.int .u8 x,.pointer (some ⟨pb,0,none⟩)] w fun e w'=>e=.returned (.int .u8 y)/\w=w':=by
 have x1:(x:Int) < 256:=by omega
 go_enter Tryz.func168,Tryz.ntmps168;go_wp2;go_ret
 exact⟨rfl,rfl⟩
theorem shiftc_ok (i:Nat) (x:Int) (hi:i < 16) (y:Nat) (bb:Nat) (w:World) (h2:w.cell? ⟨bb,(i+4*(i % 4)) % 16,none⟩=some (.int .u8 y)) :
  Calls Tryz.prog 169 #[.int .i64 i,.int .u8 x,.pointer (some ⟨bb,0,none⟩)] w fun e w'=>e=.returned (.int .u8 y)/\w=w':=by
 go_enter Tryz.func169,Tryz.ntmps169;go_wp2;go_ret
 exact⟨rfl,rfl⟩
end Go.Proofs.YtnadmdadcpemnaaGreat
