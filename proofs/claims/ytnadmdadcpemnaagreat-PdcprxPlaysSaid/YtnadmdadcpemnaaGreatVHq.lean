import Derived.Test.YtnadmdadcpemnaaGreatVGq
set_option maxRecDepth 100000
namespace Go.Proofs.YtnadmdadcpemnaaGreat
set_option linter.unusedVariables false
set_option linter.unusedSimpArgs false
open Go.RowKit
attribute [local go_sem ↓] Go.wp_at_zero Go.wp_at_succ
theorem addc_ok (i n x y:Nat) (hi:i < 16) (hn:n < 11) (hx:x < 256) (hy:y < 256) (pb nb cg:Nat) (w:World) (h1:w.cell? ⟨pb,0,none⟩=some (.pointer (some ⟨cg,0,none⟩))) (h2:w.cell? ⟨nb,0,none⟩=some (.int .i64 n)) (h3:w.cell? ⟨cg,512+n*16+i,none⟩=some (.int .u8 y)) :
  Calls Tryz.prog 167 #[.int .i64 i,.int .u8 x,.pointer (some ⟨pb,0,none⟩),.pointer (some ⟨nb,0,none⟩)] w fun e w'=>e=.returned (.int .u8 (x ^^^ y:Nat))/\Below w.heap.size w w':=by
 have i0:(0:Int)<=(i:Int):=by omega
 have i1:(i:Int) < 16:=by omega
 have n0:(0:Int)<=(n:Int):=by omega
 have n1:(n:Int) < 11:=by omega
 have hb:=bx x y (x ^^^ y) hx hy rfl;go_enter Tryz.func167,Tryz.ntmps167;go_upto_region 1 with (fail)
 go_quiet (fail);go_wp2;go_ret
 exact⟨rfl,below_drewN (Below.refl _ _) _⟩
end Go.Proofs.YtnadmdadcpemnaaGreat
