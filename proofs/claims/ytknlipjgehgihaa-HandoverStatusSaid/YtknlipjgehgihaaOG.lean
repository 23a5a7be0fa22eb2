/- handover.Status of a resumed receiver. -/
import Derived.Test.YtknlipjgehgihaaOF
import Derived.Deep.MidRow
namespace Go.Proofs.Ytknlipjgehgihaa
open Go.RowKit

attribute [local go_sem ↓] Go.wp_at_zero Go.wp_at_succ

theorem rx_split (d nx : Int) (mS mU eb : Nat) : rxArr d nx mS mU eb = z39 ++ #[.bool true, .int .i64 0, .int .u64 d, .int .u64 nx, .map (some mS), .bool false, .int .u64 0, .int .i64 0, .map (some mU), .pointer (some ⟨eb, 0, none⟩), .slice none 0 0, .int .i64 0] := by
  unfold rxArr z39
  rfl
theorem rx_range {w : World} {rb mS mU eb : Nat} {d nx : Int} (h : Blk w rb 75 (rxArr d nx mS mU eb)) : w.rangeAt rb 0 z39.toList := fun j v hj => by
  rw [Nat.zero_add, h.cell j, rx_split]
  have hj' : z39[j]? = some v := by simpa using hj
  have hl : j < z39.size := by
    rcases Nat.lt_or_ge j z39.size with h1 | h1
    · exact h1
    · rw [Array.getElem?_eq_none h1] at hj'; cases hj'
  rw [Array.getElem?_append_left hl]
  exact hj'
theorem sizePdL : (Try.prog.info? 38).map (·.size) = some z39.toList.length := by
  rw [Array.length_toList]; exact sizePd
set_option maxRecDepth 100000 in
theorem rconf_made (rb mS mU eb : Nat) (d nx : Int) (w : World) (hR : Blk w rb 75 (rxArr d nx mS mU eb)) : Calls Try.prog 29 #[.pointer (some ⟨rb, 0, none⟩)] w fun e w' => e = .returned (.tuple #[.agg z39, .int .i64 0]) ∧ Below w.heap.size w w' := by
  have HN := Lib.hid (fun W hW => rnone_made rb W hW)
  have HRG := Lib.hid (fun W (hW : Blk W rb 75 (rxArr d nx mS mU eb)) => rx_range hW)
  have HT := Lib.hid (hR.alloc (.cells z39 38))
  have h39 : (w.alloc (.cells z39 38)).cell? ⟨rb, 39, none⟩ = some (.bool true) := HT.out.cell 39
  have H39 := Lib.hid h39
  clear hR h39
  have HS : Hid ((Try.prog.info? 38).map (·.size) = some z39.size) := Lib.hid sizePd
  have HSL : Hid ((Try.prog.info? 38).map (·.size) = some z39.toList.length) := Lib.hid sizePdL
  go_enter Try.func29, Try.ntmps29
  go_wp2_with (first
    | (go_at_call 54; refine (HN.out _ H39.out).mono ?_; rintro e w1 ⟨rfl, rfl⟩)
    | (refine wpList_load_mid rfl 38 _ rfl rb 0 rfl z39.toList _ (HRG.out _ HT.out) Try.underlying38 rfl HSL.out ?_)
    | (refine wpList_store_row rfl _ _ _ rfl w.heap.size z39 rfl rfl 38 z39 (Blk.new w _ _) HS.out rfl z39_one ?_))
  refine bodyPost_ret (v := .tuple #[.agg z39, .int .i64 0]) (results_cell_one (g := w.heap.size) (t := 38) (fr := (0, 0)) Try.results29 _ _ z39 _ rfl (Blk.setRow (Blk.new w _ _)) Try.underlying38 rfl HS.out _ rfl) rfl ⟨rfl, belowRow ((Below.refl _ w).alloc (Nat.le_refl _) _) (Nat.le_refl _) _⟩
set_option maxRecDepth 100000 in
theorem hstatus_made (rb mS mU eb : Nat) (d nx : Int) (L : List Int) (w : World) (hR : Blk w rb 75 (rxArr d nx mS mU eb)) (hS : UB w mS L) (hd : 0 ≤ d) (hh : headOk d nx) :
    Calls Try.prog 8 #[.pointer (some ⟨rb, 0, none⟩)] w (EncAny d (stN d nx) (stB L d) w) := by
  have hsm : stN d nx ≤ maxLen := by obtain ⟨h1, h2, h3⟩ := hh; unfold stN maxLen; omega
  have HR := Lib.hid (rconf_made rb mS mU eb d nx w hR)
  have HB := Lib.hid hR
  have SS := Lib.hid hS
  have HST := Lib.hid (fun W h1 h2 => rxstat_ok rb mS mU eb d nx L W h1 h2 hd hh)
  have HE := Lib.hid (fun A c W h => enc_any d (stN d nx) c A (stB L d) W hd hsm h)
  have HS : Hid ((Try.prog.info? 38).map (·.size) = some z39.size) := Lib.hid sizePd
  clear hR hS
  obtain ⟨Z, hZ⟩ : ∃ Z, Z = z39 := ⟨_, rfl⟩
  have HO : Hid (Z.all (·.oneCell') = true) := Lib.hid (by rw [hZ]; exact z39_one)
  have HZ : Hid (z39.size = Z.size) := Lib.hid (by rw [hZ])
  rw [← hZ] at HR HS
  clear hZ
  go_enter Try.func8, Try.ntmps8
  go_wp2_with (first
    | (go_at_call 29; refine (HR.out).mono ?_; rintro e w1 ⟨rfl, hB⟩; have B := Lib.hid hB; have K := Lib.hid (show Below w.heap.size w ((w1.alloc (.cells z39 38)).setRow w1.heap.size Z) from hB.trans (belowRow ((Below.refl _ w1).alloc (Nat.le_refl _) _ |>.mono hB.size) hB.size _)); clear hB)
    | (refine wpList_store_row rfl _ _ _ rfl w1.heap.size Z rfl rfl 38 z39 (Blk.new w1 _ _) HS.out HZ.out HO.out ?_)
    | (go_at_call 30; refine (HST.out _ (HB.out.below K.out HB.out.lt) (SS.out.below K.out SS.out.lt)).mono ?_; rintro e w2 ⟨A, cp, rfl, hcp, hrow, hb2⟩; have B2 := Lib.hid hb2; have HC := Lib.hid hcp; have RW := Lib.hid hrow; clear hb2 hcp hrow)
    | (go_at_call 31; refine (HE.out _ _ _ RW.out).mono ?_; rintro e w3 ⟨A3, cp3, rfl, hrow3, hb3⟩; have B3 := Lib.hid hb3; have RW3 := Lib.hid hrow3; clear hb3 hrow3))
  go_ret2
  exact ⟨A3, cp3, rfl, RW3.out, K.out.trans ((B2.out.trans (B3.out.mono B2.out.size)).mono K.out.size)⟩
end Go.Proofs.Ytknlipjgehgihaa
