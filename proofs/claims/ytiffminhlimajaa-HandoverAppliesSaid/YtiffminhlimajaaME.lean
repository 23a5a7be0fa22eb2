/- law 47, XHE without what XU has. -/
import Derived.Test.YtiffminhlimajaaMA
import Derived.ChangeAlike
namespace Go.Proofs.Ytiffminhlimajaa
open Go.RowKit
/-- byte j of a status report -/
def eb (first : Nat) (b : Nat → Bool) (i j : Nat) : Int := if j = 0 then 0 else if j < 5 then ((first / 2 ^ (8 * (4 - j)) % 256 : Nat) : Int) else ((HM.pk b i (j - 5) : Nat) : Int)
def ebList (first : Nat) (b : Nat → Bool) (i m : Nat) : List Value := (List.range m).map (fun j => .int .u8 (eb first b i j))
theorem ebList_len (first : Nat) (b : Nat → Bool) (i m : Nat) : (ebList first b i m).length = m := by simp [ebList]
theorem ebList_at (first : Nat) (b : Nat → Bool) (i m j : Nat) (h : j < m) : (ebList first b i m)[j]? = some (.int .u8 (eb first b i j)) := by simp [ebList, h]
theorem ebList_grow (first : Nat) (b : Nat → Bool) (i m : Nat) (h5 : 5 ≤ m) (h : HM.last b i ≤ 8 * (m - 5)) : ebList first b i (m + 1) = ebList first b i m ++ [.int .u8 0] := by
  unfold ebList
  rw [List.range_succ, List.map_append, List.map_singleton]
  have : eb first b i m = 0 := by
    unfold eb
    rw [if_neg (by omega), if_neg (by omega), HM.pk_zero b i _ h]; rfl
  rw [this]
theorem ebList_skip (first : Nat) (b : Nat → Bool) (i m : Nat) (h : b i = false) : ebList first b (i + 1) m = ebList first b i m := by
  unfold ebList
  refine List.map_congr_left fun j hj => ?_
  unfold eb
  rw [HM.pk_skip b i _ h]
theorem ebList_set (first : Nat) (b : Nat → Bool) (i m : Nat) : (ebList first b i m).set (5 + i / 8) (.int .u8 ((HM.pk b (i + 1) (i / 8) : Nat) : Int)) = ebList first b (i + 1) m := by
  refine List.ext_getElem? fun j => ?_
  rw [List.getElem?_set]
  by_cases hj : j < m
  · rw [ebList_at _ _ _ _ _ hj, ebList_len]
    split
    · rename_i hjj
      subst hjj
      rw [if_pos hj, ebList_at _ _ (i + 1) _ _ hj]
      unfold eb
      rw [if_neg (by omega), if_neg (by omega), Nat.add_sub_cancel_left]
    · rename_i hjj
      rw [ebList_at _ _ _ _ _ hj]
      unfold eb
      by_cases h5 : j < 5
      · simp [h5]
      · rw [HM.pk_other b i _ (by omega)]
  · rw [List.getElem?_eq_none (by rw [ebList_len]; omega), List.getElem?_eq_none (by rw [ebList_len]; omega), ebList_len]
    split
    · rename_i hjj
      rw [if_neg (by omega)]
    · rfl
theorem eb_start (first : Nat) (hf : first < 4294967296) (b : Nat → Bool) : ebList first b 0 5 = [.int .u8 0, .int .u8 ((first : Int) / 16777216), .int .u8 ((first : Int) / 65536 % 256), .int .u8 ((first : Int) / 256 % 256), .int .u8 ((first : Int) % 256)] := by
  simp [ebList, List.range_succ, eb]
  omega
def EncPost (first n : Nat) (b : Nat → Bool) (w : World) (e : Ending) (w' : World) : Prop :=
  ∃ g cap, e = .returned (.tuple #[.slice (some ⟨g, 0, none⟩) (5 + (HM.last b n + 7) / 8) cap, .int .i64 0]) ∧ w.heap.size ≤ g ∧ Row w' w'.heap.size (some ⟨g, 0, none⟩) (5 + (HM.last b n + 7) / 8) (fun j => .int .u8 (eb first b n j)) ∧ Below w.heap.size w w'
set_option maxRecDepth 100000 in
set_option maxHeartbeats 1600000 in
theorem enc_core (first n c : Nat) (A : Option Addr) (b : Nat → Bool) (w : World) (hf : first < 4294967296) (hn : n ≤ 2047) (hr : Row w w.heap.size A n (fun j => .bool (b j))) :
    Calls Try.prog 30 #[.int .u64 (first : Int), .slice A n c] w (EncPost first n b w) := by
  have HR := Lib.hid hr
  clear hr
  obtain ⟨i0, hi0, hz0, hz1, hz2⟩ := info_parts Try.infoByte
  go_enter Try.func30, Try.ntmps30
  go_wp2
  have R0 : (w.alloc (.cells #[.int .u8 0, .int .u8 ((first : Int) / 16777216), .int .u8 ((first : Int) / 65536 % 256), .int .u8 ((first : Int) / 256 % 256), .int .u8 ((first : Int) % 256)] 5)).ownsRow w.heap.size 5 1 (.slice (some ⟨w.heap.size, 0, none⟩) 5 5) 5 (ebList first b 0 5) := by
    rw [eb_start first hf b]
    exact ⟨rfl, .inr ⟨_, _, _, rfl, Nat.le_refl _, heap_alloc_new w _, Nat.le_refl _, by decide, rfl, rfl⟩⟩
  go_loopw [6, 46] (fun v6 v46 wr => ∃ i : Nat, i ≤ n ∧ v46 = .int .i64 i ∧ wr.ownsRow w.heap.size 5 1 v6 (5 + (HM.last b i + 7) / 8) (ebList first b i (5 + (HM.last b i + 7) / 8)) ∧ Below w.heap.size w wr) (fun _ v _ => n - (intOf v).toNat)
  case atStart => exact ⟨0, Nat.zero_le _, rfl, by simpa [HM.last] using R0, (Below.refl _ _).alloc (Nat.le_refl _) _⟩
  case round =>
    obtain ⟨i, hi, rfl, hown, hW⟩ := hrel
    by_cases hlt : i < n
    · obtain ⟨lb, lo, rfl, hlb, hlc⟩ := HR.out (by omega)
      have hci : wr.cell? ⟨lb, lo + i, none⟩ = some (.bool (b i)) := (hW.cell (p := ⟨lb, lo + i, none⟩) hlb).trans (hlc i hlt)
      clear hlc
      cases hbi : b i with
      | false =>
        rw [hbi] at hci
        have HB := Lib.hid hbi
        clear hbi
        go_wp2
        go_roundw
        case rel => exact ⟨i + 1, by omega, by go_num, by rw [last_skip b i HB.out, ebList_skip first b i _ HB.out]; exact hown, hW⟩
        case measure => simp [intOf]; omega
      | true =>
        rw [hbi] at hci
        have HB := Lib.hid hbi
        clear hbi
        have hll := HM.last_le b i
        go_wp2
        go_loopw [6] (fun v6 wr => ∃ m : Nat, 5 + (HM.last b i + 7) / 8 ≤ m ∧ m ≤ 6 + i / 8 ∧ wr.ownsRow w.heap.size 5 1 v6 m (ebList first b i m) ∧ Below w.heap.size w wr) (fun v _ => 7 + i / 8 - (match v with | .slice _ n _ => n | _ => 0))
        case atStart => exact ⟨_, Nat.le_refl _, by omega, hown, hW⟩
        case round =>
          obtain ⟨m, hm1, hm2, hown2, hW2⟩ := hrel
          obtain ⟨g, cap, rfl, hg, hgl⟩ := own_form hown2 (by omega)
          by_cases hm : m ≤ 5 + i / 8
          · go_wp2_with (at_builtin; refine wpList_append_one _ rfl _ _ 27 rfl w.heap.size 5 i0 (.int .u8 0) 1 Try.underlying27 hi0 hz0 hz1 hz2 rfl _ _ _ rfl hown2 _ rfl rfl (by unfold maxLen; omega) (by omega) hW2.size ?_; intro v' w2 hown' hg2)
            obtain ⟨g2, cap2, rfl, hg2', hgl2⟩ := own_form hown' (by omega)
            refine ⟨⟨m + 1, by omega, by omega, by rw [ebList_grow first b i m (by omega) (by omega)]; exact hown', hW2.trans hg2⟩, ?_⟩
            show 7 + i / 8 - (m + 1) < 7 + i / 8 - m
            omega
          · obtain rfl : m = 6 + i / 8 := by omega
            have hcell : wr.cell? ⟨g, 5 + i / 8, none⟩ = some (.int .u8 ((HM.pk b i (i / 8) : Nat) : Int)) := by
              have := hown2.cells (g := g) rfl (5 + i / 8) _ (ebList_at first b i _ _ (by omega))
              unfold eb at this
              rw [if_neg (by omega), if_neg (by omega), Nat.add_sub_cancel_left] at this
              have e : (⟨g, 0, none⟩ : Addr).add (5 + i / 8) = ⟨g, 5 + i / 8, none⟩ := by unfold Addr.add; split <;> simp_all
              rw [← e]; exact this
            have hfr := hown2.frozenAt (5 + i / 8)
            go_wp2
            go_region
            all_goals go_wp2
            go_roundw
            case rel =>
              rw [or_pk b i HB.out]
              refine ⟨i + 1, by omega, by go_num, ?_, (hW2.drew).setCell (by simpa using hg) _⟩
              have h8 : 5 + (HM.last b (i + 1) + 7) / 8 = 6 + i / 8 := by rw [last_bounds b i HB.out]; omega
              rw [h8, ← ebList_set]
              exact ((hown2.drew).stored _ _).1
            case measure => simp [intOf]; omega
    · obtain rfl : i = n := by omega
      go_wp2
      go_ret2
      obtain ⟨g, cap, rfl, hg, hgl⟩ := own_form hown (by omega)
      exact ⟨g, cap, rfl, hg, own_row hown (fun j hj => ebList_at _ _ _ _ _ hj) hgl, hW⟩
end Go.Proofs.Ytiffminhlimajaa
