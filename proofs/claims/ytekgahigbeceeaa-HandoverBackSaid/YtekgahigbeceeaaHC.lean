/- EncodeStatus and EncodeFeedback once more, with the result's capacity. -/
import Derived.Test.YtekgahigbeceeaaHM
import Derived.ChangeAlike
namespace Go.Proofs.Ytekgahigbeceeaa
open Go.RowKit

def EncPostC (first n : Nat) (b : Nat → Bool) (w : World) (e : Ending) (w' : World) : Prop :=
  ∃ g cap, e = .returned (.tuple #[.slice (some ⟨g, 0, none⟩) (5 + (HM.last b n + 7) / 8) cap, .int .i64 0]) ∧ 5 + (HM.last b n + 7) / 8 ≤ cap ∧ Row w' w'.heap.size (some ⟨g, 0, none⟩) (5 + (HM.last b n + 7) / 8) (fun j => .int .u8 (eb first b n j)) ∧ Below w.heap.size w w'

set_option maxRecDepth 100000 in
set_option maxHeartbeats 1600000 in
theorem enc_cap (first n c : Nat) (A : Option Addr) (b : Nat → Bool) (w : World) (hf : first < 4294967296) (hn : n ≤ 2047) (hr : Row w w.heap.size A n (fun j => .bool (b j))) :
    Calls Try.prog 18 #[.int .u64 (first : Int), .slice A n c] w (EncPostC first n b w) := by
  have HR := Lib.hid hr
  clear hr
  obtain ⟨i0, hi0, hz0, hz1, hz2⟩ := info_parts Try.infoByte
  go_enter Try.func18, Try.ntmps18
  go_wp2
  have R0 : (w.alloc (.cells #[.int .u8 0, .int .u8 ((first : Int) / 16777216), .int .u8 ((first : Int) / 65536 % 256), .int .u8 ((first : Int) / 256 % 256), .int .u8 ((first : Int) % 256)] 5)).ownsRow w.heap.size 5 1 (.slice (some ⟨w.heap.size, 0, none⟩) 5 5) 5 (ebList first b 0 5) := by
    rw [eb_start first hf b]
    exact ⟨rfl, .inr ⟨_, _, _, rfl, Nat.le_refl _, heap_alloc_new w _, Nat.le_refl _, by decide, rfl, rfl⟩⟩
  go_loopw [6, 46] (fun v6 v46 wr => ∃ i : Nat, i ≤ n ∧ v46 = .int .i64 i ∧ wr.ownsRow w.heap.size 5 1 v6 (5 + (HM.last b i + 7) / 8) (ebList first b i (5 + (HM.last b i + 7) / 8)) ∧ Below w.heap.size w wr) (fun _ v _ => n - (intOf v).toNat)
  case atStart => exact ⟨0, Nat.zero_le _, rfl, by simpa [HM.last] using R0, (Below.refl _ _).alloc (Nat.le_refl _) _⟩
  case round =>
    obtain ⟨i, hi, rfl, hown, hW⟩ := hrel
    by_cases hlt : i < n
    · obtain ⟨lb, lo, rfl, hlb, hlc⟩ := HR.out (by omega)
      have hci : wr.cell? ⟨lb, lo + i, none⟩ = some (.bool (b i)) := (hW.cell (p := ⟨lb, lo + i, none⟩) hlb).trans (hlc i hlt)
      clear hlc
      cases hbi : b i with
      | false =>
        rw [hbi] at hci
        have HB := Lib.hid hbi
        clear hbi
        go_wp2
        go_roundw
        case rel => exact ⟨i + 1, by omega, by go_num, by rw [last_skip b i HB.out, ebList_skip first b i _ HB.out]; exact hown, hW⟩
        case measure => simp [intOf]; omega
      | true =>
        rw [hbi] at hci
        have HB := Lib.hid hbi
        clear hbi
        have hll := HM.last_le b i
        go_wp2
        go_loopw [6] (fun v6 wr => ∃ m : Nat, 5 + (HM.last b i + 7) / 8 ≤ m ∧ m ≤ 6 + i / 8 ∧ wr.ownsRow w.heap.size 5 1 v6 m (ebList first b i m) ∧ Below w.heap.size w wr) (fun v _ => 7 + i / 8 - (match v with | .slice _ n _ => n | _ => 0))
        case atStart => exact ⟨_, Nat.le_refl _, by omega, hown, hW⟩
        case round =>
          obtain ⟨m, hm1, hm2, hown2, hW2⟩ := hrel
          obtain ⟨g, cap, rfl, hg, hgl⟩ := own_form hown2 (by omega)
          by_cases hm : m ≤ 5 + i / 8
          · go_wp2_with (at_builtin; refine wpList_append_one _ rfl _ _ 22 rfl w.heap.size 5 i0 (.int .u8 0) 1 Try.underlying22 hi0 hz0 hz1 hz2 rfl _ _ _ rfl hown2 _ rfl rfl (by unfold maxLen; omega) (by omega) hW2.size ?_; intro v' w2 hown' hg2)
            obtain ⟨g2, cap2, rfl, hg2', hgl2⟩ := own_form hown' (by omega)
            refine ⟨⟨m + 1, by omega, by omega, by rw [ebList_grow first b i m (by omega) (by omega)]; exact hown', hW2.trans hg2⟩, ?_⟩
            show 7 + i / 8 - (m + 1) < 7 + i / 8 - m
            omega
          · obtain rfl : m = 6 + i / 8 := by omega
            have hcell : wr.cell? ⟨g, 5 + i / 8, none⟩ = some (.int .u8 ((HM.pk b i (i / 8) : Nat) : Int)) := by
              have := hown2.cells (g := g) rfl (5 + i / 8) _ (ebList_at first b i _ _ (by omega))
              unfold eb at this
              rw [if_neg (by omega), if_neg (by omega), Nat.add_sub_cancel_left] at this
              have e : (⟨g, 0, none⟩ : Addr).add (5 + i / 8) = ⟨g, 5 + i / 8, none⟩ := by unfold Addr.add; split <;> simp_all
              rw [← e]; exact this
            have hfr := hown2.frozenAt (5 + i / 8)
            go_wp2
            go_region
            all_goals go_wp2
            go_roundw
            case rel =>
              rw [or_pk b i HB.out]
              refine ⟨i + 1, by omega, by go_num, ?_, (hW2.drew).setCell (by simpa using hg) _⟩
              have h8 : 5 + (HM.last b (i + 1) + 7) / 8 = 6 + i / 8 := by rw [last_bounds b i HB.out]; omega
              rw [h8, ← ebList_set]
              exact ((hown2.drew).stored _ _).1
            case measure => simp [intOf]; omega
    · obtain rfl : i = n := by omega
      go_wp2
      go_ret2
      obtain ⟨g, cap, rfl, hg, hgl, hcap⟩ := own_room hown (by omega)
      exact ⟨g, cap, rfl, hcap, own_row hown (fun j hj => ebList_at _ _ _ _ _ hj) hgl, hW⟩
set_option maxRecDepth 100000 in
theorem feed_cap (A : Option Addr) (n c : Nat) (z : Nat → Int) (w : World) (h0 : 0 < n) (hn : n ≤ 9000) (hr : Row w w.heap.size A n (fun j => .int .u8 (z j))) :
    Calls Try.prog 20 #[.slice A n c] w fun e w' => ∃ A2 c2, e = .returned (.tuple #[.slice A2 (n + 1) c2, .int .i64 0]) ∧ n + 1 ≤ c2 ∧ Row w' w'.heap.size A2 (n + 1) (fun j => .int .u8 (fb z j)) ∧ Below w.heap.size w w' := by
  have HR := Lib.hid hr
  clear hr
  obtain ⟨i0, hi, hz0, hz1, hz2⟩ := info_parts Try.infoByte
  have hown0 : (w.alloc (.cells #[.int .u8 16] 5)).ownsRow w.heap.size 5 1 (.slice (some ⟨w.heap.size, 0, none⟩) 1 1) 1 [.int .u8 16] :=
    ⟨rfl, .inr ⟨_, _, _, rfl, Nat.le_refl _, heap_alloc_new w _, Nat.le_refl _, by decide, rfl, rfl⟩⟩
  go_enter Try.func20, Try.ntmps20
  go_wp2_with (at_builtin; refine wpList_append_src _ rfl _ _ 22 rfl w.heap.size 5 i0 (.int .u8 0) 1 Try.underlying22 hi hz0 hz1 hz2 rfl _ _ _ rfl hown0 w.heap.size A n c (fun j => .int .u8 (z j)) rfl (HR.out.alloc (Nat.le_refl _) _) (fun _ => rfl) (by unfold maxLen; omega) (by omega) (by simp) ?_; intro v' w2 hown' hg2 hv')
  go_ret2
  obtain ⟨g, cap, rfl, hg, hgl, hcap⟩ := own_room hown' (by omega)
  rw [Nat.add_comm 1 n] at hown' ⊢
  refine ⟨_, _, rfl, by omega, own_row hown' (fun j hj => ?_) hgl, ?_⟩
  · unfold fb
    by_cases hj0 : j = 0
    · subst hj0; rfl
    · rw [if_neg hj0, List.getElem?_append_right (by simp; omega), List.getElem?_map, List.length_singleton, List.getElem?_range (by omega)]
      rfl
  · exact ((Below.refl w.heap.size w).alloc (Nat.le_refl _) _).grown hg2 (by simp) fun k hk => by
      have := (hown0.lt k hk).1
      exact this
end Go.Proofs.Ytekgahigbeceeaa
