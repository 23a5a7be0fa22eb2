/- Contracts of qpp.Order, Inverse, of the reference's Order, Inverse, and of the laws' helper same. -/
import Derived.Test.YtekgahigbeceeaaQG
namespace Go.Proofs.Ytekgahigbeceeaa
open Go.RowKit

/-- a slice of one block, from its start -/
theorem rowIs_row {w : World} {g n B : Nat} {t : TypeId} {f v : Nat → Value} (h : w.rowIs g t n f) (hg : g < B) (e : ∀ j, j < n → f j = v j) : Row w B (some ⟨g, 0, none⟩) n v :=
  fun _ => ⟨g, 0, rfl, hg, fun j hj => by rw [Nat.zero_add, h.cell hj, e j hj]⟩
theorem own_row {w : World} {base e g n cap : Nat} {xs : List Value} {v : Nat → Value} (h : w.ownsRow base e 1 (.slice (some ⟨g, 0, none⟩) n cap) n xs) (hv : ∀ j, j < n → xs[j]? = some (v j)) {B : Nat} (hg : g < B) : Row w B (some ⟨g, 0, none⟩) n v :=
  fun _ => ⟨g, 0, rfl, hg, fun j hj => by
    have := h.cells (g := g) rfl j _ (hv j hj)
    rw [Nat.zero_add]
    have e : (⟨g, 0, none⟩ : Addr).add j = ⟨g, j, none⟩ := by unfold Addr.add; split <;> simp_all
    rw [← e]; exact this⟩
theorem own_form {w : World} {base e size n : Nat} {v : Value} {xs : List Value} (h : w.ownsRow base e size v n xs) (hn : 0 < n) : ∃ g cap, v = .slice (some ⟨g, 0, none⟩) n cap ∧ base ≤ g ∧ g < w.heap.size := by
  rcases h.2 with ⟨_, hz⟩ | ⟨g, cap, cur, hv, hb, hh, _⟩
  · omega
  · exact ⟨g, cap, hv, hb, (Array.getElem?_eq_some_iff.1 hh).1⟩
theorem own_ge {w : World} {base e size n : Nat} {v : Value} {xs : List Value} (h : w.ownsRow base e size v n xs) (g : Nat) (hg : v.ownBlock = some g) : base ≤ g := by
  rcases h.2 with ⟨rfl, _⟩ | ⟨g', cap, cur, rfl, hb, _⟩
  · simp [Value.ownBlock] at hg
  · have : g' = g := by simpa [Value.ownBlock] using hg
    omega

/-- the result of a call that made a slice of n numbers -/
def SlicePost (q : IntKind) (n : Nat) (z : Nat → Int) (err : Int) (w : World) (e : Ending) (w' : World) : Prop :=
  ∃ g cap, e = .returned (.tuple #[.slice (some ⟨g, 0, none⟩) n cap, .int .i64 err]) ∧ w.heap.size ≤ g ∧ Row w' w'.heap.size (some ⟨g, 0, none⟩) n (fun j => .int q (z j)) ∧ Below w.heap.size w w'

theorem cont_id (val : Nat → Int) : ∀ i j, cont (fun i => i) val i j = if j < i then val j else 0
  | 0, j => rfl
  | i + 1, j => by
    simp only [cont]
    rw [cont_id val i j]
    by_cases h : j = i
    · subst h; simp
    · rw [if_neg h]
      by_cases h2 : j < i
      · rw [if_pos h2, if_pos (by omega)]
      · rw [if_neg h2, if_neg (by omega)]

theorem order_bad (k : Int) (hv : validI k = false) (w : World) :
    Calls Try.prog 27 #[.int .i64 k] w fun e w' => e = .returned (.tuple #[.slice none 0 0, .int .i64 2]) ∧ Below w.heap.size w w' := by
  go_enter Try.func27, Try.ntmps27
  go_wp2_with (go_at_call 52; refine (morder_bad k _ hv _).mono ?_; rintro e w1 ⟨rfl, hb⟩)
  go_ret2
  exact ⟨rfl, hb⟩
theorem inverse_bad (k : Int) (hv : validI k = false) (w : World) :
    Calls Try.prog 28 #[.int .i64 k] w fun e w' => e = .returned (.tuple #[.slice none 0 0, .int .i64 2]) ∧ Below w.heap.size w w' := by
  go_enter Try.func28, Try.ntmps28
  go_wp2_with (go_at_call 52; refine (minverse_bad k _ hv _).mono ?_; rintro e w1 ⟨rfl, hb⟩)
  go_ret2
  exact ⟨rfl, hb⟩
theorem order_good (k : Nat) (hv : QM.valid k = true) (w : World) :
    Calls Try.prog 27 #[.int .i64 k] w (SlicePost .i64 k (fun i => (pi k i : Nat)) 0 w) := by
  have HV := Lib.hid hv
  clear hv
  go_enter Try.func27, Try.ntmps27
  go_wp2_with (go_at_call 52; refine (morder_good k HV.out _).mono ?_; rintro e w1 ⟨b, rfl, hb0, hR, hb⟩)
  go_ret2
  exact ⟨b, k, rfl, hb0, rowIs_row hR hR.lt (fun j hj => by rw [cont_id, if_pos hj]), hb⟩
theorem inverse_good (k : Nat) (hv : QM.valid k = true) (w : World) :
    Calls Try.prog 28 #[.int .i64 k] w (SlicePost .i64 k (cont (pi k) (fun i => (i : Nat)) k) 0 w) := by
  have HV := Lib.hid hv
  clear hv
  go_enter Try.func28, Try.ntmps28
  go_wp2_with (go_at_call 52; refine (minverse_good k HV.out _).mono ?_; rintro e w1 ⟨b, rfl, hb0, hR, hb⟩)
  go_ret2
  exact ⟨b, k, rfl, hb0, rowIs_row hR hR.lt (fun j hj => rfl), hb⟩

theorem reforder_bad (k : Int) (hv : validI k = false) (w : World) :
    Calls Try.prog 29 #[.int .i64 k] w fun e w' => e = .returned (.tuple #[.slice none 0 0, .int .i64 2]) ∧ Below w.heap.size w w' := by
  go_enter Try.func29, Try.ntmps29
  go_wp2_with (go_at_call 22; refine (refparams_bad k hv _).mono ?_; rintro e w1 ⟨rfl, hb⟩)
  go_ret2
  exact ⟨rfl, hb⟩

def piList (k i : Nat) : List Value := (List.range i).map (fun j => Value.int .i64 (pi k j : Nat))
theorem piList_len (k i : Nat) : (piList k i).length = i := by simp [piList]
theorem piList_succ (k i : Nat) : piList k (i + 1) = piList k i ++ [.int .i64 (pi k i : Nat)] := by simp [piList, List.range_succ]
theorem piList_at (k i j : Nat) (h : j < i) : (piList k i)[j]? = some (.int .i64 (pi k j : Nat)) := by simp [piList, h]

set_option maxRecDepth 100000 in
set_option maxHeartbeats 800000 in
theorem reforder_good (k : Nat) (hv : QM.valid k = true) (w : World) :
    Calls Try.prog 29 #[.int .i64 k] w (SlicePost .i64 k (fun i => (pi k i : Nat)) 0 w) := by
  obtain ⟨hk, hk2, _, _, _, _, ha, _, hb⟩ := good_facts k hv
  have HV := Lib.hid hv
  clear hv
  obtain ⟨i0, hi, hz0, hz1, hz2⟩ := info_parts Try.infoInt
  obtain ⟨a, hea⟩ : ∃ a, a = QM.f1 k := ⟨_, rfl⟩
  obtain ⟨b, heb⟩ : ∃ b, b = QM.f2 k := ⟨_, rfl⟩
  rw [← hea] at ha
  rw [← heb] at hb
  have hpi : Hid (∀ i : Nat, ((pi k i : Nat) : Int) = ((a : Int) * (i : Int) + (b : Int) * (i : Int) % (k : Int) * (i : Int)) % (k : Int)) := by
    show ∀ i : Nat, _
    intro i
    unfold pi
    rw [← hea, ← heb]
    simp
  have HA := Lib.hid hea
  have HB := Lib.hid heb
  clear hea heb
  have e1 : ((k : Int) == 0) = false := by simp; omega
  go_enter Try.func29, Try.ntmps29
  go_wp2_with (go_at_call 22; refine (refparams_good k HV.out _).mono ?_; rintro e w1 ⟨rfl, hb1⟩; rw [← HA.out, ← HB.out])
  go_loopw [7, 8] (fun v7 v8 wr => ∃ i : Nat, i ≤ k ∧ v8 = .int .i64 i ∧ wr.ownsRow w.heap.size 3 1 v7 i (piList k i) ∧ Below w.heap.size w wr) (fun _ v8 _ => k - (intOf v8).toNat)
  case atStart => exact ⟨0, Nat.zero_le _, rfl, World.ownsRow_nil _ _ _ _, hb1⟩
  case round =>
    obtain ⟨i, hik, rfl, hown, hW⟩ := hrel
    by_cases hlt : i < k
    · have h1 : 0 ≤ (a : Int) * (i : Int) := by rw [← Int.natCast_mul]; omega
      have h2 : (a : Int) * (i : Int) ≤ 37748736 := by rw [← Int.natCast_mul]; have := Nat.mul_le_mul ha (show i ≤ 6144 by omega); omega
      have h3 : 0 ≤ (b : Int) * (i : Int) := by rw [← Int.natCast_mul]; omega
      have h4 : (b : Int) * (i : Int) ≤ 37748736 := by rw [← Int.natCast_mul]; have := Nat.mul_le_mul hb (show i ≤ 6144 by omega); omega
      have h5 : 0 ≤ (b : Int) * (i : Int) % (k : Int) * (i : Int) := by rw [← Int.natCast_mul, ← Int.natCast_emod, ← Int.natCast_mul]; omega
      have h6 : (b : Int) * (i : Int) % (k : Int) * (i : Int) ≤ 37748736 := by
        rw [← Int.natCast_mul, ← Int.natCast_emod, ← Int.natCast_mul]
        have : b * i % k ≤ 6144 := by have := Nat.mod_lt (b * i) (show k > 0 by omega); omega
        have := Nat.mul_le_mul this (show i ≤ 6144 by omega)
        omega
      go_wp2_with (at_builtin; refine wpList_append_own _ rfl _ _ 53 rfl w.heap.size 3 i0 (.int .i64 0) 1 8 Try.underlying53 hi hz0 hz1 hz2 rfl (by decide) _ _ _ rfl (hown.alloc _) ⟨wr.heap.size, 0, none⟩ 1 1 [.int .i64 (((a : Int) * (i : Int) + (b : Int) * (i : Int) % (k : Int) * (i : Int)) % (k : Int))] rfl rfl ?c1 ?c2 ?c3 ?c4 ?c5 ?_)
      case c1 =>
        intro j u hj
        match j, hj with
        | 0, hj => simp at hj; subst hj; simp [Addr.add]
      case c2 => intro u hu; simp at hu; subst hu; rfl
      case c3 => unfold maxLen; omega
      case c4 => omega
      case c5 => have := hW.size; simp; omega
      intro v' w2 hown' hgrow _
      have hW' : Below w.heap.size w w2 := (hW.alloc hW.size _).grown hgrow (by have := hW.size; simp; omega) (own_ge hown)
      go_wp2
      go_roundw
      case rel => exact ⟨i + 1, by omega, by go_num, by rw [piList_succ, hpi.out]; exact hown', hW'⟩
      case measure => simp [intOf]; omega
    · have hik2 : i = k := by omega
      have HK := Lib.hid hik2
      clear hik2
      go_wp2
      go_ret2
      have := HK.out
      subst this
      obtain ⟨g, cap, hv, hg, hlt2⟩ := own_form hown (by omega)
      refine ⟨g, cap, ?_, hg, ?_, hW⟩
      · simp [hv]
      · rw [hv] at hown
        exact own_row hown (fun j hj => piList_at _ _ _ hj) hlt2

set_option maxRecDepth 100000 in
set_option maxHeartbeats 800000 in
theorem refinverse_good (k : Nat) (hv : QM.valid k = true) (w : World) :
    Calls Try.prog 30 #[.int .i64 k] w (SlicePost .i64 k (cont (pi k) (fun i => (i : Nat)) k) 0 w) := by
  obtain ⟨hk, hk2, _, _, _, _, _, _, _⟩ := good_facts k hv
  have hmk := make_ints k (by omega)
  have HV := Lib.hid hv
  clear hv
  go_enter Try.func30, Try.ntmps30
  go_wp2_with (go_at_call 29; refine (reforder_good k HV.out _).mono ?_; rintro e w1 ⟨g, cap, rfl, hg, hR, hb⟩)
  have hs1 := hb.size
  obtain ⟨_, _, e0, hgl, hc⟩ := hR (by omega)
  injection e0 with e0
  injection e0 with e0 e1
  subst e0 e1
  have hcell := Lib.hid hc
  clear hc hR
  have W0 : Below w.heap.size w (w1.alloc (.cells (madeCells #[.int .i64 0] k) 3)) := hb.alloc hs1 _
  have R0 := World.rowIs_made w1 (.int .i64 0) k 3
  go_loopw [7] (fun v wr => ∃ i : Nat, i ≤ k ∧ v = .int .i64 i ∧ w1.heap.size + 1 ≤ wr.heap.size ∧ wr.rowIs w1.heap.size 3 k (fun j => .int .i64 (cont (pi k) (fun i => (i : Nat)) i j)) ∧ Below w.heap.size w wr ∧ Below w1.heap.size w1 wr) (fun v _ => k - (intOf v).toNat)
  case atStart => exact ⟨0, Nat.zero_le _, rfl, by simp, R0, W0, (Below.refl _ _).alloc (Nat.le_refl _) _⟩
  case round =>
    obtain ⟨i, hi, rfl, hsz, hR, hW, hW1⟩ := hrel
    by_cases hlt : i < k
    · have hci : wr.cell? ⟨g, i, none⟩ = some (.int .i64 (pi k i : Nat)) := (hW1.cell (p := ⟨g, i, none⟩) hgl).trans (by simpa using hcell.out i hlt)
      have hpl := pi_lt k i (by omega)
      obtain ⟨p, hp⟩ : ∃ p, p = pi k i := ⟨_, rfl⟩
      have HP := Lib.hid hp
      rw [← hp] at hci hpl
      clear hp
      have hcc := hR.cell hpl
      have hff := hR.frozen p
      go_wp2
      go_roundw
      case rel =>
        refine ⟨i + 1, by omega, by go_num, by simpa using hsz, ?_, hW.setCell (by simp; omega) _, hW1.setCell (by simp) _⟩
        refine (hR.set _ _).congr fun j hj => ?_
        simp only [cont, ← HP.out]
        split <;> rfl
      case measure => simp [intOf]; omega
    · have hik2 : i = k := by omega
      have HK := Lib.hid hik2
      clear hik2
      go_wp2
      go_ret2
      have := HK.out
      subst this
      exact ⟨_, _, rfl, by omega, rowIs_row hR hR.lt (fun j hj => rfl), hW⟩

theorem make_int0 (w : World) : (Instr.makeSlice 53 (.int .i64 0) (.int .i64 0)).run Try.prog w = .ok (.slice (some ⟨w.heap.size, 0, none⟩) 0 0) (w.alloc (.cells #[] 3)) := by
  have h := make_ints 0 (by omega) w
  have e : madeCells #[Value.int .i64 0] 0 = #[] := Array.eq_empty_of_size_eq_zero (size_madeCells _ _)
  rw [e] at h
  exact h
theorem refinverse_bad (k : Int) (hv : validI k = false) (w : World) :
    Calls Try.prog 30 #[.int .i64 k] w fun e w' => (∃ g cap, e = .returned (.tuple #[.slice (some ⟨g, 0, none⟩) 0 cap, .int .i64 2])) ∧ Below w.heap.size w w' := by
  have hmk := make_int0
  go_enter Try.func30, Try.ntmps30
  go_wp2_with (go_at_call 29; refine (reforder_bad k hv _).mono ?_; rintro e w1 ⟨rfl, hb⟩)
  have hs1 := hb.size
  go_rounds 1
  go_ret2
  exact ⟨⟨_, _, rfl⟩, hb.alloc hs1 _⟩

/-- same answers true for two slices that read alike -/
theorem same_true (n : Nat) (A A' : Option Addr) (c c' B : Nat) (z z' : Nat → Int) (w : World) (hn : n ≤ 1000000) (h : Row w B A n (fun j => .int .i64 (z j))) (h' : Row w B A' n (fun j => .int .i64 (z' j))) (he : ∀ j, j < n → z j = z' j) :
    Calls Try.prog 31 #[.slice A n c, .slice A' n c'] w fun e w' => e = .returned (.bool true) ∧ Below w.heap.size w w' := by
  have H := Lib.hid h
  have H' := Lib.hid h'
  have HE := Lib.hid he
  clear h h' he
  go_enter Try.func31, Try.ntmps31
  go_wp2
  go_loopw [5] (fun v wr => ∃ i : Nat, i ≤ n ∧ v = .int .i64 i ∧ ∃ d, wr = w.drewN d) (fun v _ => n - (intOf v).toNat)
  case atStart => exact ⟨0, Nat.zero_le _, rfl, 0, rfl⟩
  case round =>
    obtain ⟨i, hi, rfl, d, rfl⟩ := hrel
    by_cases hlt : i < n
    · obtain ⟨b, o, rfl, _, hc⟩ := H.out (by omega)
      obtain ⟨b', o', rfl, _, hc'⟩ := H'.out (by omega)
      have hi1 : w.cell? ⟨b, o + i, none⟩ = some (.int .i64 (z i)) := hc i hlt
      have hi2 : w.cell? ⟨b', o' + i, none⟩ = some (.int .i64 (z i)) := by rw [hc' i hlt, HE.out i hlt]
      have e0 : (z i != z i) = false := by simp
      have g1 : (0 : Int) ≤ (i : Int) := by omega
      have g2 : (i : Int) < (n : Int) := by omega
      clear hc hc'
      go_wp2
      go_quiet (fail)
      go_wp2
      go_roundw
      case rel => exact ⟨i + 1, by omega, by go_num, _, rfl⟩
      case measure => simp [intOf]; omega
    · go_wp2
      go_ret
      exact ⟨rfl, below_drewN (Below.refl _ _) _⟩
end Go.Proofs.Ytekgahigbeceeaa
