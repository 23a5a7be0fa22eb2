/- The walk of QppHolds: the permutation is a bijection that keeps parity and fixes 0; Deinterleave is the inverse of Interleave. -/
import Derived.Test.YtekgahigbeceeaaQR
namespace Go.Proofs.Ytekgahigbeceeaa
open Go.RowKit

theorem surj_of_inj : ∀ (n : Nat) (f : Nat → Nat), (∀ i, i < n → f i < n) → (∀ i j, i < n → j < n → f i = f j → i = j) → ∀ y, y < n → ∃ i, i < n ∧ f i = y
  | 0, _, _, _, y, hy => absurd hy (by omega)
  | n + 1, f, hf, hi, y, hy => by
    have hm := hf n (by omega)
    have ih := surj_of_inj n (fun i => if f i = n then f n else f i)
      (fun i h => by
        have := hf i (by omega)
        by_cases e : f i = n
        · have hne : f n ≠ n := fun e2 => by have := hi i n (by omega) (by omega) (e.trans e2.symm); omega
          simp only [e, if_true]; omega
        · simp only [e, if_false]; omega)
      (fun i j h1 h2 he => by
        by_cases e1 : f i = n <;> by_cases e2 : f j = n
        · exact hi i j (by omega) (by omega) (e1.trans e2.symm)
        · simp only [e1, e2, if_true, if_false] at he
          have := hi n j (by omega) (by omega) he; omega
        · simp only [e1, e2, if_true, if_false] at he
          have := hi i n (by omega) (by omega) he; omega
        · simp only [e1, e2, if_false] at he
          exact hi i j (by omega) (by omega) he)
    rcases Nat.lt_or_ge y n with hlt | hge
    · obtain ⟨i, h1, h2⟩ := ih y hlt
      by_cases e : f i = n
      · simp only [e, if_true] at h2
        exact ⟨n, by omega, h2⟩
      · simp only [e, if_false] at h2
        exact ⟨i, by omega, h2⟩
    · have hyn : y = n := by omega
      by_cases e : f n = n
      · exact ⟨n, by omega, by omega⟩
      · obtain ⟨i, h1, h2⟩ := ih (f n) (by omega)
        by_cases e3 : f i = n
        · exact ⟨i, by omega, by omega⟩
        · simp only [e3, if_false] at h2
          have := hi i n (by omega) (by omega) h2; omega

theorem cont_at (K : Nat) (tgt : Nat → Nat) (val : Nat → Int) (hi : ∀ i j, i < K → j < K → tgt i = tgt j → i = j) : ∀ n i, n ≤ K → i < n → cont tgt val n (tgt i) = val i
  | 0, _, _, h => absurd h (by omega)
  | n + 1, i, hn, h => by
    simp only [cont]
    by_cases e : i = n
    · subst e; simp
    · rw [if_neg (fun h2 => e (hi i n (by omega) (by omega) h2))]
      exact cont_at K tgt val hi n i (by omega) (by omega)
theorem cont_new (tgt : Nat → Nat) (val : Nat → Int) (x : Nat) : ∀ n, (∀ i, i < n → tgt i ≠ x) → cont tgt val n x = 0
  | 0, _ => rfl
  | n + 1, h => by
    simp only [cont]
    rw [if_neg (fun e => h n (by omega) e.symm)]
    exact cont_new tgt val x n (fun i hi => h i (by omega))

theorem pi_injI (k : Nat) (hv : QM.valid k = true) : ∀ i j, i < k → j < k → pi k i = pi k j → i = j := fun i j h1 h2 h => QM.pi_inj k i j hv h1 h2 h
theorem back_inter (k : Nat) (hv : QM.valid k = true) (z : Nat → Int) (j : Nat) (hj : j < k) : cont (pi k) (fun i => z (pi k i)) k j = z j := by
  have hk := (good_facts k hv).1
  obtain ⟨i, hi, he⟩ := surj_of_inj k (pi k) (fun i _ => pi_lt k i (by omega)) (pi_injI k hv) j hj
  rw [← he]
  exact cont_at k (pi k) _ (pi_injI k hv) k i (Nat.le_refl _) hi

/-- the first half: the order of k, its marks -/
def Half (w : World) (w' : World) : Prop := Below w.heap.size w w'
set_option maxRecDepth 100000 in
set_option maxHeartbeats 3200000 in
theorem qppHolds_walk (k : Int) (A : Option Addr) (len cap : Nat) (z : Nat → Int) (w : World) (hr : Row w w.heap.size A len (fun j => .int .i64 (z j))) (hm : len ≤ maxLen) :
    Calls Try.prog 11 #[.int .i64 k, .slice A len cap] w fun e w' => e = .returned (.bool true) ∧ Below w.heap.size w w' := by
  unfold maxLen at hm
  by_cases hbig : 7000 < len
  · go_enter Try.func11, Try.ntmps11
    go_wp2_with (go_at_call 25; refine (works_true _).mono ?_; rintro e w9 ⟨rfl, h9⟩)
    go_ret
    exact ⟨rfl, h9⟩
  have HR := Lib.hid hr
  clear hr
  have hmk0 := make_int0
  cases hv : validI k with
  | false =>
    have HV := Lib.hid hv
    clear hv
    go_enter Try.func11, Try.ntmps11
    go_wp2_with (first
      | (go_at_call 27; refine (order_bad k HV.out _).mono ?_; rintro e w1 ⟨rfl, h1⟩)
      | (go_at_call 24; refine (num_any _ _).mono ?_; rintro e wn ⟨rfl, rfl⟩)
      | (go_at_call 39; refine (refvalid_any k _).mono ?_; rintro e wn ⟨rfl, rfl⟩; rw [HV.out]))
    refine wp_loop_rounds 1 ?_
    rw [rounds_succ]
    have ch : Below w.heap.size w (w1.alloc (.cells #[] 3)) := h1.alloc h1.size _
    have rl := HR.out.next ch
    cases hl : validI (len : Int) with
    | false =>
      have HL := Lib.hid hl
      clear hl
      go_wp2_with (first
        | (go_at_call 35; refine (interleave_bad _ len _ HL.out _).mono ?_; rintro e w2 ⟨rfl, h2⟩; have ch := chain2 ch h2)
        | (go_at_call 24; refine (num_any _ _).mono ?_; rintro e wn ⟨rfl, rfl⟩)
        | (go_at_call 39; refine (refvalid_any len _).mono ?_; rintro e wn ⟨rfl, rfl⟩; rw [HL.out])
        | (go_at_call 25; refine (works_true _).mono ?_; rintro e w9 ⟨rfl, h9⟩))
      go_ret
      exact ⟨rfl, chain2 ch h9⟩
    | true =>
      rw [validI_nat] at hl
      have HL := Lib.hid hl
      clear hl
      go_wp2_with (first
        | (go_at_call 35; refine (interleave_good len HL.out A cap _ z _ rl (Nat.le_refl _)).mono ?_; rintro e w2 ⟨g2, c2, rfl, _, r2, h2⟩; have rl := rl.next h2; have ch := chain2 ch h2)
        | (go_at_call 36; refine (deinterleave_good len HL.out _ c2 w2.heap.size (fun i => z (pi len i)) _ r2 (Nat.le_refl _)).mono ?_; rintro e w3 ⟨g3, c3, rfl, _, r3, h3⟩; have rl := rl.next h3; have ch := chain2 ch h3)
        | (go_at_call 31; ((with_reducible refine (same_true len (some ⟨g3, 0, none⟩) A c3 cap w3.heap.size (cont (pi len) (fun i => z (pi len i)) len) z w3 (by omega) r3 rl (fun j hj => back_inter len HL.out z j hj)).mono ?_); rintro e w4 ⟨rfl, h4⟩; have ch := chain2 ch h4))
        | (go_at_call 24; refine (num_any _ _).mono ?_; rintro e wn ⟨rfl, rfl⟩)
        | (go_at_call 25; refine (works_true _).mono ?_; rintro e w9 ⟨rfl, h9⟩))
      go_ret
      exact ⟨rfl, chain2 ch h9⟩
  | true =>
    obtain ⟨k, rfl, hq⟩ := validI_pos hv
    have hk1 := (good_facts k hq).1
    have hk2 := (good_facts k hq).2.1
    have hvI := Lib.hid hv
    have HV := Lib.hid hq
    have hmk := make_ints k (by omega)
    clear hv hq
    go_enter Try.func11, Try.ntmps11
    go_wp2_with (first
      | (go_at_call 27; refine (order_good k HV.out _).mono ?_; rintro e w1 ⟨g, gc, rfl, hg, r1, h1⟩; have hs1 := h1.size)
      | (go_at_call 24; refine (num_any _ _).mono ?_; rintro e wn ⟨rfl, rfl⟩)
      | (go_at_call 39; refine (refvalid_any k _).mono ?_; rintro e wn ⟨rfl, rfl⟩; rw [hvI.out]))
    obtain ⟨_, _, e0, hgl, hc⟩ := r1 (by omega)
    injection e0 with e0
    injection e0 with e0 e1
    subst e0 e1
    have HC := Lib.hid hc
    clear hc r1
    have R0 := World.rowIs_made w1 (.int .i64 0) k 3
    go_loopw [8] (fun v8 wr => ∃ i : Nat, i ≤ k ∧ v8 = .int .i64 i ∧ wr.rowIs w1.heap.size 3 k (fun j => .int .i64 (cont (pi k) (fun _ => 1) i j)) ∧ Below w1.heap.size w1 wr) (fun v8 _ => k - (intOf v8).toNat)
    case atStart => exact ⟨0, Nat.zero_le _, rfl, R0, (Below.refl _ _).alloc (Nat.le_refl _) _⟩
    case round =>
      obtain ⟨i, hik, rfl, hR, hW⟩ := hrel
      by_cases hlt : i < k
      · have hci : wr.cell? ⟨g, i, none⟩ = some (.int .i64 (pi k i : Nat)) := (hW.cell (p := ⟨g, i, none⟩) hgl).trans (by simpa using HC.out i hlt)
        have hpl := pi_lt k i (by omega)
        have hpar := QM.pi_parity k i HV.out
        have hz0 : i = 0 → pi k i = 0 := fun e => by rw [e]; exact QM.pi_zero k
        have hnew : cont (pi k) (fun _ => 1) i (pi k i) = 0 := cont_new _ _ _ _ (fun i' hi' e => by have := pi_injI k HV.out i' i (by omega) hlt e; omega)
        have hcc := hR.cell hpl
        have hff := hR.frozen (pi k i)
        rw [hnew] at hcc
        have hparI : ((pi k i : Nat) : Int) % 2 = (i : Int) % 2 := by
          have h2 : pi k i % 2 = i % 2 := hpar
          omega
        obtain ⟨p, hp⟩ : ∃ p, p = pi k i := ⟨_, rfl⟩
        have HP := Lib.hid hp
        rw [← hp] at hci hpl hcc hff hz0 hparI
        clear hp hnew hpar
        have e3 : ((p : Int) % 2 != (i : Int) % 2) = false := by rw [hparI]; simp
        have e4 : decide ((p : Int) < 0) = false := by simp
        have e5 : decide ((k : Int) ≤ (p : Int)) = false := by simp; omega
        have HPI := Lib.hid hparI
        clear hparI
        have fin : ∀ wz : World, wz = wr.setCell ⟨w1.heap.size, p, none⟩ (.int .i64 1) → wz.rowIs w1.heap.size 3 k (fun j => .int .i64 (cont (pi k) (fun _ => 1) (i + 1) j)) ∧ Below w1.heap.size w1 wz := fun wz hz => by
          subst hz
          refine ⟨(hR.set _ _).congr fun j hj => ?_, hW.setCell (by simp) _⟩
          simp only [cont, ← HP.out]
          split <;> rfl
        have FIN := Lib.hid fin
        clear fin
        by_cases hi0 : i = 0
        · have hp0 : p = 0 := hz0 hi0
          have q0 : ((i : Int) == 0) = true := by simp; omega
          have q1 : ((p : Int) != 0) = false := by simp; omega
          have HI0 := Lib.hid hi0
          have HP0 := Lib.hid hp0
          clear hi0 hp0 hz0
          go_wp2
          go_roundw
          case rel => exact ⟨i + 1, by omega, by go_num, (FIN.out _ rfl).1, (FIN.out _ rfl).2⟩
          case measure => simp [intOf]; omega
        · have q0 : ((i : Int) == 0) = false := by simp; omega
          clear hi0 hz0
          go_wp2
          go_roundw
          case rel => exact ⟨i + 1, by omega, by go_num, (FIN.out _ rfl).1, (FIN.out _ rfl).2⟩
          case measure => simp [intOf]; omega
      · have ch := h1.trans (hW.mono hs1)
        have rl := HR.out.next ch
        clear hR
        cases hl : validI (len : Int) with
        | false =>
          have HL := Lib.hid hl
          clear hl
          go_wp2_with (first
            | (go_at_call 35; refine (interleave_bad _ len _ HL.out _).mono ?_; rintro e w2 ⟨rfl, h2⟩; have ch := chain2 ch h2)
            | (go_at_call 24; refine (num_any _ _).mono ?_; rintro e wn ⟨rfl, rfl⟩)
            | (go_at_call 39; refine (refvalid_any len _).mono ?_; rintro e wn ⟨rfl, rfl⟩; rw [HL.out])
            | (go_at_call 25; refine (works_true _).mono ?_; rintro e w9 ⟨rfl, h9⟩))
          go_ret
          exact ⟨rfl, chain2 ch h9⟩
        | true =>
          rw [validI_nat] at hl
          have HL := Lib.hid hl
          clear hl
          go_wp2_with (first
            | (go_at_call 35; refine (interleave_good len HL.out A cap _ z _ rl (Nat.le_refl _)).mono ?_; rintro e w2 ⟨g2, c2, rfl, _, r2, h2⟩; have rl := rl.next h2; have ch := chain2 ch h2)
            | (go_at_call 36; refine (deinterleave_good len HL.out _ c2 w2.heap.size (fun i => z (pi len i)) _ r2 (Nat.le_refl _)).mono ?_; rintro e w3 ⟨g3, c3, rfl, _, r3, h3⟩; have rl := rl.next h3; have ch := chain2 ch h3)
            | (go_at_call 31; ((with_reducible refine (same_true len (some ⟨g3, 0, none⟩) A c3 cap w3.heap.size (cont (pi len) (fun i => z (pi len i)) len) z w3 (by omega) r3 rl (fun j hj => back_inter len HL.out z j hj)).mono ?_); rintro e w4 ⟨rfl, h4⟩; have ch := chain2 ch h4))
            | (go_at_call 24; refine (num_any _ _).mono ?_; rintro e wn ⟨rfl, rfl⟩)
            | (go_at_call 25; refine (works_true _).mono ?_; rintro e w9 ⟨rfl, h9⟩))
          go_ret
          exact ⟨rfl, chain2 ch h9⟩
end Go.Proofs.Ytekgahigbeceeaa
