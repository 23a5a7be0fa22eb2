/- The walk of QppSteps: the iterator, left early and used again. -/
import Derived.Test.YtekgahigbeceeaaQU
namespace Go.Proofs.Ytekgahigbeceeaa
open Go.RowKit Go.Shelf

attribute [local go_sem] Oper.semAt_some

abbrev stepEnc (kk : Nat) (i : Nat) : Array Value := #[.int .i64 (i : Int), .int .i64 ((pi kk i : Nat) : Int)]
def StepSeq (kk N bx : Nat) (cs : Array Value) : Prop := ∀ (n0 n : Nat) (W : World), bx < n0 → n0 ≤ W.heap.size → Blk W bx 79 cs → 1 ≤ n →
  SeqStopsK Fence.wide n Try.prog 59 #[.pointer (some ⟨bx, 0, none⟩)] (stepEnc kk) (Below n0) (fun xs => xs = List.range N) (fun pre => ∃ m, m ≤ N ∧ pre = List.range m) N W

theorem len_snoc (pre : List Nat) (x : Nat) : (((pre ++ [x]).length : Nat) : Int) = (pre.length : Int) + 1 := by simp
theorem range_snoc {pre : List Nat} (h : pre = List.range pre.length) : pre ++ [pre.length] = List.range (pre ++ [pre.length]).length := by
  rw [List.length_append, List.length_singleton, List.range_succ, ← h]
theorem not_range_snoc {pre : List Nat} {x : Nat} (h : x ≠ pre.length) : pre ++ [x] ≠ List.range (pre ++ [x]).length := by
  intro e
  rw [List.length_append, List.length_singleton, List.range_succ] at e
  have := List.append_inj_right' e rfl
  simp at this
  exact h this

theorem seq_not_nil (bx : Nat) (w : World) : (binOp .eql 69 (.func (.func 59) #[] #[.pointer (some ⟨bx, 0, none⟩)]) .nilFunc).run Try.prog w = .ok (.bool false) w := by kernel_rfl

set_option maxRecDepth 100000 in
set_option maxHeartbeats 4000000 in
theorem qppSteps_core (k many : Int) (N kk : Nat) (hN : N ≤ 6144)
    (hord : ∀ w, Calls Try.prog 29 #[.int .i64 k] w fun e w' => ∃ A cap er, e = .returned (.tuple #[.slice A N cap, .int .i64 er]) ∧ Row w' w'.heap.size A N (fun j => .int .i64 ((pi kk j : Nat) : Int)) ∧ Below w.heap.size w w')
    (hsteps : ∀ w, Calls Try.prog 40 #[.int .i64 k] w fun e w' => ∃ bx cs, e = .returned (.func (.func 59) #[] #[.pointer (some ⟨bx, 0, none⟩)]) ∧ bx < w'.heap.size ∧ Blk w' bx 79 cs ∧ Below w.heap.size w w' ∧ StepSeq kk N bx cs)
    (w : World) :
    Calls Try.prog 12 #[.int .i64 k, .int .i64 many] w fun e w' => e = .returned (.bool true) ∧ Below w.heap.size w w' := by
  have HO := Lib.hid hord
  have HS := Lib.hid hsteps
  clear hord hsteps
  have hnn := seq_not_nil
  refine (callsIn_wide (n := 8)).1 ?_
  refine callsIn_of_wp_marks Try.func12 rfl trivial ?_ rfl
  simp only [Try.ntmps12, List.size_toArray, List.length_cons, List.length_nil, Nat.reduceAdd, Nat.reduceSub, Array.replicate_succ, Array.replicate_zero, List.push_toArray, List.append_toArray, List.nil_append, List.cons_append]
  gi_wp2_with (first
    | (refine ⟨trivial, ?_⟩; gi_at_call 29; refine (callsIn_wide.2 (HO.out _)).mono ?_; rintro e w1 ⟨A, cap, er, rfl, r1, h1⟩; have hs1 := h1.size; simp only [World.size_alloc] at hs1)
    | (refine ⟨trivial, ?_⟩; gi_at_call 40; refine (callsIn_wide.2 (HS.out _)).mono ?_; rintro e w2 ⟨bx, cs, rfl, hbx, hB, h2, hseq⟩; have hs2 := h2.size; simp only [World.size_alloc] at hs2))
  have hq : ∀ o, w2.cell? ⟨w.heap.size, o, none⟩ = ((w.alloc (.cells #[.int .i64 many] 3)).alloc (.cells #[.bool false] 4)).cell? ⟨w.heap.size, o, none⟩ ∧ w2.cell? ⟨w.heap.size + 1, o, none⟩ = ((w.alloc (.cells #[.int .i64 many] 3)).alloc (.cells #[.bool false] 4)).cell? ⟨w.heap.size + 1, o, none⟩ ∧ w2.frozen? ⟨w.heap.size + 1, o, none⟩ = ((w.alloc (.cells #[.int .i64 many] 3)).alloc (.cells #[.bool false] 4)).frozen? ⟨w.heap.size + 1, o, none⟩ := by
    intro o
    have k1 : ∀ b, b < w.heap.size + 2 → w2.cell? ⟨b, o, none⟩ = ((w.alloc (.cells #[.int .i64 many] 3)).alloc (.cells #[.bool false] 4)).cell? ⟨b, o, none⟩ := fun b hb =>
      (h2.cell (p := ⟨b, o, none⟩) (by simp; omega)).trans ((World.cell?_alloc_lt w1 _ ⟨b, o, none⟩ (by simp; omega)).trans (h1.cell (p := ⟨b, o, none⟩) (by simp; omega)))
    refine ⟨k1 _ (by omega), k1 _ (by omega), ?_⟩
    refine (h2.frozen (p := ⟨w.heap.size + 1, o, none⟩) (by simp; omega)).trans (Eq.trans ?_ (h1.frozen (p := ⟨w.heap.size + 1, o, none⟩) (by simp)))
    exact frozen?_alloc_cells _ _ _ _
  have q0 : w2.cell? ⟨w.heap.size, 0, none⟩ = some (.int .i64 many) := (hq 0).1.trans (by simp [go_sem])
  have q1 : w2.cell? ⟨w.heap.size + 1, 0, none⟩ = some (.bool false) := (hq 0).2.1.trans (by simp [go_sem])
  have q1f : w2.frozen? ⟨w.heap.size + 1, 0, none⟩ = false := (hq 0).2.2.trans (by simp [go_sem])
  have q2 : w2.cell? ⟨w1.heap.size, 0, none⟩ = some (.slice A N cap) := (h2.cell (p := ⟨w1.heap.size, 0, none⟩) (by simp)).trans (by simp [go_sem])
  have hW1 : Below w.heap.size w w1 := (((Below.refl w.heap.size w).alloc (Nat.le_refl _) _).alloc (by simp) _).trans (h1.mono (by simp; omega))
  have hW2 : Below w.heap.size w w2 := (hW1.alloc hW1.size _).trans (h2.mono (by simp; omega))
  have r2 : Row w2 w2.heap.size A N (fun j => .int .i64 ((pi kk j : Nat) : Int)) := (r1.alloc (Nat.le_refl _) _ |>.below (h2.mono (by simp))).more (by omega)
  clear hq h1 h2 r1
  refine wpIn_loop_rounds 3 ?_
  rw [roundsIn_succ]
  gi_wp2
  obtain ⟨W0, hW0⟩ : ∃ W0, W0 = (w2.alloc (.cells #[.int .i64 0] 3)).alloc (.cells #[.int .i64 0] 3) := ⟨_, rfl⟩
  have b0 : Below w2.heap.size w2 W0 := by rw [hW0]; exact ((Below.refl w2.heap.size w2).alloc (Nat.le_refl _) _).alloc (by simp) _
  have z0 : W0.heap.size = w2.heap.size + 2 := by rw [hW0]; simp
  have t0 : Blk W0 w2.heap.size 3 #[.int .i64 0] := by rw [hW0]; exact (Blk.new _ _ _).alloc _
  have n0 : Blk W0 (w2.heap.size + 1) 3 #[.int .i64 0] := by
    rw [hW0]
    have := Blk.new (w2.alloc (.cells #[.int .i64 0] 3)) 3 #[.int .i64 0]
    rwa [World.size_alloc] at this
  rw [← hW0]
  have HW0 := Lib.hid hW0
  clear hW0
  have z0' : w2.heap.size + 2 ≤ W0.heap.size := by omega
  have hc0 : ∀ (W : World), Below (w2.heap.size + 1) W0 W → W.cell? ⟨w.heap.size, 0, none⟩ = some (.int .i64 many) ∧ W.cell? ⟨w.heap.size + 1, 0, none⟩ = some (.bool false) ∧ W.frozen? ⟨w.heap.size + 1, 0, none⟩ = false ∧ W.cell? ⟨w1.heap.size, 0, none⟩ = some (.slice A N cap) ∧ W.cell? ⟨w2.heap.size, 0, none⟩ = some (.int .i64 0) ∧ W.frozen? ⟨w2.heap.size, 0, none⟩ = false ∧ Row W W.heap.size A N (fun j => .int .i64 ((pi kk j : Nat) : Int)) := by
    intro W hb
    have k1 : ∀ b, b < w2.heap.size → W.cell? ⟨b, 0, none⟩ = w2.cell? ⟨b, 0, none⟩ := fun b h => (hb.cell (p := ⟨b, 0, none⟩) (by simp; omega)).trans (b0.cell (p := ⟨b, 0, none⟩) h)
    refine ⟨(k1 _ (by omega)).trans q0, (k1 _ (by omega)).trans q1, ?_, (k1 _ (by omega)).trans q2, (hb.cell (p := ⟨w2.heap.size, 0, none⟩) (by simp)).trans (t0.cell 0), (hb.frozen (p := ⟨w2.heap.size, 0, none⟩) (by simp)).trans (t0.frozen 0), ?_⟩
    · exact (hb.frozen (p := ⟨w.heap.size + 1, 0, none⟩) (by simp; omega)).trans ((b0.frozen (p := ⟨w.heap.size + 1, 0, none⟩) (by simp; omega)).trans q1f)
    · exact ((r2.below b0).below (hb.mono (by omega))).more (by have := hb.size; omega)
  have HC0 := Lib.hid hc0
  clear hc0
  refine wpIn_rangeFunc_ownF rfl (by decide) (gf := 59) (lb := #[.pointer (some ⟨bx, 0, none⟩)]) rfl trivial (enters_of Try.func59 (by kernel_rfl) rfl)
    (hseq (w2.heap.size + 1) 7 W0 (by omega) (by omega) (hB.below b0 hbx) (by decide)) belowK_t (belowK_b (by omega)) (Below.refl _ _) (fun _ => rfl)
    (fun pre W => (W.cell? ⟨w2.heap.size + 1, 0, none⟩ = some (.int .i64 (pre.length : Nat)) ∧ W.frozen? ⟨w2.heap.size + 1, 0, none⟩ = false ∧ pre = List.range pre.length ∧ (pre.length = 0 ∨ ((pre.length : Nat) : Int) < many)) ∧ Below (w2.heap.size + 1) W0 W)
    (fun c pre W => ((c = .ret ∧ pre ≠ List.range pre.length) ∨ (c = .exit 2 ∧ W.cell? ⟨w2.heap.size + 1, 0, none⟩ = some (.int .i64 (pre.length : Nat)) ∧ many ≤ ((pre.length : Nat) : Int) ∧ 1 ≤ pre.length ∧ (pre.length = 1 ∨ ((pre.length : Nat) : Int) ≤ many) ∧ Below (w2.heap.size + 1) W0 W)))
    (OwnFrom.and (Own.from (fun s A B row hs hg hr => ⟨cell_kept hs.1 hg hr, (frozen_kept hs.1 hg hr).trans hs.2.1, hs.2.2⟩) _) (ownFrom_below (by omega) (by omega)))
    (fun c s A B row hs hg hr => ?ixown)
    ⟨⟨n0.cell 0, n0.frozen 0, rfl, .inl rfl⟩, Below.refl _ _⟩
    ?a1 ?assign ?body ?done ?stop
  case ixown =>
    rcases hs with hs | ⟨h1, h2, h3, h4, h5, h6⟩
    · exact .inl hs
    · exact .inr ⟨h1, cell_kept h2 hg (fun r e => (hr r e).2), h3, h4, h5, ownFrom_below (β := List Nat) (n₀ := w2.heap.size + 1) (w₀ := W0) (B := W0.heap.size) (by omega) (by omega) s A B row h6 hg hr⟩
  case assign =>
    intro l x W K hK
    gi_wp2
    exact hK
  case body =>
    rintro l pre x W ⟨⟨hc, hf, hpre, hm⟩, hBW⟩ hlen
    obtain ⟨e1, e2, e3, e4, e5, e6, hrow⟩ := HC0.out W hBW
    have HP := Lib.hid hpre
    have HM := Lib.hid hm
    clear hpre hm
    by_cases hx : x = pre.length
    · subst hx
      obtain ⟨lb, lo, rfl, hlb, hlc⟩ := hrow (by omega)
      have hl0 := hlc pre.length hlen
      have hd1 : decide (N ≤ pre.length) = false := by simp; omega
      by_cases hmany : many ≤ ((pre.length + 1 : Nat) : Int)
      · gi_wp2
        exact ⟨KeepsOthers.setCell _ _ _, .inr ⟨rfl, by rw [len_snoc]; exact World.cell?_setCell_same' _ _ _ (by rw [hc]; rfl), by rw [len_snoc]; exact hmany, by simp,
          by rw [len_snoc]; rw [List.length_append, List.length_singleton]; rcases HM.out with h | h <;> omega,
          hBW.setCell (p := ⟨w2.heap.size + 1, 0, none⟩) (Nat.le_refl _) _⟩⟩
      · gi_wp2
        exact ⟨KeepsOthers.setCell _ _ _, (Below.refl _ W).setCell (p := ⟨w2.heap.size + 1, 0, none⟩) (Nat.le_refl _) _, ⟨by rw [len_snoc]; exact World.cell?_setCell_same' _ _ _ (by rw [hc]; rfl),
          by rw [World.frozen?_setCell]; exact hf, range_snoc HP.out, .inr (by rw [len_snoc]; omega)⟩,
          hBW.setCell (p := ⟨w2.heap.size + 1, 0, none⟩) (Nat.le_refl _) _⟩
    · have hd2 : ((x : Int) != (pre.length : Int)) = true := by rw [bne_iff_ne]; omega
      gi_wp2
      exact ⟨KeepsOthers.setCell _ _ _, .inl ⟨rfl, not_range_snoc hx⟩⟩
  case' done =>
    rintro D xs W hD rfl ⟨⟨hc, hf, hpre, hm⟩, hBW⟩ hK
    obtain ⟨e1, e2, e3, e4, e5, e6, hrow⟩ := HC0.out W hBW
    rw [List.length_range] at hc hm
    clear hpre
    gi_wp2
    all_goals (rw [roundsIn_succ]; gi_wp2)
  case' stop =>
    rintro D c pre W hD ⟨m, hmN, rfl⟩ (⟨rfl, h⟩ | ⟨rfl, hc, hm1, hm2, hm3, hBW⟩) hK
    · exact absurd (by rw [List.length_range]) h
    rw [List.length_range] at hc hm1 hm2 hm3
    obtain ⟨e1, e2, e3, e4, e5, e6, hrow⟩ := HC0.out W hBW
    gi_wp2
    all_goals (rw [roundsIn_succ]; gi_wp2)
  all_goals
    have HBW := Lib.hid hBW
    clear hBW hc
    have hDW : D < W.heap.size := (Array.getElem?_eq_some_iff.1 hK).1
    have hw2W : w2.heap.size + 2 ≤ W.heap.size := by omega
    obtain ⟨V, hV⟩ : ∃ V, V = (W.alloc (.cells #[.int .i64 1] 3)).alloc (.cells #[.int .i64 0] 3) := ⟨_, rfl⟩
    have bV : Below W.heap.size W V := by rw [hV]; exact ((Below.refl W.heap.size W).alloc (Nat.le_refl _) _).alloc (by simp) _
    have zV : V.heap.size = W.heap.size + 2 := by rw [hV]; simp
    have tV : Blk V W.heap.size 3 #[.int .i64 1] := by rw [hV]; exact (Blk.new _ _ _).alloc _
    have nV : Blk V (W.heap.size + 1) 3 #[.int .i64 0] := by
      rw [hV]
      have := Blk.new (W.alloc (.cells #[.int .i64 1] 3)) 3 #[.int .i64 0]
      rwa [World.size_alloc] at this
    rw [← hV]
    have HV := Lib.hid hV
    clear hV
    have zV' : W.heap.size + 2 ≤ V.heap.size := by omega
    have hc1 : ∀ (U : World), Below (W.heap.size + 1) V U → U.cell? ⟨w.heap.size, 0, none⟩ = some (.int .i64 many) ∧ U.cell? ⟨w.heap.size + 1, 0, none⟩ = some (.bool false) ∧ U.frozen? ⟨w.heap.size + 1, 0, none⟩ = false ∧ U.cell? ⟨w1.heap.size, 0, none⟩ = some (.slice A N cap) ∧ U.cell? ⟨W.heap.size, 0, none⟩ = some (.int .i64 1) ∧ U.frozen? ⟨W.heap.size, 0, none⟩ = false ∧ Row U U.heap.size A N (fun j => .int .i64 ((pi kk j : Nat) : Int)) ∧ U.heap[D]? = some (.deferred (some [])) := by
      intro U hb
      have k1 : ∀ b, b < W.heap.size → U.cell? ⟨b, 0, none⟩ = W.cell? ⟨b, 0, none⟩ := fun b h => (hb.cell (p := ⟨b, 0, none⟩) (by simp; omega)).trans (bV.cell (p := ⟨b, 0, none⟩) h)
      refine ⟨(k1 _ (by omega)).trans e1, (k1 _ (by omega)).trans e2, ?_, (k1 _ (by omega)).trans e4, (hb.cell (p := ⟨W.heap.size, 0, none⟩) (by simp)).trans (tV.cell 0), (hb.frozen (p := ⟨W.heap.size, 0, none⟩) (by simp)).trans (tV.frozen 0), ?_, (hb.block D (by omega)).trans ((bV.block D hDW).trans hK)⟩
      · exact (hb.frozen (p := ⟨w.heap.size + 1, 0, none⟩) (by simp; omega)).trans ((bV.frozen (p := ⟨w.heap.size + 1, 0, none⟩) (by simp; omega)).trans e3)
      · exact ((hrow.below bV).below (hb.mono (by omega))).more (by have := hb.size; omega)
    have HC1 := Lib.hid hc1
    clear hc1
    clear hrow e1 e2 e3 e4 e5 e6
    refine wpIn_rangeFunc_ownF rfl (by decide) (gf := 59) (lb := #[.pointer (some ⟨bx, 0, none⟩)]) rfl trivial (enters_of Try.func59 (by kernel_rfl) rfl)
      (hseq (W.heap.size + 1) 7 V (by omega) (by omega) (((hB.below b0 hbx).below HBW.out (by omega)).below bV (by omega)) (by decide)) belowK_t (belowK_b (by omega)) (Below.refl _ _) (fun _ => rfl)
      (fun pre U => (U.cell? ⟨W.heap.size + 1, 0, none⟩ = some (.int .i64 (pre.length : Nat)) ∧ U.frozen? ⟨W.heap.size + 1, 0, none⟩ = false ∧ pre = List.range pre.length) ∧ Below (W.heap.size + 1) V U)
      (fun c pre U => c = .ret ∧ pre ≠ List.range pre.length)
      (OwnFrom.and (Own.from (fun s A B row hs hg hr => ⟨cell_kept hs.1 hg hr, (frozen_kept hs.1 hg hr).trans hs.2.1, hs.2.2⟩) _) (ownFrom_below (by omega) (by omega)))
      (fun c s A B row hs hg hr => hs)
      ⟨⟨nV.cell 0, nV.frozen 0, rfl⟩, Below.refl _ _⟩
      ?_ ?_ ?_ ?_ ?_
    rotate_left
    · intro l x U K hK
      gi_wp2
      exact hK
    · rintro l pre x U ⟨⟨hc, hf, hpre⟩, hBU⟩ hlen
      obtain ⟨e1, e2, e3, e4, e5, e6, hrow, hKU⟩ := HC1.out U hBU
      have HP := Lib.hid hpre
      clear hpre
      have hN0 : 0 < N := by omega
      by_cases hx : x = pre.length
      · subst hx
        obtain ⟨lb, lo, rfl, hlb, hlc⟩ := hrow (by omega)
        have hl0 := hlc pre.length hlen
        have hd1 : decide (N ≤ pre.length) = false := by simp; omega
        gi_wp2
        first | exact ⟨KeepsOthers.setCell _ _ _, (Below.refl _ U).setCell (p := ⟨W.heap.size + 1, 0, none⟩) (Nat.le_refl _) _, ⟨by rw [len_snoc]; exact World.cell?_setCell_same' _ _ _ (by rw [hc]; rfl),
          by rw [World.frozen?_setCell]; exact hf, range_snoc HP.out⟩, hBU.setCell (p := ⟨W.heap.size + 1, 0, none⟩) (Nat.le_refl _) _⟩ | (exfalso; omega)
      · have hd2 : ((x : Int) != (pre.length : Int)) = true := by rw [bne_iff_ne]; omega
        gi_wp2
        first | exact ⟨KeepsOthers.setCell _ _ _, rfl, not_range_snoc hx⟩ | (exfalso; omega)
    · rintro D2 xs U hD2 rfl ⟨⟨hc, hf, hpre⟩, hBU⟩ hK2
      obtain ⟨e1, e2, e3, e4, e5, e6, hrow, hKU⟩ := HC1.out U hBU
      rw [List.length_range] at hc
      clear hpre
      have hU := hBU.size
      gi_wp2
      all_goals (rw [roundsIn_succ]; gi_wp2_with (refine ⟨trivial, ?_⟩; gi_at_call 25; refine (callsIn_wide.2 (works_true _)).mono ?_; rintro e w9 ⟨rfl, h9⟩; have q9 := (h9.cell (p := ⟨w.heap.size + 1, 0, none⟩) (by simp; omega)).trans ((World.cell?_alloc_lt U _ ⟨w.heap.size + 1, 0, none⟩ (by simp; omega)).trans e2); have q9f := (h9.frozen (p := ⟨w.heap.size + 1, 0, none⟩) (by simp; omega)).trans ((frozen?_alloc_cells _ _ _ _).trans e3)))
      all_goals
        have hD9 : w9.heap[D]? = some (.deferred (some [])) := (h9.block D (by simp; have := hBU.size; omega)).trans ((Below.heap_alloc U _ D (by have := hBU.size; omega)).trans hKU)
        have hD29 : w9.heap[D2]? = some (.deferred (some [])) := (h9.block D2 (by have := (Array.getElem?_eq_some_iff.1 hK2).1; simp; omega)).trans ((Below.heap_alloc U _ D2 ((Array.getElem?_eq_some_iff.1 hK2).1)).trans hK2)
        have k9 := KeepsOthers.setCell w9 ⟨w.heap.size + 1, 0, none⟩ (.bool true)
        have hD9' := k9.same D _ hD9 rfl
        have hD29' := k9.same D2 _ hD29 rfl
        have hne : D ≠ D2 := by have := hBU.size; omega
        refine ⟨by simp, .inl ⟨_, _, rfl, run_takeDeferred hD29', ?_⟩⟩
        refine ⟨by simp, .inl ⟨_, _, rfl, run_takeDeferred ((World.putObj_heap_other hne).trans hD9'), ?_⟩⟩
        have h5 : (((w9.setCell ⟨w.heap.size + 1, 0, none⟩ (.bool true)).putObj D2 (.deferred none)).putObj D (.deferred none)).cell? ⟨w.heap.size + 1, 0, none⟩ = some (.bool true) :=
          cell_kept (cell_kept (World.cell?_setCell_same' w9 ⟨w.heap.size + 1, 0, none⟩ (.bool true) (by rw [q9]; rfl)) (grownBy_putObj' _ D2 (.deferred none)) (fun r e => by cases e; exact ⟨_, hD29', rfl⟩))
            (grownBy_putObj' _ D (.deferred none)) (fun r e => by cases e; exact ⟨_, (World.putObj_heap_other hne).trans hD9', rfl⟩)
        refine ⟨.bool true, ?_, rfl, ?_⟩
        · simp [results, go_sem, h5]
        · have hb : Below w.heap.size w ((w9.setCell ⟨w.heap.size + 1, 0, none⟩ (.bool true))) := (((((hW2.trans (b0.mono (by omega))).trans (HBW.out.mono (by omega))).trans (bV.mono (by omega))).trans (hBU.mono (by omega))).alloc (by omega) _ |>.trans (h9.mono (by simp; omega))).setCell (p := ⟨w.heap.size + 1, 0, none⟩) (by simp) _
          have hz9 := hb.size
          exact (hb.grown (grownBy_putObj' _ D2 (.deferred none)) hz9 (fun k e => by cases e; omega)).grown (grownBy_putObj' _ D (.deferred none)) (by rw [World.putObj_size]; exact hz9) (fun k e => by cases e; omega)
    · rintro D2 c pre U hD2 ⟨m2, hmN2, rfl⟩ ⟨rfl, h⟩ hK2
      exact absurd (by rw [List.length_range]) h
end Go.Proofs.Ytekgahigbeceeaa
