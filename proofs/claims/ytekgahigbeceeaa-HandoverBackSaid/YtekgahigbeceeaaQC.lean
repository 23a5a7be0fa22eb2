/- Contracts of qpp.of and of the methods on its result. -/
import Derived.Test.YtekgahigbeceeaaQB
import Derived.WalkMore
import Derived.ScopeJumps
namespace Go.Proofs.Ytekgahigbeceeaa
open Go.RowKit

section
variable {P : Program} {a : Act} {w : World} {Q : Exit → Act → World → Prop}
/-- A scope that is left once by a jump forward to a label. -/
theorem wp_scope_fwd {c rest : Code} (l : Nat) (hf : findLabel c l = some rest) (h : c.wp P (Exit.jump l (fun a w => rest.wp P (Exit.noGoto Q) a w) Q) a w) : (Code.scope c).wp P Q a w :=
  wp_scope_jumps l (fun a w => rest.wp P (Exit.noGoto Q) a w) (fun _ _ => 0) hf h fun a w hp => Code.wp_mono (fun e a w q => by
    cases e <;> first | exact q | exact q.elim) hp
theorem jump_ret {l : Nat} {J : Act → World → Prop} : Exit.jump l J Q .ret a w = Q .ret a w := rfl
theorem jump_normal {l : Nat} {J : Act → World → Prop} : Exit.jump l J Q .normal a w = Q .normal a w := rfl
theorem jump_goto {l : Nat} {J : Act → World → Prop} : Exit.jump l J Q (.goto l) a w = (l = l ∧ J a w) := rfl
end

/-- A block of three numbers, cell by cell. -/
theorem Blk.three {w : World} {g : Nat} {t : TypeId} {a b c : Value} (h : Blk w g t #[a, b, c]) :
    w.cell? ⟨g, 0, none⟩ = some a ∧ w.cell? ⟨g, 1, none⟩ = some b ∧ w.cell? ⟨g, 2, none⟩ = some c ∧ w.frozen? ⟨g, 0, none⟩ = false ∧ w.frozen? ⟨g, 1, none⟩ = false ∧ w.frozen? ⟨g, 2, none⟩ = false :=
  ⟨h.cell 0, h.cell 1, h.cell 2, h.frozen 0, h.frozen 1, h.frozen 2⟩

set_option maxRecDepth 100000 in
set_option maxHeartbeats 800000 in
theorem of_bad (k : Int) (hv : validI k = false) (w : World) :
    Calls Try.prog 46 #[.int .i64 k] w fun e w' => e = .returned (.tuple #[.agg #[.int .i64 0, .int .i64 0, .int .i64 0], .int .i64 2]) ∧ Below w.heap.size w w' := by
  go_enter Try.func46, Try.ntmps46
  go_wp2
  refine wp_scope_fwd 0 rfl ?_
  go_wp2_with (go_at_call 62; refine (valid_any k _).mono ?_; rintro e w1 ⟨rfl, hb⟩; rw [hv]; obtain ⟨c0, c1, c2, f0, f1, f2⟩ := (((Blk.new w 79 #[.int .i64 0, .int .i64 0, .int .i64 0]).alloc (.cells #[.int .i64 k, .int .i64 3, .int .i64 1] 79)).below hb (by simp; omega)).three)
  go_step3
  go_wp2
  refine ⟨rfl, ?_⟩
  dsimp only
  go_wp2
  rw [Exit.noGoto_ret]
  refine bodyPost_ret (v := .tuple #[.agg #[.int .i64 0, .int .i64 0, .int .i64 0], .int .i64 2]) (by simp [results, Try.results46, go_sem, c0, c1, c2]) rfl ⟨rfl, ?_⟩
  exact ((((((Below.refl w.heap.size w).alloc (Nat.le_refl _) _).alloc (by simp) _).trans (hb.mono (by simp; omega))).setCell (by simp) _).setCell (by simp) _).setCell (by simp) _

/-- f1, f2 and what is known of them -/
theorem good_facts (k : Nat) (hv : QM.valid k = true) : 40 ≤ k ∧ k ≤ 6144 ∧ (QM.D k).length ≤ 12 ∧ (∀ j, j < (QM.D k).length → 2 ≤ (QM.D k)[j]?.getD 0 ∧ (QM.D k)[j]?.getD 0 ≤ 100) ∧ QM.f1list (QM.D k) 20 3 = QM.f1 k ∧ 3 ≤ QM.f1 k ∧ QM.f1 k ≤ 43 ∧ 1 ≤ QM.f2 k ∧ QM.f2 k ≤ 6144 := by
  have hg := QM.good_of k hv
  simp only [QM.good, Bool.and_eq_true, Nat.ble_eq] at hg
  obtain ⟨⟨⟨⟨⟨⟨⟨⟨⟨⟨⟨⟨⟨⟨he, hlen⟩, ha⟩, hl⟩, h1⟩, h2⟩, _⟩, h3⟩, h4⟩, _⟩, _⟩, _⟩, _⟩, h5⟩, h6⟩ := hg
  refine ⟨h5, h6, hlen, ?_, Nat.eq_of_beq_eq_true hl, h1, h2, h3, ?_⟩
  · intro j hj
    have := List.all_eq_true.1 ha ((QM.D k)[j]) (List.getElem_mem hj)
    rw [List.getElem?_eq_getElem hj]
    simpa [Bool.and_eq_true, Nat.ble_eq] using this
  · have h4' : k % QM.f2 k = 0 := Nat.eq_of_beq_eq_true h4
    have := Nat.le_of_dvd (by omega) (Nat.dvd_of_mod_eq_zero h4')
    omega

def prodTo (l : List Nat) (j : Nat) : Nat := (l.take j).foldl (· * ·) 1
theorem prodTo_succ (l : List Nat) (j : Nat) (h : j < l.length) : prodTo l (j + 1) = prodTo l j * l[j]?.getD 0 := by
  unfold prodTo
  rw [List.take_succ_eq_append_getElem h, List.foldl_append, List.getElem?_eq_getElem h]
  rfl
theorem foldl_mul_pos (l : List Nat) : ∀ a, 1 ≤ a → (∀ x ∈ l, 1 ≤ x) → a ≤ l.foldl (· * ·) a := by
  induction l with
  | nil => intro a _ _; exact Nat.le_refl _
  | cons x l ih =>
    intro a ha h
    have hx : 1 ≤ x := h x (by simp)
    have : a ≤ a * x := Nat.le_mul_of_pos_right _ hx
    exact Nat.le_trans this (ih (a * x) (by omega) (fun y hy => h y (by simp [hy])))
theorem prodTo_le (l : List Nat) (j : Nat) (h : ∀ x ∈ l, 1 ≤ x) : prodTo l j ≤ l.foldl (· * ·) 1 := by
  have e : l.foldl (· * ·) 1 = (l.drop j).foldl (· * ·) (prodTo l j) := by
    unfold prodTo
    rw [← List.foldl_append, List.take_append_drop]
  have h1 : 1 ≤ prodTo l j := foldl_mul_pos (l.take j) 1 (Nat.le_refl _) (fun x hx => h x (List.mem_of_mem_take hx))
  rw [e]
  exact foldl_mul_pos _ _ h1 (fun x hx => h x (List.mem_of_mem_drop hx))
theorem noDiv_cop (n : Nat) (l : List Nat) : noDiv n (fun j => l[j]?.getD 0) l.length = QM.cop n l := by
  have : ∀ j, j ≤ l.length → noDiv n (fun j => l[j]?.getD 0) j = QM.cop n (l.take j) := by
    intro j
    induction j with
    | zero => intro _; rfl
    | succ j ih =>
      intro hj
      rw [noDiv, ih (by omega), List.getElem?_eq_getElem (by omega)]
      unfold QM.cop
      rw [List.take_succ_eq_append_getElem (by omega), List.all_append]
      simp
  simpa using this l.length (Nat.le_refl _)
theorem f1list_le (l : List Nat) : ∀ f n, QM.f1list l f n ≠ 0 → n ≤ QM.f1list l f n
  | 0, n, h => absurd rfl h
  | f + 1, n, h => by
    unfold QM.f1list at h ⊢
    cases hc : QM.cop n l with
    | true => simp
    | false =>
      rw [hc] at h
      simp only [cond_false] at h ⊢
      have := f1list_le l f (n + 2) h
      omega

theorem Blk.row {w : World} {g B : Nat} {t : TypeId} {cs : Array Value} (h : Blk w g t cs) (hg : g < B) {n : Nat} {v : Nat → Value} (hv : ∀ j, j < n → cs[j]? = some (v j)) : Row w B (some ⟨g, 0, none⟩) n v :=
  fun _ => ⟨g, 0, rfl, hg, fun j hj => by rw [Nat.zero_add]; exact (h.cell j).trans (hv j hj)⟩

theorem intOf_int (k : IntKind) (n : Int) : intOf (.int k n) = n := rfl

def permV (k : Nat) : Value := .agg #[.int .i64 (k : Int), .int .i64 (QM.f1 k : Int), .int .i64 (QM.f2 k : Int)]

set_option maxRecDepth 100000 in
set_option maxHeartbeats 1600000 in
theorem of_good (k : Nat) (hv : QM.valid k = true) (w : World) :
    Calls Try.prog 46 #[.int .i64 k] w fun e w' => e = .returned (.tuple #[permV k, .int .i64 0]) ∧ Below w.heap.size w w' := by
  obtain ⟨hk1, hk2, hlen, hD, hfl, h31, h43, h12, h62⟩ := good_facts k hv
  have hvI : validI k = true := by
    have := (QM.valid_iff k).1 hv
    unfold validI
    simp only [decide_eq_true_eq]
    omega
  have hpos : ∀ x ∈ QM.D k, 1 ≤ x := by
    intro x hx
    obtain ⟨j, hj, rfl⟩ := List.mem_iff_getElem.1 hx
    have := (hD j hj).1
    rw [List.getElem?_eq_getElem hj] at this
    simpa using (show 1 ≤ (QM.D k)[j] from by simp at this; omega)
  have hple : ∀ j, prodTo (QM.D k) j ≤ 6144 := fun j => Nat.le_trans (prodTo_le _ j hpos) h62
  have HD := Lib.hid hD
  have HP := Lib.hid hple
  have HF := Lib.hid hfl
  have HV := Lib.hid hv
  obtain ⟨L, hL⟩ : ∃ L, L = (QM.D k).length := ⟨_, rfl⟩
  have HL := Lib.hid hL
  rw [← hL] at hlen
  clear hpos hple hD hfl hv hL
  go_enter Try.func46, Try.ntmps46
  go_wp2
  refine wp_scope_fwd 0 rfl ?_
  go_wp2_with (first
    | (go_at_call 62; refine (valid_any k _).mono ?_; rintro e w1 ⟨rfl, hb⟩; rw [hvI]; have B1 := ((Blk.new w 79 #[.int .i64 0, .int .i64 0, .int .i64 0]).alloc (.cells #[.int .i64 k, .int .i64 3, .int .i64 1] 79)).below hb (by simp; omega); have B2 := (Blk.new (w.alloc (.cells #[.int .i64 0, .int .i64 0, .int .i64 0] 79)) 79 #[.int .i64 k, .int .i64 3, .int .i64 1]).below hb (by simp); rw [World.size_alloc] at B2; have hs1 : w.heap.size + 2 ≤ w1.heap.size := by have := hb.size; simpa using this)
    | (go_at_call 63; refine (divisors_any k HV.out _).mono ?_; rintro e w2 ⟨b, rfl, hwb, hbp, hb2⟩; rw [← HL.out]))
  have hW1 : Below w.heap.size w w1 := (((Below.refl w.heap.size w).alloc (Nat.le_refl _) _).alloc (by simp) _).trans (hb.mono (by simp; omega))
  have hW2 : Below w.heap.size w w2 := hW1.trans (hb2.mono (by omega))
  have B1' := B1.below hb2 (by omega)
  have B2' := B2.below hb2 (by omega)
  clear B1 B2 hW1 hb hb2
  go_loopw [18] (fun v18 wr => ∃ j : Nat, j ≤ L ∧ v18 = .int .i64 j ∧ Blk wr (w.heap.size + 1) 79 #[.int .i64 k, .int .i64 3, .int .i64 (prodTo (QM.D k) j : Nat)] ∧ Blk wr w.heap.size 79 #[.int .i64 0, .int .i64 0, .int .i64 0] ∧
      Blk wr b 100 (primesA (QM.D k)) ∧ Below w.heap.size w wr) (fun v18 _ => L - (intOf v18).toNat)
  case atStart => exact ⟨0, Nat.zero_le _, rfl, B2', B1', hbp, hW2⟩
  case round =>
    obtain ⟨j, hj, rfl, b2, b1, b0, hW⟩ := hrel
    obtain ⟨c0, c1, c2, f0, f1, f2⟩ := b2.three
    have hne : ¬ b = w.heap.size + 1 := by omega
    by_cases hlt : j < L
    · have hpj := HP.out j
      have hpj1 := HP.out (j + 1)
      have hs := prodTo_succ (QM.D k) j (by rw [← HL.out]; exact hlt)
      obtain ⟨q, hq⟩ : ∃ q, q = (QM.D k)[j]?.getD 0 := ⟨_, rfl⟩
      have hq1 := HD.out j (by rw [← HL.out]; exact hlt)
      have hcq : wr.cell? ⟨b, j, none⟩ = some (.int .i64 ((QM.D k)[j]?.getD 0 : Nat)) := (b0.cell j).trans (primesA_get _ _ (by rw [← HL.out]; exact hlt))
      rw [← hq] at hs hcq hq1
      rw [hs] at hpj1
      have HS := Lib.hid hs
      have HQ := Lib.hid hq
      clear hs hq
      obtain ⟨x, hx⟩ : ∃ x, x = prodTo (QM.D k) j := ⟨_, rfl⟩
      rw [← hx] at c2 hpj hpj1
      have HX := Lib.hid hx
      clear hx
      obtain ⟨hq1, hq2⟩ := hq1
      have hm0 : 0 ≤ (x : Int) * (q : Int) := by rw [← Int.natCast_mul]; omega
      have hm1 : (x : Int) * (q : Int) ≤ 6144 := by rw [← Int.natCast_mul]; omega
      go_wp2
      go_roundw
      case rel =>
        refine ⟨j + 1, by omega, by go_num, ?_, b1.far (by simp) _, b0.far (by simpa using hne) _, hW.setCell (by simp) _⟩
        have := b2.set_ 2 (.int .i64 ((x : Int) * (q : Int)))
        rw [HS.out, ← HX.out, Int.natCast_mul]
        exact this
      case measure => simp [intOf]; omega
    · have hjL : j = L := by omega
      have hpf : prodTo (QM.D k) j = QM.f2 k := by rw [hjL, HL.out]; simp [prodTo, QM.f2]
      rw [hpf] at b2
      have HJ := Lib.hid hjL
      clear hjL hpf c2 c0 c1 f0 f1 f2
      go_wp2
      go_loopw [35] (fun _ wr2 => ∃ n f : Nat, n ≤ 43 ∧ Blk wr2 (w.heap.size + 1) 79 #[.int .i64 k, .int .i64 (n : Nat), .int .i64 (QM.f2 k : Nat)] ∧ Blk wr2 w.heap.size 79 #[.int .i64 0, .int .i64 0, .int .i64 0] ∧
        Blk wr2 b 100 (primesA (QM.D k)) ∧ Below w.heap.size w wr2 ∧ Hid (QM.f1list (QM.D k) f n = QM.f1 k)) (fun _ wr2 => 50 - (intOf ((wr2.cell? ⟨w.heap.size + 1, 1, none⟩).getD undef)).toNat)
      case atStart => exact ⟨3, 20, by omega, ‹_›, ‹_›, ‹_›, ‹_›, HF.out⟩
      case round =>
        obtain ⟨n, f, hn, b2, b1, b0, hW, hf⟩ := hrel
        obtain ⟨c0, c1, c2, f0, f1, f2⟩ := b2.three
        have hrow : Row wr (b + 1) (some ⟨b, 0, none⟩) L (fun j => .int .i64 (((QM.D k)[j]?.getD 0 : Nat) : Int)) := b0.row (by omega) (fun j hj => primesA_get _ _ (by rw [← HL.out]; exact hj))
        have hzz : Hid (∀ j, j < L → 2 ≤ (fun j => (QM.D k)[j]?.getD 0) j ∧ (fun j => (QM.D k)[j]?.getD 0) j ≤ 100) := fun j hj => HD.out j (by rw [← HL.out]; exact hj)
        have hcp : Hid (noDiv n (fun j => (QM.D k)[j]?.getD 0) L = QM.cop n (QM.D k)) := by rw [HL.out]; exact noDiv_cop _ _
        by_cases hc : QM.cop n (QM.D k) = true
        · have hfin : n = QM.f1 k := by
            have h := hf.out
            cases f with
            | zero => simp only [QM.f1list] at h; omega
            | succ g => simpa [QM.f1list, hc] using h
          have HN := Lib.hid hfin
          have HC := Lib.hid hc
          obtain ⟨d0, d1, d2, g0, g1, g2⟩ := b1.three
          clear hfin hc
          go_wp2_with (go_at_call 64; refine (coprime_any n _ _ _ (b + 1) (fun j => (QM.D k)[j]?.getD 0) _ hrow hzz.out (by omega) (by omega)).mono ?_; rintro e w3 ⟨rfl, rfl⟩; rw [hcp.out, HC.out])
          rw [jump_ret]
          refine bodyPost_ret (v := .tuple #[permV k, .int .i64 0]) ?_ rfl ⟨rfl, ?_⟩
          · unfold permV
            rw [← HN.out]
            simp [results, Try.results46, go_sem, d0, d1, d2]
          · exact ((hW.setCell (by simp) _).setCell (by simp) _).setCell (by simp) _
        · have hcf : QM.cop n (QM.D k) = false := by simpa using hc
          obtain ⟨g, hg⟩ : ∃ g, QM.f1list (QM.D k) g (n + 2) = QM.f1 k := by
            have h := hf.out
            cases f with
            | zero => simp only [QM.f1list] at h; omega
            | succ g => exact ⟨g, by simpa [QM.f1list, hcf] using h⟩
          have hle : n + 2 ≤ QM.f1 k := by rw [← hg]; exact f1list_le _ _ _ (by rw [hg]; omega)
          have HC := Lib.hid hcf
          have HG := Lib.hid hg
          clear hc hcf hg
          go_wp2_with (go_at_call 64; refine (coprime_any n _ _ _ (b + 1) (fun j => (QM.D k)[j]?.getD 0) _ hrow hzz.out (by omega) (by omega)).mono ?_; rintro e w3 ⟨rfl, rfl⟩; rw [hcp.out, HC.out])
          go_roundw
          case rel =>
            refine ⟨n + 2, g, by omega, ?_, b1.far (by simp) _, b0.far (by simpa using (show ¬ b = w.heap.size + 1 by omega)) _, hW.setCell (by simp) _, HG.out⟩
            exact b2.set_ 1 (.int .i64 ((n : Int) + 2))
          case measure =>
            have e1 := ((b2.set_ 1 (.int .i64 ((n : Int) + 2))).three).2.1
            rw [e1, c1]
            simp [intOf]; omega
end Go.Proofs.Ytekgahigbeceeaa
