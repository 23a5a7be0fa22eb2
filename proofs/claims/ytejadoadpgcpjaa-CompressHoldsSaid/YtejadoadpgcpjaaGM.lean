/- compress: the reference's state; both sides answer alike. -/
import Derived.Test.YtejadoadpgcpjaaGI
namespace Go.Proofs.Ytejadoadpgcpjaa
open Go.RowKit

/-- a context of the reference -/
structure Cx where
  used : Bool
  h0 : Int
  h1 : Int
  h2 : Int
  h3 : Int
  h4 : Int
  h5 : Int
  h6 : Int
  h7 : Int
  h8 : Int
  gen : Int
  step : Int
  need : Bool
  turn : Int
def Cx.new : Cx := ⟨false, 0, 0, 0, 0, 0, 0, 0, 0, 0, -1, 0, false, 0⟩
def Cx.rx (c : Cx) : Rx := ⟨c.h5, c.h6, c.h7, c.used, c.h0, c.h1, c.h2, c.h3, c.h4, decide (0 ≤ c.gen), (if 0 ≤ c.gen then c.gen else 0), c.step, c.need, c.turn⟩
def updC (C : Nat → Cx) (i : Nat) (c : Cx) : Nat → Cx := fun j => if j = i then c else C j
def crx (C : Nat → Cx) : Nat → Rx := fun k => (C k).rx
structure Alike (x : Rx) (c : Cx) : Prop where
  form : x = { c.rx with need := x.need }
  need : c.used = true → x.need = c.need
  turn : 0 ≤ c.turn
  ok : x.Ok
  fresh : c.used = false → c = Cx.new
  gen : c.used = true → 0 ≤ c.gen ∧ c.gen < 256
theorem Alike.used {x : Rx} {c : Cx} (h : Alike x c) : x.used = c.used := by rw [h.form]; rfl
theorem Alike.same {x : Rx} {c : Cx} (h : Alike x c) (hu : c.used = true) : x = c.rx := by
  have := h.form
  rw [h.need hu] at this
  exact this
theorem alike_new : Alike Rx.zero Cx.new := ⟨rfl, fun h => (by cases h), by decide, ⟨by decide, by decide, by decide, by decide, by decide⟩, fun _ => rfl, fun h => (by cases h)⟩
theorem alike_fv (x : Rx) (c : Cx) (h : Alike x c) (X : Nat → Int) : fv (X 0) (X 1) (X 2) (X 3) (X 4) x = fv (X 0) (X 1) (X 2) (X 3) (X 4) c.rx := by rw [h.form]; rfl
theorem alike_kind (x : Rx) (c : Cx) (h : Alike x c) (h0 h1 h2 h3 h4 h5 h6 h7 : Int) (t : Int) : kindOf { x with turn := t } h0 h1 h2 h3 h4 h5 h6 h7 = kindOf { c.rx with turn := t } h0 h1 h2 h3 h4 h5 h6 h7 := by
  by_cases hu : c.used = true
  · rw [h.same hu]
  · have hu' : c.used = false := by simpa using hu
    have hx : x.used = false := h.used.trans hu'
    have e1 : noKind { x with turn := t } h0 h1 h2 h3 h4 h6 = true := by unfold noKind; simp [hx]
    have e2 : noKind { c.rx with turn := t } h0 h1 h2 h3 h4 h6 = true := by unfold noKind; simp [Cx.rx, hu']
    unfold kindOf
    rw [if_pos e1, if_pos e2]

section
variable (S : Nat → Rx) (C : Nat → Cx) (T : Int) (X : Nat → Int) (H : ∀ k, Alike (S k) (C k))
include H
theorem alike_place : cPlace S X = cPlace (crx C) X := by
  unfold cPlace
  congr 1
  funext k
  exact alike_fv _ _ (H k) X
theorem alike_cKind : cKind S T X = cKind (crx C) T X := by
  unfold cKind cTurned
  rw [← alike_place S C X H]
  exact alike_kind _ _ (H _) _ _ _ _ _ _ _ _ _
theorem alike_first : cFirst S T X = cFirst (crx C) T X := by
  unfold cFirst
  rw [alike_cKind S C T X H, alike_place S C X H]
theorem alike_len : cLen S T X = cLen (crx C) T X := by
  unfold cLen
  rw [alike_cKind S C T X H]
theorem alike_turned : cTurned S T X = { cTurned (crx C) T X with need := (S (cPlace S X)).need } := by
  unfold cTurned
  rw [← alike_place S C X H]
  conv => lhs; rw [(H _).form]
  rfl
theorem alike_eq (hu : (C (cPlace S X)).used = true) : cTurned S T X = cTurned (crx C) T X := by
  unfold cTurned
  rw [← alike_place S C X H, (H _).same hu]
  rfl
theorem alike_zero (hu : (C (cPlace S X)).used = false) : cKind S T X = 0 := by
  have hx : (S (cPlace S X)).used = false := (H _).used.trans hu
  unfold cKind kindOf
  rw [if_pos (by unfold noKind cTurned; simp [hx])]
theorem alike_newx : cNew S T X = cNew (crx C) T X := by
  have hk := alike_cKind S C T X H
  by_cases hu : (C (cPlace S X)).used = true
  · have e := alike_eq S C T X H hu
    unfold cNew
    rw [e, hk]
  · have h0 := alike_zero S C T X H (by simpa using hu)
    unfold cNew
    rw [← hk, if_pos h0, if_pos h0, alike_turned S C T X H]
    rfl
theorem alike_head (z : Nat → Int) (j : Nat) : cHead S T X z j = cHead (crx C) T X z j := by
  have hk := alike_cKind S C T X H
  have hn := alike_newx S C T X H
  by_cases hu : (C (cPlace S X)).used = true
  · have e := alike_eq S C T X H hu
    unfold cHead
    rw [e, hk, hn]
  · have h0 := alike_zero S C T X H (by simpa using hu)
    unfold cHead
    rw [← hk, if_pos h0, if_pos h0, hn]
theorem alike_body (n : Nat) (z : Nat → Int) : cBody S T X n z = cBody (crx C) T X n z := by
  unfold cBody
  have e1 : (fun k => if k = 0 then cLen S T X else n - 20) = (fun k => if k = 0 then cLen (crx C) T X else n - 20) := by rw [alike_len S C T X H]
  have e2 : (fun k => if k = 0 then cHead S T X z else fun j => z (20 + j)) = (fun k => if k = 0 then cHead (crx C) T X z else fun j => z (20 + j)) := by
    funext k
    by_cases h0 : k = 0
    · rw [if_pos h0, if_pos h0]; funext j; exact alike_head S C T X H z j
    · rw [if_neg h0, if_neg h0]
  rw [e1, e2]
end
/-- the reference's context behind a packet -/
def rNew (C : Nat → Cx) (T : Int) (X : Nat → Int) : Cx :=
  let c := C (cPlace (crx C) X)
  if cKind (crx C) T X = 0 then ⟨true, X 0, X 1, X 2, X 3, X 4, X 5, X 6, X 7, X 8, (c.gen + 1) % 256, 0, false, T + 1⟩
  else if cKind (crx C) T X = 1 then ⟨c.used, X 0, X 1, X 2, X 3, X 4, X 5, X 6, X 7, X 8, (c.gen + 1) % 256, kT (cTurned (crx C) T X) (X 7) / kN (cTurned (crx C) T X) (X 6), c.need, T + 1⟩
  else { c with turn := T + 1 }
def rState (C : Nat → Cx) (T : Int) (X : Nat → Int) : Nat → Cx := updC C (cPlace (crx C) X) (rNew C T X)
theorem kind_used (S : Nat → Rx) (T : Int) (X : Nat → Int) (h : cKind S T X ≠ 0) : (S (cPlace S X)).used = true ∧ (S (cPlace S X)).need = false ∧ sameFlow (S (cPlace S X)).f0 (S (cPlace S X)).f1 (S (cPlace S X)).f2 (S (cPlace S X)).f3 (S (cPlace S X)).f4 (X 0) (X 1) (X 2) (X 3) (X 4) = true ∧ 1 ≤ kN (cTurned S T X) (X 6) ∧ kN (cTurned S T X) (X 6) ≤ 255 := by
  unfold cKind kindOf at h
  by_cases hn : noKind (cTurned S T X) (X 0) (X 1) (X 2) (X 3) (X 4) (X 6) = true
  · rw [if_pos hn] at h; exact absurd rfl h
  · unfold noKind at hn
    simp only [Bool.or_eq_true, Bool.not_eq_true', decide_eq_true_eq, not_or] at hn
    obtain ⟨a, b, c, d, e⟩ := hn
    have ht : (cTurned S T X) = { S (cPlace S X) with turn := T + 1 } := rfl
    refine ⟨by simpa [ht] using a, by simpa [ht] using b, by simpa [ht] using c, by omega, by omega⟩
theorem alike_step (S : Nat → Rx) (C : Nat → Cx) (T : Int) (X : Nat → Int) (hT : 0 ≤ T) (b5 : 0 ≤ X 5 ∧ X 5 < 256) (b6 : 0 ≤ X 6 ∧ X 6 < 65536) (b7 : 0 ≤ X 7 ∧ X 7 < 16777216) (H : ∀ k, Alike (S k) (C k)) : ∀ k, Alike (cState S T X k) (rState C T X k) := by
  intro k
  unfold cState rState upd updC
  rw [← alike_place S C X H]
  by_cases hk : k = cPlace S X
  rotate_left
  · rw [if_neg hk, if_neg hk]; exact H k
  rw [if_pos hk, if_pos hk]
  have hp := alike_place S C X H
  have hkk := alike_cKind S C T X H
  have A := H (cPlace S X)
  rw [alike_newx S C T X H]
  have e0 : crx C (cPlace (crx C) X) = (C (cPlace S X)).rx := by rw [hp]; rfl
  have et : cTurned (crx C) T X = { (C (cPlace S X)).rx with turn := T + 1 } := by unfold cTurned; rw [e0]
  unfold cNew rNew
  simp only [← hp]
  obtain ⟨c, hc⟩ : ∃ c, c = C (cPlace S X) := ⟨_, rfl⟩
  rw [← hc] at A et ⊢
  rw [et]
  have hgen : (if (c.rx).began = true then ((c.rx).gen + 1) % 256 else (c.rx).gen) = (c.gen + 1) % 256 ∧ 0 ≤ (c.gen + 1) % 256 := by
    by_cases hu : c.used = true
    · have := (A.gen hu)
      constructor
      · simp [Cx.rx, this]
      · omega
    · rw [A.fresh (by simpa using hu)]; decide
  by_cases h0 : cKind (crx C) T X = 0
  · rw [if_pos h0, if_pos h0]
    refine ⟨?_, fun _ => rfl, ?_, ⟨b5, b6, b7, ?_, ?_⟩, fun h => (by cases h), fun _ => ⟨hgen.2, ?_⟩⟩
    · unfold fulled begun
      simp only [Cx.rx] at hgen ⊢
      simp only [hgen.1, hgen.2, decide_true, if_true]
    · show 0 ≤ T + 1; omega
    · show 0 ≤ (if (c.rx).began = true then ((c.rx).gen + 1) % 256 else (c.rx).gen) ∧ (if (c.rx).began = true then ((c.rx).gen + 1) % 256 else (c.rx).gen) < 256
      rw [hgen.1]; omega
    · exact ⟨by show (0 : Int) ≤ 0; omega, by show (0 : Int) < 65536; omega⟩
    · show (c.gen + 1) % 256 < 256; omega
  · rw [if_neg h0, if_neg h0]
    obtain ⟨hu', hn', _, n1, n2⟩ := kind_used (crx C) T X h0
    rw [e0, ← hc] at hu' hn'
    have hu : c.used = true := hu'
    have hne : c.need = false := hn'
    rw [et] at n1 n2
    have As := A.same hu
    have Ok := A.ok
    rw [As] at Ok
    by_cases h1 : cKind (crx C) T X = 1
    · rw [if_pos h1, if_pos h1]
      have ht : kT { c.rx with turn := T + 1 } (X 7) < 65536 := by
        have h1' := h1
        unfold cKind at h1'
        rw [et] at h1'
        unfold kindOf at h1'
        split at h1'
        · cases h1'
        · split at h1'
          · cases h1'
          · split at h1'
            · assumption
            · cases h1'
      have ht0 : 0 ≤ kT { c.rx with turn := T + 1 } (X 7) := by unfold kT; omega
      obtain ⟨t, htt⟩ : ∃ t, t = kT { c.rx with turn := T + 1 } (X 7) := ⟨_, rfl⟩
      obtain ⟨n, hnn⟩ : ∃ n, n = kN { c.rx with turn := T + 1 } (X 6) := ⟨_, rfl⟩
      rw [← htt] at ht ht0 ⊢
      rw [← hnn] at n1 n2 ⊢
      have q0 : 0 ≤ t / n := Int.ediv_nonneg ht0 (by omega)
      have q1 : t / n ≤ t := Int.ediv_le_self _ ht0
      have hsame : (c.used = true) := hu
      have hflow := (kind_used (crx C) T X h0).2.2.1
      rw [e0, ← hc] at hflow
      unfold sameFlow at hflow
      simp only [Bool.and_eq_true, beq_iff_eq] at hflow
      obtain ⟨f0, f1, f2, f3, f4⟩ := hflow
      simp only [Cx.rx] at f0 f1 f2 f3 f4
      refine ⟨?_, fun _ => rfl, ?_, ⟨b5, b6, b7, ?_, ?_⟩, fun h => ?_, fun _ => ⟨hgen.2, ?_⟩⟩
      · unfold begun
        simp only [Cx.rx] at hgen ⊢
        simp only [hgen.1, hgen.2, decide_true, if_true, f0, f1, f2, f3, f4]
      · show 0 ≤ T + 1; omega
      · show 0 ≤ (if (c.rx).began = true then ((c.rx).gen + 1) % 256 else (c.rx).gen) ∧ (if (c.rx).began = true then ((c.rx).gen + 1) % 256 else (c.rx).gen) < 256
        rw [hgen.1]; omega
      · exact ⟨q0, by show t / n < 65536; omega⟩
      · exact absurd h (by show ¬ c.used = false; rw [hu]; decide)
      · show (c.gen + 1) % 256 < 256; omega
    · rw [if_neg h1, if_neg h1]
      exact ⟨rfl, fun _ => rfl, by show 0 ≤ T + 1; omega, ⟨Ok.hops, Ok.ident, Ok.time, Ok.gen, Ok.step⟩, fun h => absurd h (by show ¬ c.used = false; rw [hu]; decide), fun h => A.gen hu⟩

/-- what the reference's Feedback does -/
def needC (C : Nat → Cx) (k : Nat) : Nat → Cx := if (C k).used then updC C k { C k with need := true } else C
theorem alike_need (S : Nat → Rx) (C : Nat → Cx) (q : Nat) (H : ∀ k, Alike (S k) (C k)) : ∀ k, Alike (needS S q k) (needC C q k) := by
  intro k
  have A := H q
  unfold needS needC upd
  by_cases hk : k = q
  · subst hk
    rw [if_pos rfl]
    by_cases hu : (C k).used = true
    · rw [if_pos hu]; unfold updC; rw [if_pos rfl]
      refine ⟨?_, fun _ => rfl, A.turn, ⟨A.ok.hops, A.ok.ident, A.ok.time, A.ok.gen, A.ok.step⟩, fun h => absurd h (by show ¬ (C k).used = false; rw [hu]; decide), fun _ => A.gen hu⟩
      rw [A.form]; rfl
    · rw [if_neg hu]
      refine ⟨?_, fun h => absurd h hu, A.turn, ⟨A.ok.hops, A.ok.ident, A.ok.time, A.ok.gen, A.ok.step⟩, A.fresh, A.gen⟩
      rw [A.form]
  · rw [if_neg hk]
    by_cases hu : (C q).used = true
    · rw [if_pos hu]; unfold updC; rw [if_neg hk]; exact H k
    · rw [if_neg hu]; exact H k
end Go.Proofs.Ytejadoadpgcpjaa
