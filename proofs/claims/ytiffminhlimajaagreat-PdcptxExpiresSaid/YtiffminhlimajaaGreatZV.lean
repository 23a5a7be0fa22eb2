/- PdcptxExpires: the states, in plain Lean. -/
import Derived.Test.YtiffminhlimajaaGreatZS
namespace Go.Proofs.YtiffminhlimajaaGreat
open Go.RowKit
set_option linter.unusedVariables false
attribute [local go_sem ↓] Go.wp_at_zero Go.wp_at_succ

def cfX (ds : Int) : Cfg := { Cfg.zero with ds := ds }
theorem cfX_lit (ds : Int) : (cfX ds).arr = #[.int .i64 0, .int .i64 0, .int .u8 0, .int .u8 0, .int .u8 0, .int .u8 0, .int .u8 0, .int .u8 0, .int .u8 0, .int .u8 0, .int .u8 0, .int .u8 0, .int .u8 0, .int .u8 0, .int .u8 0, .int .u8 0, .int .u8 0, .int .u8 0, .int .u8 0, .int .u8 0, .int .u8 0, .int .u8 0, .int .u8 0, .int .u8 0, .int .u8 0, .int .u8 0, .int .u8 0, .int .u8 0, .int .u8 0, .int .u8 0, .int .u8 0, .int .u8 0, .int .u8 0, .int .u8 0, .bool false, .bool false, .bool false, .int .i64 ds, .int .i64 0] := by kernel_rfl
theorem cfX_ok (ds : Int) : (cfX ds).Ok := ⟨fun _ _ => ⟨Int.le_refl 0, by show (0 : Int) < 256; decide⟩, fun _ _ => ⟨Int.le_refl 0, by show (0 : Int) < 256; decide⟩⟩
theorem cfX_valid {ds : Int} (h : 0 ≤ ds ∧ ds ≤ 1000) : (cfX ds).Valid := by
  show (0 : Int) ≤ 0 ∧ (0 : Int) ≤ 31 ∧ ((0 : Int) = 0 ∨ (0 : Int) = 1) ∧ (0 : Int) ≤ ds ∧ ds ≤ 1073741824 ∧ (0 : Int) ≤ 0 ∧ (0 : Int) ≤ 1073741824
  omega
/-- the time behind i submissions -/
def exT (T : Nat → Int) : Nat → Int
  | 0 => 0
  | i + 1 => max (exT T i) (T i)
theorem exT_rng {T : Nat → Int} : ∀ {i : Nat}, (∀ j, j < i → 0 ≤ T j ∧ T j ≤ 5000) → 0 ≤ exT T i ∧ exT T i ≤ 5000
  | 0, _ => ⟨Int.le_refl _, by show (0 : Int) ≤ 5000; decide⟩
  | i + 1, h => by
    have h1 := exT_rng (T := T) (i := i) (fun j hj => h j (by omega))
    have h2 := h i (by omega)
    show 0 ≤ max (exT T i) (T i) ∧ max (exT T i) (T i) ≤ 5000
    omega
theorem exT_mono (T : Nat → Int) : ∀ {i j : Nat}, i ≤ j → exT T i ≤ exT T j
  | i, 0, h => by obtain rfl : i = 0 := by omega
                  exact Int.le_refl _
  | i, j + 1, h => by
    rcases Nat.lt_or_ge i (j + 1) with h1 | h1
    · have := exT_mono T (i := i) (j := j) (by omega)
      show exT T i ≤ max (exT T j) (T j)
      omega
    · obtain rfl : i = j + 1 := by omega
      exact Int.le_refl _
def exQ (T : Nat → Int) (j : Nat) : QV := ⟨1, fun _ => (j : Int), exT T (j + 1)⟩
def exA (T : Nat → Int) (n : Nat) : List QV := (List.range n).map (exQ T)
def gn (ds N : Int) (q : QV) : Bool := decide (0 < ds) && decide (ds ≤ N - q.at_)
theorem gn_mono {ds N M : Int} (h : N ≤ M) {q : QV} (hq : gn ds M q = false) : gn ds N q = false := by
  unfold gn at hq ⊢
  simp only [Bool.and_eq_false_iff, decide_eq_false_iff_not] at hq ⊢
  rcases hq with hq | hq
  · exact .inl hq
  · exact .inr (by omega)
theorem filt_filt {ds N M : Int} (h : N ≤ M) (l : List QV) : (l.filter fun q => !gn ds N q).filter (fun q => !gn ds M q) = l.filter fun q => !gn ds M q := by
  rw [List.filter_filter]
  refine List.filter_congr (fun q _ => ?_)
  cases hm : gn ds M q
  · rw [gn_mono h hm]; rfl
  · rfl
def xS (ds : Int) (T : Nat → Int) (i : Nat) : TS := ⟨cfX ds, exT T i, 0, (exA T i).filter fun q => !gn ds (exT T i) q, [], [kArr (cfX ds).key], cNew⟩
def zS (ds N : Int) (F : List QV) (c : Nat) : TS := ⟨cfX ds, N, (c : Int), F.drop c, [], [kArr (cfX ds).key], cNew⟩
theorem xS_fine {ds : Int} (h : 0 ≤ ds ∧ ds ≤ 1000) {T : Nat → Int} {i : Nat} (hT : ∀ j, j < i → 0 ≤ T j ∧ T j ≤ 5000) : (xS ds T i).Fine := ⟨cfX_ok ds, cfX_valid h, fun q hq => by
  obtain ⟨j, hj, rfl⟩ := List.mem_map.1 (List.mem_filter.1 hq).1
  have hj : j < i := by simpa using hj
  exact ⟨(exT_rng (i := j + 1) (fun k hk => hT k (by omega))).1, exT_mono T (by omega)⟩⟩
theorem xS_submit {ds : Int} (h : 0 ≤ ds ∧ ds ≤ 1000) {T : Nat → Int} {i : Nat} (hT : 0 ≤ T i ∧ T i ≤ 5000) : (xS ds T i).submit (T i) 1 (fun _ => (i : Int)) = (0, xS ds T (i + 1)) := by
  unfold TS.submit
  rw [if_neg (by omega), if_neg (by decide), if_neg (by decide)]
  have hq : ((xS ds T i).tick (T i)).Q ++ [⟨1, fun _ => (i : Int), max (exT T i) (T i)⟩] = (xS ds T (i + 1)).Q := by
    show ((exA T i).filter fun q => !gn ds (exT T i) q).filter (fun q => !gn ds (exT T (i + 1)) q) ++ [exQ T i] = (exA T (i + 1)).filter fun q => !gn ds (exT T (i + 1)) q
    rw [filt_filt (exT_mono T (by omega)), show exA T (i + 1) = exA T i ++ [exQ T i] by unfold exA; rw [List.range_succ, List.map_append]; rfl, List.filter_append]
    have hg : gn ds (exT T (i + 1)) (exQ T i) = false := by
      unfold gn exQ
      simp only [Bool.and_eq_false_iff, decide_eq_false_iff_not]
      by_cases h0 : 0 < ds
      · exact .inr (by omega)
      · exact .inl h0
    simp [hg]
  show (0, ({ (xS ds T i).tick (T i) with Q := ((xS ds T i).tick (T i)).Q ++ [⟨1, fun _ => (i : Int), max (exT T i) (T i)⟩] } : TS)) = (0, xS ds T (i + 1))
  rw [hq]
  rfl
/-- the packets that are left at the end; how many of the first i -/
def exF (ds N : Int) (T : Nat → Int) (n : Nat) : List QV := (exA T n).filter fun q => !gn ds N q
def kept (ds N : Int) (T : Nat → Int) (i : Nat) : Nat := (exF ds N T i).length
theorem kept_zero (ds N : Int) (T : Nat → Int) : kept ds N T 0 = 0 := rfl
theorem kept_gone {ds N : Int} {T : Nat → Int} {i : Nat} (h : gn ds N (exQ T i) = true) : kept ds N T (i + 1) = kept ds N T i := by
  unfold kept exF exA
  rw [List.range_succ, List.map_append, List.filter_append]
  simp [h]
theorem kept_stays {ds N : Int} {T : Nat → Int} {i : Nat} (h : gn ds N (exQ T i) = false) : kept ds N T (i + 1) = kept ds N T i + 1 := by
  unfold kept exF exA
  rw [List.range_succ, List.map_append, List.filter_append]
  simp [h]
theorem kept_le (ds N : Int) (T : Nat → Int) (i : Nat) : kept ds N T i ≤ i := by
  unfold kept exF exA
  have := List.length_filter_le (fun q => !gn ds N q) ((List.range i).map (exQ T))
  simpa using this
theorem drop_mid {α : Type} (a : List α) (x : α) (g : List α) : (a ++ x :: g).drop a.length = x :: (a ++ x :: g).drop (a.length + 1) := by
  induction a with
  | nil => rfl
  | cons y a ih => simp
theorem exF_at {ds N : Int} {T : Nat → Int} {i n : Nat} (hi : i < n) (h : gn ds N (exQ T i) = false) : (exF ds N T n).drop (kept ds N T i) = exQ T i :: (exF ds N T n).drop (kept ds N T i + 1) := by
  have hs : exA T n = exA T i ++ exQ T i :: (exA T n).drop (i + 1) := by
    have hl : i < (exA T n).length := by unfold exA; simpa using hi
    have h1 := (List.take_append_drop i (exA T n)).symm
    rw [List.drop_eq_getElem_cons hl] at h1
    have h2 : (exA T n).take i = exA T i := by
      unfold exA
      rw [← List.map_take, List.take_range, Nat.min_eq_left (by omega)]
    have h3' : (exA T n)[i]? = some (exQ T i) := by unfold exA; rw [List.getElem?_map, List.getElem?_range hi]; rfl
    obtain ⟨_, h3⟩ := List.getElem?_eq_some_iff.1 h3'
    rw [h2, h3] at h1
    exact h1
  have hf : exF ds N T n = exF ds N T i ++ exQ T i :: ((exA T n).drop (i + 1)).filter (fun q => !gn ds N q) := by
    unfold exF
    conv => lhs; rw [hs]
    rw [List.filter_append, List.filter_cons_of_pos (by rw [h]; rfl)]
  unfold kept
  rw [hf]
  exact drop_mid _ _ _
theorem xS_tick {ds : Int} {T : Nat → Int} {n : Nat} {now N : Int} (hN : N = max (exT T n) now) : (xS ds T n).tick now = zS ds N (exF ds N T n) 0 := by
  have hq : ((exA T n).filter fun q => !gn ds (exT T n) q).filter (fun q => !gn ds N q) = exF ds N T n := filt_filt (by omega) _
  show ({ xS ds T n with now := max (exT T n) now, Q := ((exA T n).filter fun q => !gn ds (exT T n) q).filter (fun q => !gn ds (max (exT T n) now) q) } : TS) = _
  rw [← hN, hq]
  rfl
theorem zS_tick {ds : Int} {T : Nat → Int} {n c : Nat} {now N : Int} (hN : now ≤ N) : (zS ds N (exF ds N T n) c).tick now = zS ds N (exF ds N T n) c := by
  have hm : max N now = N := by omega
  have hq : ((exF ds N T n).drop c).filter (fun q => !gn ds N q) = (exF ds N T n).drop c := List.filter_eq_self.2 (fun q hq => (List.mem_filter.1 (List.mem_of_mem_drop hq)).2)
  show ({ zS ds N (exF ds N T n) c with now := max N now, Q := ((exF ds N T n).drop c).filter (fun q => !gn ds (max N now) q) } : TS) = _
  rw [hm, hq]
  rfl
theorem x_send {ds : Int} {T : Nat → Int} {n c : Nat} {now N : Int} {s : TS} (hnow : now ≤ 5000) (hP : s.P = []) (hC : s.C = cfX ds) (hn : s.next = (c : Int)) (ht : s.tick now = zS ds N (exF ds N T n) c) (hc : c ≤ 1000) {q : QV} {r : List QV} (hF : (exF ds N T n).drop c = q :: (exF ds N T n).drop (c + 1)) :
    s.send now = ⟨pduN (cfX ds) q.n, pduZ (cfX ds) c q.n (nf q.z), (c : Int), 0, zS ds N (exF ds N T n) (c + 1)⟩ := by
  unfold TS.send TS.full
  rw [if_neg (by omega), hP, hC, hn, ht]
  show (match (exF ds N T n).drop c with | [] => (⟨0, zB, 0, 10, zS ds N (exF ds N T n) c⟩ : NX) | q :: r => _) = _
  rw [hF]
  show (if (c : Int) = 4294967296 then _ else _ : NX) = _
  rw [if_neg (by omega)]
  rfl
theorem x_send_none {ds : Int} {T : Nat → Int} {n c : Nat} {now N : Int} {s : TS} (hnow : now ≤ 5000) (hP : s.P = []) (ht : s.tick now = zS ds N (exF ds N T n) c) (hc : (exF ds N T n).length ≤ c) :
    s.send now = ⟨0, zB, 0, 10, zS ds N (exF ds N T n) c⟩ := by
  unfold TS.send
  rw [if_neg (by omega), hP, ht]
  show (match (exF ds N T n).drop c with | [] => (⟨0, zB, 0, 10, zS ds N (exF ds N T n) c⟩ : NX) | q :: r => _) = _
  rw [List.drop_eq_nil_of_le hc]
/-- a packet's byte, deciphered -/
theorem x_byte (ds : Int) (c i : Nat) (hi : i < 256) : cryF (fun _ => 0) c 0 0 (fun j => pduZ (cfX ds) c 1 (nf fun _ => (i : Int)) (2 + j)) 0 = i := by
  have h1 : pduZ (cfX ds) c 1 (nf fun _ => (i : Int)) 2 = cryF (fun _ => 0) c 0 0 (nf fun _ => (i : Int)) 0 := by
    show cryF (nf (cfX ds).key) c (cfX ds).b.toNat (cfX ds).d.toNat (plainZ (cfX ds) c 1 (nf fun _ => (i : Int))) 0 = _
    rw [pdu_plain rfl (by decide)]
    rfl
  have h2 := cryF_back (fun _ => 0) c 0 0 (nf fun _ => (i : Int)) 0
  show pduZ (cfX ds) c 1 (nf fun _ => (i : Int)) 2 ^^^ ksF (fun _ => 0) c 0 0 0 = i
  rw [h1]
  exact h2
end Go.Proofs.YtiffminhlimajaaGreat
