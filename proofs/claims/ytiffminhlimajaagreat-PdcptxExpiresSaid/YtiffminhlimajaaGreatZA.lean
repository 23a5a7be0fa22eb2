/- pdcptx: what the calls compute, in plain Lean; elements of a slice cleared, elements stored. -/
import Derived.Test.YtiffminhlimajaaGreatTI
import Derived.Test.YtiffminhlimajaaGreatVS
namespace Go.Proofs.YtiffminhlimajaaGreat
open Go.RowKit
set_option linter.unusedVariables false

/-- bytes as natural numbers -/
def nf (f : Nat → Int) : Nat → Nat := fun j => (f j).toNat
theorem nf_cast {f : Nat → Int} {n : Nat} (h : ∀ j, j < n → 0 ≤ f j ∧ f j < 256) {j : Nat} (hj : j < n) : ((nf f j : Nat) : Int) = f j := Int.toNat_of_nonneg (h j hj).1
theorem nf_lt {f : Nat → Int} {n : Nat} (h : ∀ j, j < n → 0 ≤ f j ∧ f j < 256) {j : Nat} (hj : j < n) : nf f j < 256 := by
  have := h j hj
  unfold nf
  omega
/-- the header of a COUNT -/
def hdB (ct : Nat) : Nat → Nat := fun j => if j = 0 then 128 + ct / 256 % 16 else ct % 256
theorem hdB_lt (ct j : Nat) : hdB ct j < 256 := by unfold hdB; split <;> omega
/-- byte j of a number of 32 bits -/
def byte4 (v j : Nat) : Nat := v / 2 ^ (24 - 8 * j) % 256
theorem byte4_lt (v j : Nat) : byte4 v j < 256 := Nat.mod_lt _ (by decide)
/-- what is enciphered: the packet and the code -/
def plainN (cf : Cfg) (n : Nat) : Nat := if cf.ig = true then n + 4 else n
def plainZ (cf : Cfg) (ct n : Nat) (z : Nat → Nat) : Nat → Nat := catF z n (byte4 (codeF (nf cf.code) ct cf.b.toNat cf.d.toNat (catF (hdB ct) 2 z) (2 + n)))
theorem plainZ_lt {cf : Cfg} {ct n : Nat} {z : Nat → Nat} (hz : ∀ j, j < n → z j < 256) (j : Nat) : plainZ cf ct n z j < 256 := by
  unfold plainZ catF
  split
  · exact hz _ (by assumption)
  · exact byte4_lt _ _
/-- the PDU -/
def pduN (cf : Cfg) (n : Nat) : Nat := 2 + plainN cf n
def pduZ (cf : Cfg) (ct n : Nat) (z : Nat → Nat) : Nat → Nat := catF (hdB ct) 2 (cryF (nf cf.key) ct cf.b.toNat cf.d.toNat (plainZ cf ct n z))
theorem pduZ_lt {cf : Cfg} (hk : B16 (nf cf.key)) {ct n : Nat} {z : Nat → Nat} (hz : ∀ j, j < n → z j < 256) (j : Nat) : pduZ cf ct n z j < 256 := by
  unfold pduZ catF
  split
  · exact hdB_lt _ _
  · exact cryF_lt hk _ _ _ (plainZ_lt hz _)
/-- the state behind a call -/
def TS.gone (s : TS) (n : Int) (q : QV) : Bool := decide (0 < s.C.ds) && decide (s.C.ds ≤ n - q.at_)
def TS.tick (s : TS) (t : Int) : TS := { s with now := max s.now t, Q := s.Q.filter (fun q => !s.gone (max s.now t) q) }
/-- what holds of a state besides -/
structure TS.Fine (s : TS) : Prop where
  ok : s.C.Ok
  val : s.C.Valid
  at_ : ∀ q, q ∈ s.Q → 0 ≤ q.at_ ∧ q.at_ ≤ s.now
theorem TS.Fine.tick {s : TS} (h : s.Fine) (t : Int) : (s.tick t).Fine :=
  ⟨h.ok, h.val, fun q hq => by
    have := h.at_ q (List.mem_filter.1 hq).1
    show 0 ≤ q.at_ ∧ q.at_ ≤ max s.now t
    omega⟩
theorem TS.tick_len (s : TS) (t : Int) : (s.tick t).Q.length ≤ s.Q.length := List.length_filter_le _ _
theorem TS.tick_zero {s : TS} (h : s.C.ds = 0) (t : Int) : s.tick t = { s with now := max s.now t } := by
  unfold TS.tick TS.gone
  rw [h]
  simp
def TS.submit (s : TS) (t : Int) (n : Nat) (z : Nat → Int) : Int × TS :=
  if 1073741824 ≤ t then (2, s) else if n = 0 then (5, s.tick t) else if 9000 < n then (4, s.tick t) else (0, { s.tick t with Q := (s.tick t).Q ++ [⟨n, z, max s.now t⟩] })
theorem TS.Fine.submit {s : TS} (h : s.Fine) (hn : 0 ≤ s.now) (t : Int) (n : Nat) (z : Nat → Int) : (s.submit t n z).2.Fine := by
  unfold TS.submit
  have ht := h.tick t
  split
  · exact h
  · split
    · exact ht
    · split
      · exact ht
      · refine ⟨h.ok, h.val, fun q hq => ?_⟩
        rcases List.mem_append.1 hq with hq | hq
        · exact ht.at_ q hq
        · rw [List.mem_singleton.1 hq]
          show 0 ≤ max s.now t ∧ max s.now t ≤ max s.now t
          omega
/-- the first packet that is to be repeated -/
def firstRep : List PV → Option (Nat × PV)
  | [] => none
  | p :: r => if p.rep = true then some (0, p) else (firstRep r).map fun x => (x.1 + 1, x.2)
theorem firstRep_some : ∀ {l : List PV} {i : Nat} {p : PV}, firstRep l = some (i, p) → l[i]? = some p ∧ p.rep = true ∧ ∀ j, j < i → ∀ e, l[j]? = some e → e.rep = false
  | [], i, p, h => by cases h
  | q :: r, i, p, h => by
    unfold firstRep at h
    split at h
    · cases h
      exact ⟨rfl, by assumption, fun j hj => absurd hj (by omega)⟩
    · cases hr : firstRep r with
      | none => rw [hr] at h; cases h
      | some x =>
        obtain ⟨x1, x2⟩ := x
        rw [hr] at h
        simp only [Option.map_some, Option.some.injEq, Prod.mk.injEq] at h
        obtain ⟨rfl, rfl⟩ := h
        obtain ⟨h1, h2, h3⟩ := firstRep_some hr
        refine ⟨by simpa using h1, h2, fun j hj e he => ?_⟩
        cases j with
        | zero =>
          have : q = e := by simpa using he
          subst this
          simpa using ‹¬ q.rep = true›
        | succ j => exact h3 j (by omega) e (by simpa using he)
theorem firstRep_none : ∀ {l : List PV}, firstRep l = none → ∀ e, e ∈ l → e.rep = false
  | [], _, e, he => by cases he
  | q :: r, h, e, he => by
    unfold firstRep at h
    split at h
    · cases h
    · have hr : firstRep r = none := by
        cases hx : firstRep r with
        | none => rfl
        | some x => rw [hx] at h; cases h
      rcases List.mem_cons.1 he with rfl | he
      · simpa using ‹¬ e.rep = true›
      · exact firstRep_none hr e he
def TS.full (s : TS) : Bool := match s.P with | [] => false | p :: _ => decide (2048 ≤ (s.next - p.ct) % 18446744073709551616)
/-- what Next answers -/
structure NX where
  n : Nat
  z : Nat → Nat
  ct : Int
  e : Int
  s : TS
def TS.send (s : TS) (t : Int) : NX :=
  if 1073741824 ≤ t then ⟨0, zB, 0, 2, s⟩ else
  match firstRep s.P with
  | some (i, p) => ⟨pduN s.C p.n, pduZ s.C p.ct.toNat p.n (nf p.z), p.ct, 0, { s.tick t with P := s.P.set i { p with rep := false } }⟩
  | none =>
    match (s.tick t).Q with
    | [] => ⟨0, zB, 0, 10, s.tick t⟩
    | q :: r =>
      if s.next = 4294967296 then ⟨0, zB, 0, 460, s.tick t⟩ else
      if s.full = true then ⟨0, zB, 0, 7, s.tick t⟩ else
      ⟨pduN s.C q.n, pduZ s.C s.next.toNat q.n (nf q.z), s.next, 0, { s.tick t with Q := r, next := s.next + 1, P := if s.C.ac = true then s.P ++ [⟨s.next, q.n, q.z, false⟩] else s.P }⟩
theorem TS.Fine.send {s : TS} (h : s.Fine) (t : Int) : (s.send t).s.Fine := by
  unfold TS.send
  have ht := h.tick t
  split
  · exact h
  · split
    · exact ⟨ht.ok, ht.val, ht.at_⟩
    · split
      · exact ht
      · split
        · exact ht
        · split
          · exact ht
          · rename_i hq _ _
            exact ⟨ht.ok, ht.val, fun q hq' => ht.at_ q (by rw [hq]; exact List.mem_cons_of_mem _ hq')⟩
section
variable {P : Program}
theorem run_clear_many (w : World) (t e ty : TypeId) (z : Value) (ht : P.underlying t = some (.slice e)) (hv : ∀ w, (zeroValue e).run P w = .ok z w) (h1 : ∀ v, v ∈ z.cells → v.oneCell' = true) (b o m c : Nat)
    (hc : ∀ j, j < m * z.cells.size → (w.cell? ⟨b, o + j, none⟩).isSome = true) (hf : ∀ j, j < m * z.cells.size → w.frozen? ⟨b, o + j, none⟩ = false) :
    (Builtin.clear_ #[t] ty #[.slice (some ⟨b, o, none⟩) m c]).run P w = .ok (.tuple #[]) (w.setCells b o (Builtin.zeroCells z.cells m).toList) := by
  have hlen : (Builtin.zeroCells z.cells m).toList.length = m * z.cells.size := by simp [Builtin.zeroCells]
  have hst := run_storeCells_cells (P := P) b o (Builtin.zeroCells z.cells m).toList 0 w (by rw [hlen]; simpa using hc) (by rw [hlen]; simpa using hf) (fun v hv => by
    simp only [Builtin.zeroCells, Array.toList_map, List.mem_map, Array.mem_toList_iff, Array.mem_range] at hv
    obtain ⟨i, hi, rfl⟩ := hv
    have hpos : 0 < z.cells.size := by
      rcases Nat.eq_zero_or_pos z.cells.size with h0 | h0
      · rw [h0] at hi; simp at hi
      · exact h0
    have hlt : i % z.cells.size < z.cells.size := Nat.mod_lt _ hpos
    rw [getElem!_pos z.cells (i % z.cells.size) hlt]
    exact h1 _ (Array.getElem_mem hlt))
  simp only [Nat.add_zero] at hst
  cases m with
  | zero => simp [Builtin.clear_, run_underlying ht, Builtin.zeroCells, World.setCells]
  | succ m => simp [Builtin.clear_, run_underlying ht, hv, hst]
end
/-- an element stored -/
theorem flat_set {α : Type} (f : α → List Value) (sz : Nat) (hf : ∀ x, (f x).length = sz) (l : List α) (k : Nat) (hk : k < l.length) (x : α) (j : Nat) :
    ((l.set k x).flatMap f)[j]? = if k * sz ≤ j ∧ j < k * sz + sz then (f x)[j - k * sz]? else (l.flatMap f)[j]? := by
  rcases Nat.eq_zero_or_pos sz with h0 | hp
  · subst h0
    have hnil : ∀ l : List α, l.flatMap f = [] := fun l => List.eq_nil_of_length_eq_zero (by rw [flat_len f 0 hf]; simp)
    rw [hnil, hnil]
    rw [if_neg (by omega)]
  · have hj := Nat.div_add_mod j sz
    have hm := Nat.mod_lt j hp
    have hje : j = j / sz * sz + j % sz := by rw [Nat.mul_comm]; omega
    by_cases hjl : j / sz < l.length
    · have e1 := flat_at f sz hf (l.set k x) (j / sz) (j % sz)
      have e2 := flat_at f sz hf l (j / sz) (j % sz)
      rw [← hje] at e1 e2
      by_cases hkj : j / sz = k
      · rw [e1 x (by rw [hkj, List.getElem?_set_self hk]) hm, if_pos ⟨by rw [← hkj]; omega, by rw [← hkj]; omega⟩, show j - k * sz = j % sz by rw [← hkj]; omega]
      · have hne : ¬ (k * sz ≤ j ∧ j < k * sz + sz) := fun ⟨h1, h2⟩ => hkj (by
          exact Nat.div_eq_of_lt_le (m := j) (n := sz) (k := k) h1 (by rw [Nat.add_mul]; omega))
        rw [if_neg hne, e1 (l[j / sz]) (by rw [List.getElem?_set_ne (fun e => hkj e.symm), List.getElem?_eq_getElem hjl]) hm, e2 (l[j / sz]) (List.getElem?_eq_getElem hjl) hm]
    · have hge : l.length * sz ≤ j := by
        have := Nat.mul_le_mul_right sz (show l.length ≤ j / sz by omega)
        omega
      have hk2 : (k + 1) * sz ≤ l.length * sz := Nat.mul_le_mul_right _ hk
      rw [Nat.add_mul] at hk2
      rw [if_neg (by omega), List.getElem?_eq_none (by rw [flat_len f sz hf, List.length_set]; exact hge), List.getElem?_eq_none (by rw [flat_len f sz hf]; exact hge)]
theorem SL.setAt {α : Type} {f : α → List Value} {w : World} {e : TypeId} {sz : Nat} (hf : ∀ x, (f x).length = sz) {b o n c : Nat} {l : List α} (h : SL w e sz (some ⟨b, o, none⟩) n c (l.flatMap f)) (k : Nat) (hk : k < n) (x : α) :
    SL (w.setCells b (o + k * sz) (f x)) e sz (some ⟨b, o, none⟩) n c ((l.set k x).flatMap f) := by
  have hln : l.length * sz = n * sz := by rw [← h.len, flat_len f sz hf]
  rcases h.at_ with ⟨h1, h2, h3⟩ | ⟨b', o', cur, h1, h2, h3, h4, h5, h6⟩
  · cases h1
  cases h1
  have hks : (k + 1) * sz ≤ n * sz := Nat.mul_le_mul_right _ hk
  have hcs : n * sz ≤ c * sz := Nat.mul_le_mul_right _ h3
  rw [Nat.add_mul] at hks
  refine ⟨by rw [flat_len f sz hf, List.length_set, hln], .inr ⟨b, o, _, rfl, ts_setCells (f x) _ w cur h2, h3, h4, by rw [tsAll_size]; exact h5, fun j hj => ?_⟩⟩
  rcases Nat.eq_zero_or_pos sz with h0 | hp
  · subst h0; simp at hj
  have hkl : k < l.length := by
    rcases Nat.lt_or_ge k l.length with h | h
    · exact h
    · have := Nat.mul_le_mul_right sz h; omega
  rw [flat_set f sz hf l k hkl]
  by_cases hin : k * sz ≤ j ∧ j < k * sz + sz
  · rw [if_pos hin]
    have := tsAll_in (f x) (o + k * sz) cur (j - k * sz) (by rw [hf]; omega) (by omega)
    rwa [show o + k * sz + (j - k * sz) = o + j by omega] at this
  · rw [if_neg hin, tsAll_out _ _ _ _ (by rw [hf]; omega), h6 j hj]
end Go.Proofs.YtiffminhlimajaaGreat
