/- law 47, HandoverApplies: what Export answers against a given state. -/
import Derived.Test.YtiffminhlimajaaTL
namespace Go.Proofs.Ytiffminhlimajaa
open Go.RowKit
set_option linter.unusedVariables false

theorem ce2_sl {w : World} {A : Option Addr} {n c : Nat} {l : List PE} (h : SL w 50 2 A n c (l.flatMap PE.cc)) {k : Nat} {e : PE} (he : l[k]? = some e) (hk : k < n) (hr : Row w w.heap.size e.A e.v.n (fun j => .int .u8 (e.v.z j))) : CE2 w A k e.v.ct e.v.n e.v.z := by
  obtain ⟨b, o, hA, hb⟩ := h.some_ (by omega)
  have c0 := h.cell hA (j := k * 2 + 0) (by omega)
  have c1 := h.cell hA (j := k * 2 + 1) (by omega)
  rw [flat_at PE.cc 2 PE.cclen l k _ e he (by omega)] at c0 c1
  exact ⟨b, o, e.A, e.c, hA, hb, c0, c1, hr⟩
theorem be2_sl {w : World} {A : Option Addr} {n c : Nat} {l : List WE} (h : SL w 27 1 A n c (l.flatMap WE.cc)) {k : Nat} {e : WE} (he : l[k]? = some e) (hk : k < n) (hr : Row w w.heap.size e.A e.v.n (fun j => .int .u8 (e.v.z j))) : BE2 w A k e.v.n e.v.z := by
  obtain ⟨b, o, hA, hb⟩ := h.some_ (by omega)
  have c0 := h.cell hA (j := k * 1 + 0) (by omega)
  rw [flat_at WE.cc 1 WE.cclen l k _ e he (by omega)] at c0
  rw [Nat.mul_one] at c0
  exact ⟨b, o, e.A, e.c, hA, hb, c0, hr⟩
theorem export_cmp (g : Nat) (s : TS) (W R : Nat → Prop) (V : World) (h : TxI V g s W R) (hn : s.P.length ≤ 1000000 ∧ s.Q.length ≤ 1000000) (nx : Int) (us : Bool) (h1 : s.next % 4294967296 = nx) (h2 : decide (s.next = 4294967296) = us) (A A2 : Option Addr) (m mq : Nat) (hm : s.P.length = m) (hmq : s.Q.length = mq)
    (hP : ∀ k e, s.P[k]? = some e → CE2 V A k e.ct e.n e.z) (hQ : ∀ k e, s.Q[k]? = some e → BE2 V A2 k e.n e.z) :
    Calls Try.prog 10 #[.pointer (some ⟨g, 0, none⟩)] V fun e w' => ∃ pA pc qA qc, e = .returned (.agg #[.int .u32 nx, .bool us, .slice pA m pc, .slice qA mq qc]) ∧ SameC w' pA A m ∧ SameB w' qA A2 mq ∧ Below V.heap.size V w' := by
  refine (texport_ok g s W R V h hn).mono ?_
  rintro e w' ⟨pA, pc, lp, qA, qc, lq, rfl, hF, hb⟩
  have el : lp.length = m := by rw [← hm, ← hF.pv, List.length_map]
  have eq : lq.length = mq := by rw [← hmq, ← hF.qv, List.length_map]
  refine ⟨pA, pc, qA, qc, by rw [h1, h2, el, eq], fun k hk => ?_, fun k hk => ?_, hb⟩
  · obtain ⟨e, he⟩ : ∃ e, lp[k]? = some e := ⟨lp[k]'(by omega), List.getElem?_eq_getElem (by omega)⟩
    have hp : s.P[k]? = some e.v := by rw [← hF.pv, List.getElem?_map, he]; rfl
    exact ⟨_, _, _, _, ce2_sl hF.p he (by omega) (hF.pe e (List.mem_of_getElem? he)).row, (hP k _ hp).below hb, fun _ _ => rfl⟩
  · obtain ⟨e, he⟩ : ∃ e, lq[k]? = some e := ⟨lq[k]'(by omega), List.getElem?_eq_getElem (by omega)⟩
    have hp : s.Q[k]? = some e.v := by rw [← hF.qv, List.getElem?_map, he]; rfl
    exact ⟨_, _, _, be2_sl hF.q he (by omega) (hF.qe e (List.mem_of_getElem? he)).row, (hQ k _ hp).below hb, fun _ _ => rfl⟩
/-- the elements of the state given -/
def gPE (ct : Nat → Int) (PA : Nat → Option Addr) (pn pc : Nat → Nat) (z : Nat → Nat → Int) (k : Nat) : PE := ⟨⟨ct k, pn k, z k, true⟩, PA k, pc k⟩
theorem resP_at (m : Nat) (ct : Nat → Int) (pn : Nat → Nat) (z : Nat → Nat → Int) (k : Nat) (e : PV) (h : (resP m ct pn z)[k]? = some e) : k < m ∧ e = ⟨ct k, pn k, z k, true⟩ := by
  have hk : k < m := by have := (List.getElem?_eq_some_iff.1 h).1; rwa [resP_len] at this
  refine ⟨hk, ?_⟩
  unfold resP at h
  rw [List.getElem?_map, List.getElem?_range hk] at h
  exact (Option.some.inj h).symm
theorem resQ_at (m : Nat) (pn : Nat → Nat) (z : Nat → Nat → Int) (k : Nat) (e : QV) (h : (resQ m pn z)[k]? = some e) : k < m ∧ e = ⟨pn k, z k, 0⟩ := by
  have hk : k < m := by have := (List.getElem?_eq_some_iff.1 h).1; rwa [resQ_len] at this
  refine ⟨hk, ?_⟩
  unfold resQ at h
  rw [List.getElem?_map, List.getElem?_range hk] at h
  exact (Option.some.inj h).symm
theorem fok_incr {ac : Bool} {nx : Int} {us : Bool} {m : Nat} {ct : Nat → Int} {pn : Nat → Nat} {mq : Nat} {qn : Nat → Nat} (h : FOk ac nx us m ct pn mq qn) (z : Nat → Nat → Int) : Incr (resP m ct pn z) := by
  have hs : ∀ d i, i + d + 1 < m → ct i < ct (i + d + 1) := by
    intro d
    induction d with
    | zero => intro i hi; have := (h.elem (i + 1) (by omega)).2.2 (by omega); simpa using this
    | succ d ih =>
      intro i hi
      have h1 := ih i (by omega)
      have h2 := (h.elem (i + d + 2) (by omega)).2.2 (by omega)
      have e1 : i + d + 2 - 1 = i + d + 1 := by omega
      rw [e1] at h2
      have e2 : i + (d + 1) + 1 = i + d + 2 := by omega
      rw [e2]
      omega
  intro i j a b hij ha hb
  obtain ⟨h1, rfl⟩ := resP_at m ct pn z i a ha
  obtain ⟨h2, rfl⟩ := resP_at m ct pn z j b hb
  have := hs (j - i - 1) i (by omega)
  rwa [show i + (j - i - 1) + 1 = j by omega] at this
theorem next_mod {ac : Bool} {nx : Int} {us : Bool} {m : Nat} {ct : Nat → Int} {pn : Nat → Nat} {mq : Nat} {qn : Nat → Nat} (h : FOk ac nx us m ct pn mq qn) (hnx : 0 ≤ nx ∧ nx < 4294967296) : nextOf nx us % 4294967296 = nx ∧ decide (nextOf nx us = 4294967296) = us := by
  unfold nextOf
  cases us with
  | true => have := h.used rfl; subst this; exact ⟨by decide, by decide⟩
  | false =>
    refine ⟨?_, ?_⟩
    · show nx % 4294967296 = nx; omega
    · show decide (nx = 4294967296) = false
      rw [decide_eq_false_iff_not]; omega
theorem cnts_ce2 {w : World} {A : Option Addr} {m : Nat} {ct : Nat → Int} {PA : Nat → Option Addr} {pn pc : Nat → Nat} {z : Nat → Nat → Int} (h : Cnts w A m ct PA pn pc z) {k : Nat} (hk : k < m) : CE2 w A k (ct k) (pn k) (z k) := by
  obtain ⟨lb, lo, rfl, hlt, hc⟩ := h.at_ (by omega)
  exact ⟨lb, lo, PA k, pc k, rfl, hlt, (hc k hk).1, (hc k hk).2, h.row k hk⟩
theorem brows_be2 {w : World} {A : Option Addr} {m : Nat} {PA : Nat → Option Addr} {pn pc : Nat → Nat} {z : Nat → Nat → Int} (h : BRows w A m PA pn pc z) {k : Nat} (hk : k < m) : BE2 w A k (pn k) (z k) := by
  obtain ⟨lb, lo, rfl, hlt, hc⟩ := h.at_ (by omega)
  exact ⟨lb, lo, PA k, pc k, rfl, hlt, hc k hk, h.row k hk⟩
/-- the configuration that the law gives -/
def cfA : Cfg := { Cfg.zero with ac := true }
theorem cfA_valid : cfA.Valid := by unfold cfA Cfg.zero Cfg.Valid; decide
theorem cfA_lit : cfA.arr = #[.int .i64 0, .int .i64 0, .int .u8 0, .int .u8 0, .int .u8 0, .int .u8 0, .int .u8 0, .int .u8 0, .int .u8 0, .int .u8 0, .int .u8 0, .int .u8 0, .int .u8 0, .int .u8 0, .int .u8 0, .int .u8 0, .int .u8 0, .int .u8 0, .int .u8 0, .int .u8 0, .int .u8 0, .int .u8 0, .int .u8 0, .int .u8 0, .int .u8 0, .int .u8 0, .int .u8 0, .int .u8 0, .int .u8 0, .int .u8 0, .int .u8 0, .int .u8 0, .int .u8 0, .int .u8 0, .bool false, .bool false, .bool true, .int .i64 0, .int .i64 0] := by kernel_rfl
end Go.Proofs.Ytiffminhlimajaa
