/- One new transmitter among a law's calls; PdcptxWindow: the walk. -/
import Derived.Test.YtiffminhlimajaaGreatZL
namespace Go.Proofs.YtiffminhlimajaaGreat
open Go.RowKit
set_option linter.unusedVariables false
attribute [local go_sem ↓] Go.wp_at_zero Go.wp_at_succ

/-- a transmitter of blocks that w0 had not -/
def Solo (w0 w : World) (g : Nat) (s : TS) : Prop := ∃ W R, TxI w g s W R ∧ (∀ k, W k → w0.heap.size ≤ k) ∧ Below w0.heap.size w0 w
section
variable {w0 w w' : World} {g : Nat} {s : TS}
theorem Solo.of_new {w1 : World} (hb : Below w0.heap.size w0 w1) (h : TxNewO w1 w g s) : Solo w0 w g s := by
  obtain ⟨W, R, h1, h2, h3, h4⟩ := h
  exact ⟨W, R, h1, fun k hk => Nat.le_trans hb.size (h2 k hk), hb.trans (h4.mono hb.size)⟩
theorem Solo.low (h : Solo w0 w g s) : Below w0.heap.size w0 w := by
  obtain ⟨W, R, h1, h2, h3⟩ := h
  exact h3
theorem Solo.below (h : Solo w0 w g s) (hb : Below w.heap.size w w') : Solo w0 w' g s := by
  obtain ⟨W, R, h1, h2, h3⟩ := h
  exact ⟨W, R, h1.below hb, h2, h3.trans (hb.mono h3.size)⟩
theorem Solo.call (h : Solo w0 w g s) : ∃ W R, TxI w g s W R ∧ (∀ k, W k → w0.heap.size ≤ k) ∧ ∀ w' s', TxO W R w w' g s' → Solo w0 w' g s' := by
  obtain ⟨W, R, h1, h2, h3⟩ := h
  refine ⟨W, R, h1, h2, fun w' s' hO => ?_⟩
  obtain ⟨W', R', hI, hW, hR, hK⟩ := hO
  have hs := h3.size
  exact ⟨W', R', hI, fun k hk => by
    rcases hW k hk with h | h
    · exact h2 k h
    · omega, KeepF.below h3 hK (fun k hk => h2 k hk) hs⟩
/-- Next of such a transmitter -/
theorem solo_next (h : Solo w0 w g s) (hf : s.Fine) (hig : s.C.ig = false) (hcm : s.C.cm = false) (hpl : s.P.length ≤ 1000000) (t : Int) (ht1 : -9223372036854775808 ≤ t) (ht2 : t ≤ 9223372036854775807) :
    Calls Tryz.prog 18 #[.pointer (some ⟨g, 0, none⟩), .int .i64 t] w fun e w' => ∃ A c, e = .returned (.tuple #[.slice A (s.send t).n c, .int .u32 (s.send t).ct, .int .i64 (s.send t).e]) ∧ (s.send t).n ≤ c ∧ Row w' w'.heap.size A (s.send t).n (fun j => .int .u8 (((s.send t).z j : Nat) : Int)) ∧ Solo w0 w' g (s.send t).s := by
  obtain ⟨W, R, hI, hW, hc⟩ := h.call
  refine (tNext_ok g s W R w hI hf t ht1 ht2 (builds_plain g s.C hf.ok hf.val hig hcm) hpl).mono ?_
  rintro e w' ⟨A, c, W', R', h1, h2, h3, h4, h5, h6, h7, h8⟩
  exact ⟨A, c, h1, h2, h3, hc w' _ ⟨W', R', h4, h5, h6, h7⟩⟩
theorem solo_confirm (h : Solo w0 w g s) (x : Int) (i : Nat) (e0 : PV) (he : s.P[i]? = some e0) (hx : e0.ct = x) (hno : ∀ j, j < i → ∀ e, s.P[j]? = some e → e.ct ≠ x) :
    Calls Tryz.prog 20 #[.pointer (some ⟨g, 0, none⟩), .int .u32 x] w fun e w' => e = .returned (.int .i64 0) ∧ Solo w0 w' g { s with P := s.P.eraseIdx i } := by
  obtain ⟨W, R, hI, hW, hc⟩ := h.call
  exact (tconfirm_ok g s W R w hI x i e0 he hx hno).mono fun e w' ⟨h1, h2⟩ => ⟨h1, hc w' _ h2⟩
theorem solo_confirm_no (h : Solo w0 w g s) (x : Int) (hno : ∀ e, e ∈ s.P → e.ct ≠ x) :
    Calls Tryz.prog 20 #[.pointer (some ⟨g, 0, none⟩), .int .u32 x] w fun e w' => e = .returned (.int .i64 10) ∧ Solo w0 w' g s := by
  obtain ⟨W, R, hI, hW, hc⟩ := h.call
  exact (tconfirm_no g s W R w hI x hno).mono fun e w' ⟨h1, h2⟩ => ⟨h1, h.below h2⟩
end
def cf1 : Cfg := { Cfg.zero with ac := true }
theorem cf1_lit : cf1.arr = #[.int .i64 0, .int .i64 0, .int .u8 0, .int .u8 0, .int .u8 0, .int .u8 0, .int .u8 0, .int .u8 0, .int .u8 0, .int .u8 0, .int .u8 0, .int .u8 0, .int .u8 0, .int .u8 0, .int .u8 0, .int .u8 0, .int .u8 0, .int .u8 0, .int .u8 0, .int .u8 0, .int .u8 0, .int .u8 0, .int .u8 0, .int .u8 0, .int .u8 0, .int .u8 0, .int .u8 0, .int .u8 0, .int .u8 0, .int .u8 0, .int .u8 0, .int .u8 0, .int .u8 0, .int .u8 0, .bool false, .bool false, .bool true, .int .i64 0, .int .i64 0] := by kernel_rfl
theorem cf1_ok : cf1.Ok := ⟨fun _ _ => ⟨Int.le_refl 0, by show (0 : Int) < 256; decide⟩, fun _ _ => ⟨Int.le_refl 0, by show (0 : Int) < 256; decide⟩⟩
theorem cf1_valid : cf1.Valid := by unfold cf1 Cfg.zero Cfg.Valid; decide
/-- the states of PdcptxWindow -/
def wS0 (nx fi : Int) (z y0 y1 : Nat → Int) : TS := ⟨cf1, 0, nx, [⟨1, y0, 0⟩, ⟨1, y1, 0⟩], [⟨fi, 1, z, true⟩], [kArr cf1.key], cNew⟩
def wS1 (nx fi : Int) (z y0 y1 : Nat → Int) : TS := { wS0 nx fi z y0 y1 with P := [⟨fi, 1, z, false⟩] }
def wS2 (nx fi : Int) (z y0 y1 : Nat → Int) : TS := { wS0 nx fi z y0 y1 with Q := [⟨1, y1, 0⟩], next := nx + 1, P := [⟨fi, 1, z, false⟩, ⟨nx, 1, y0, false⟩] }
theorem fine_of {s : TS} (h : s.C = cf1) (hq : ∀ q, q ∈ s.Q → q.at_ = 0) (hn : 0 ≤ s.now) : s.Fine := ⟨by rw [h]; exact cf1_ok, by rw [h]; exact cf1_valid, fun q h2 => by rw [hq q h2]; exact ⟨Int.le_refl _, hn⟩⟩
theorem tick0 {s : TS} (h : s.C.ds = 0) (hn : s.now = 0) : s.tick 0 = s := by
  rw [TS.tick_zero h, hn]
  have : max (0 : Int) 0 = s.now := by rw [hn]; rfl
  rw [this]
section
variable {nx fi : Int} {z y0 y1 : Nat → Int}
theorem w_send0 : (wS0 nx fi z y0 y1).send 0 = ⟨pduN cf1 1, pduZ cf1 fi.toNat 1 (nf z), fi, 0, wS1 nx fi z y0 y1⟩ := by
  unfold TS.send
  rw [if_neg (by decide), tick0 rfl rfl]
  rfl
theorem w_send1_full (h1 : nx ≠ 4294967296) (h : 2048 ≤ (nx - fi) % 18446744073709551616) : (wS1 nx fi z y0 y1).send 0 = ⟨0, zB, 0, 7, wS1 nx fi z y0 y1⟩ := by
  unfold TS.send
  rw [if_neg (by decide), tick0 rfl rfl]
  show (if nx = 4294967296 then _ else if decide (2048 ≤ (nx - fi) % 18446744073709551616) = true then _ else _) = _
  rw [if_neg h1, if_pos (decide_eq_true h)]
theorem w_send1 (h1 : nx ≠ 4294967296) (h : ¬ 2048 ≤ (nx - fi) % 18446744073709551616) : (wS1 nx fi z y0 y1).send 0 = ⟨pduN cf1 1, pduZ cf1 nx.toNat 1 (nf y0), nx, 0, wS2 nx fi z y0 y1⟩ := by
  unfold TS.send
  rw [if_neg (by decide), tick0 rfl rfl]
  show (if nx = 4294967296 then _ else if decide (2048 ≤ (nx - fi) % 18446744073709551616) = true then _ else _) = _
  rw [if_neg h1, if_neg (by rw [decide_eq_false h]; decide)]
  rfl
theorem w_send2_full (h1 : nx ≠ 4294967296) : (({ wS1 nx fi z y0 y1 with P := [] } : TS).send 0).e = 0 := by
  unfold TS.send
  rw [if_neg (by decide), tick0 rfl rfl]
  show (if nx = 4294967296 then _ else _ : NX).e = 0
  rw [if_neg h1]
  rfl
theorem w_send2 (h1 : nx + 1 ≠ 4294967296) : (({ wS2 nx fi z y0 y1 with P := [⟨nx, 1, y0, false⟩] } : TS).send 0).e = 0 := by
  unfold TS.send
  rw [if_neg (by decide), tick0 rfl rfl]
  show (if nx + 1 = 4294967296 then _ else if decide (2048 ≤ (nx + 1 - nx) % 18446744073709551616) = true then _ else _ : NX).e = 0
  rw [if_neg h1, show nx + 1 - nx = 1 by omega]
  rfl
end
end Go.Proofs.YtiffminhlimajaaGreat
