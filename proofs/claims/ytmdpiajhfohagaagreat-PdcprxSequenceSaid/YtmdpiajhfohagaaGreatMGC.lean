/- lists of packets with COUNTs in memory. pdcptx: the transmitter in memory. pdcptx: the small functions. pdcptx: which states are valid. pdcptx: what a store does to the transmitter in memory. -/
import Derived.Test.YtmdpiajhfohagaaGreatNA
import Derived.Test.YtmdpiajhfohagaaGreatApp
import Derived.Test.YtmdpiajhfohagaaGreatStr
import Derived.Test.YtmdpiajhfohagaaGreatHN
import Derived.Test.YtmdpiajhfohagaaGreatTA
import Derived.BigGuardPart
import Derived.BigQuiet
import Derived.Deep.DeepFit
import Derived.Deep.OwnRows
import Derived.Deep.QuietTactic
import Derived.Handy
import Derived.KernelRfl
import Derived.ScopeJumps
import Derived.WalkLawsBesides
import Derived.WalkMore
import Derived.WalkSpells
import Derived.RegionTactic
import Derived.ChangeAlike
import Derived.RangeFuncNested
import Derived.RangeFuncBound
import Derived.RangeFuncCalls
import Derived.RangeFuncLeaves
import Derived.Shelf.Abstract
import Derived.Shelf.RegionOpen
import Derived.WalkKit
import Derived.OwnWalkIn
import Derived.TacticsInMore
import Derived.LoopNIn
import Derived.LoopIn
import Derived.RangeFuncBox
import Derived.Deep.RegionHeld3
import Derived.Laws.BitsAllLaws
import Derived.Maps.OwnSet
namespace Go.Proofs.YtmdpiajhfohagaaGreat
open Go.RowKit

/-- a slice of m packets with their COUNTs -/
structure Cnts (w : World) (A : Option Addr) (m : Nat) (ct : Nat → Int) (PA : Nat → Option Addr) (pn pc : Nat → Nat) (z : Nat → Nat → Int) : Prop where
  at_ : m ≠ 0 → ∃ lb lo, A = some ⟨lb, lo, none⟩ ∧ lb < w.heap.size ∧ ∀ k, k < m → w.cell? ⟨lb, lo + k * 2, none⟩ = some (.int .u32 (ct k)) ∧ w.cell? ⟨lb, lo + k * 2 + 1, none⟩ = some (.slice (PA k) (pn k) (pc k))
  rng : ∀ k, k < m → 0 ≤ ct k ∧ ct k < 4294967296
  len : ∀ k, k < m → pn k ≤ 9223372036854775807
  cap : ∀ k, k < m → pn k ≤ pc k
  byte : ∀ k, k < m → ∀ j, j < pn k → 0 ≤ z k j ∧ z k j < 256
  row : ∀ k, k < m → Row w w.heap.size (PA k) (pn k) (fun j => .int .u8 (z k j))
theorem Cnts.below {w w' : World} {A : Option Addr} {m : Nat} {ct : Nat → Int} {PA : Nat → Option Addr} {pn pc : Nat → Nat} {z : Nat → Nat → Int} (h : Cnts w A m ct PA pn pc z) (hb : Below w.heap.size w w') : Cnts w' A m ct PA pn pc z :=
  ⟨fun hm => by
    obtain ⟨lb, lo, e, hlt, hc⟩ := h.at_ hm
    exact ⟨lb, lo, e, Nat.lt_of_lt_of_le hlt hb.size, fun k hk => ⟨(hb.cell (p := ⟨lb, lo + k * 2, none⟩) hlt).trans (hc k hk).1, (hb.cell (p := ⟨lb, lo + k * 2 + 1, none⟩) hlt).trans (hc k hk).2⟩⟩, h.rng, h.len, h.cap, h.byte, fun k hk => (h.row k hk).next hb⟩

theorem blk_atZ (W : World) (t : TypeId) (cs : Array Value) (N : Nat) (hN : W.heap.size = N) : Blk (W.alloc (.cells cs t)) N t cs := by
  subst hN; exact Blk.new W t cs
end Go.Proofs.YtmdpiajhfohagaaGreat
namespace Go.Proofs.YtmdpiajhfohagaaGreat
open Go.RowKit
set_option linter.unusedVariables false

/-- a configuration -/
structure Cfg where
  b : Int
  d : Int
  key : Nat → Int
  code : Nat → Int
  ig : Bool
  cm : Bool
  ac : Bool
  ds : Int
  ro : Int
def Cfg.cell (c : Cfg) (j : Nat) : Value :=
  if j = 0 then .int .i64 c.b else if j = 1 then .int .i64 c.d else if j < 18 then .int .u8 (c.key (j - 2)) else if j < 34 then .int .u8 (c.code (j - 18)) else if j = 34 then .bool c.ig else if j = 35 then .bool c.cm else if j = 36 then .bool c.ac else if j = 37 then .int .i64 c.ds else .int .i64 c.ro
def Cfg.arr (c : Cfg) : Array Value := Array.ofFn (n := 39) fun j => c.cell j.1
theorem Cfg.arr_size (c : Cfg) : c.arr.size = 39 := by simp [Cfg.arr]
theorem Cfg.arr_at (c : Cfg) {j : Nat} (hj : j < 39) : c.arr[j]? = some (c.cell j) := by unfold Cfg.arr; simp [hj]
theorem Cfg.cell_one (c : Cfg) (j : Nat) : (c.cell j).oneCell' = true := by
  unfold Cfg.cell
  repeat (split <;> try rfl)
theorem Cfg.arr_one (c : Cfg) : c.arr.all (·.oneCell') = true := by
  rw [Array.all_eq_true]
  intro i hi
  simp only [Cfg.arr, Array.getElem_ofFn]
  exact c.cell_one i
/-- what a configuration's bytes are -/
structure Cfg.Ok (c : Cfg) : Prop where
  key : ∀ j, j < 16 → 0 ≤ c.key j ∧ c.key j < 256
  code : ∀ j, j < 16 → 0 ≤ c.code j ∧ c.code j < 256
def Cfg.Valid (c : Cfg) : Prop := 0 ≤ c.b ∧ c.b ≤ 31 ∧ (c.d = 0 ∨ c.d = 1) ∧ 0 ≤ c.ds ∧ c.ds ≤ 1073741824 ∧ 0 ≤ c.ro ∧ c.ro ≤ 1073741824
instance Cfg.decValid (c : Cfg) : Decidable c.Valid := by unfold Cfg.Valid; infer_instance
def Cfg.zero : Cfg := ⟨0, 0, fun _ => 0, fun _ => 0, false, false, false, 0, 0⟩
/-- a queued packet; a pending packet -/
structure QV where
  n : Nat
  z : Nat → Int
  at_ : Int
structure PV where
  ct : Int
  n : Nat
  z : Nat → Int
  rep : Bool
/-- .. and where it lies -/
structure WE where
  v : QV
  A : Option Addr
  c : Nat
structure PE where
  v : PV
  A : Option Addr
  c : Nat
def WE.cells (e : WE) : List Value := [.slice e.A e.v.n e.c, .int .i64 e.v.at_]
def PE.cells (e : PE) : List Value := [.int .u32 e.v.ct, .slice e.A e.v.n e.c, .bool e.v.rep]
theorem WE.len (e : WE) : e.cells.length = 2 := rfl
theorem PE.len (e : PE) : e.cells.length = 3 := rfl
/-- a packet in memory, in a block of R -/
structure Pkt (w : World) (R : Nat → Prop) (A : Option Addr) (n c : Nat) (z : Nat → Int) : Prop where
  pos : 1 ≤ n
  max : n ≤ 9000
  cap : n ≤ c
  byte : ∀ j, j < n → 0 ≤ z j ∧ z j < 256
  row : Row w w.heap.size A n (fun j => .int .u8 (z j))
  ro : ∀ a, A = some a → R a.block
theorem Pkt.keep {F R : Nat → Prop} {w w' : World} {A : Option Addr} {n c : Nat} {z : Nat → Int} (h : Pkt w R A n c z) (hk : KeepF F w w') (hF : ∀ k, F k → ¬ R k) : Pkt w' R A n c z :=
  ⟨h.pos, h.max, h.cap, h.byte, (hk.row h.row (Nat.le_refl _) (fun a e _ hf => hF _ hf (h.ro a e))).more hk.size, h.ro⟩
theorem Pkt.mono {R R' : Nat → Prop} {w : World} {A : Option Addr} {n c : Nat} {z : Nat → Int} (h : Pkt w R A n c z) (hR : ∀ k, R k → R' k) : Pkt w R' A n c z :=
  ⟨h.pos, h.max, h.cap, h.byte, h.row, fun a e => hR _ (h.ro a e)⟩
/-- the cells of a transmitter -/
def tArr (C : Array Value) (made : Bool) (now next : Int) (q p : Value) (ub cb : Nat) : Array Value := C ++ #[.bool made, .int .i64 now, .int .u64 next, q, p, .map (some ub), .pointer (some ⟨cb, 0, none⟩)]
section
variable {C : Array Value} {made : Bool} {now next : Int} {q p : Value} {ub cb : Nat}
theorem tArr_low (hC : C.size = 39) {j : Nat} (hj : j < 39) : (tArr C made now next q p ub cb)[j]? = C[j]? := by
  unfold tArr
  rw [Array.getElem?_append_left (by omega)]
theorem tArr_high (hC : C.size = 39) (j : Nat) : (tArr C made now next q p ub cb)[39 + j]? = (#[.bool made, .int .i64 now, .int .u64 next, q, p, .map (some ub), .pointer (some ⟨cb, 0, none⟩)] : Array Value)[j]? := by
  unfold tArr
  rw [Array.getElem?_append_right (by omega), hC, show 39 + j - 39 = j by omega]
theorem tArr_set (hC : C.size = 39) (j : Nat) (v : Value) : (tArr C made now next q p ub cb).setIfInBounds (39 + j) v = C ++ (#[.bool made, .int .i64 now, .int .u64 next, q, p, .map (some ub), .pointer (some ⟨cb, 0, none⟩)] : Array Value).setIfInBounds j v := by
  unfold tArr
  rw [Array.setIfInBounds_append_right (by omega), hC, show 39 + j - 39 = j by omega]
theorem tArr_now (hC : C.size = 39) (x : Int) : (tArr C made now next q p ub cb).setIfInBounds 40 (.int .i64 x) = tArr C made x next q p ub cb := tArr_set hC 1 _
theorem tArr_next (hC : C.size = 39) (x : Int) : (tArr C made now next q p ub cb).setIfInBounds 41 (.int .u64 x) = tArr C made now x q p ub cb := tArr_set hC 2 _
end
/-- a map whose keys are L, each with the value true -/
def UK (w : World) (ub : Nat) (L : List (Array Value)) : Prop := ∃ es c, w.heap[ub]? = some (.map es c) ∧ es.toList.map (·.key) = L.map Value.agg ∧ ∀ e, e ∈ es.toList → e.val = .bool true
theorem UK.lt {w : World} {ub : Nat} {L : List (Array Value)} (h : UK w ub L) : ub < w.heap.size := by
  obtain ⟨es, c, h1, _⟩ := h
  exact (Array.getElem?_eq_some_iff.1 h1).1
theorem UK.keep {w w' : World} {ub : Nat} {L : List (Array Value)} (h : UK w ub L) (hk : w'.heap[ub]? = w.heap[ub]?) : UK w' ub L := by
  obtain ⟨es, c, h1, h2⟩ := h
  exact ⟨es, c, hk.trans h1, h2⟩
/-- the state of a transmitter -/
structure TS where
  C : Cfg
  now : Int
  next : Int
  Q : List QV
  P : List PV
  used : List (Array Value)
  comp : Obj
structure TxM (w : World) (g : Nat) (s : TS) (W R : Nat → Prop) (qA : Option Addr) (qc : Nat) (lq : List WE) (pA : Option Addr) (pc : Nat) (lp : List PE) (ub cb : Nat) : Prop where
  blk : Blk w g 107 (tArr s.C.arr true s.now s.next (.slice qA lq.length qc) (.slice pA lp.length pc) ub cb)
  qv : lq.map (·.v) = s.Q
  pv : lp.map (·.v) = s.P
  q : SL w 110 2 qA lq.length qc (lq.flatMap WE.cells)
  p : SL w 113 3 pA lp.length pc (lp.flatMap PE.cells)
  u : UK w ub s.used
  k : w.heap[cb]? = some s.comp
  qe : ∀ e, e ∈ lq → Pkt w R e.A e.v.n e.c e.v.z
  pe : ∀ e, e ∈ lp → Pkt w R e.A e.v.n e.c e.v.z
  pr : ∀ e, e ∈ s.P → 0 ≤ e.ct ∧ e.ct < 4294967296
  wg : W g
  wu : W ub
  wc : W cb
  wq : ∀ a, qA = some a → W a.block
  wp : ∀ a, pA = some a → W a.block
  kg : cb ≠ g
  ku : cb ≠ ub
  kq : ∀ a, qA = some a → cb ≠ a.block
  kp : ∀ a, pA = some a → cb ≠ a.block
  dis : ∀ k, W k → R k → False
  win : ∀ k, W k → k < w.heap.size
  rin : ∀ k, R k → k < w.heap.size
  now0 : 0 ≤ s.now ∧ s.now < 1073741824
  next0 : 0 ≤ s.next ∧ s.next ≤ 4294967296
def TxI (w : World) (g : Nat) (s : TS) (W R : Nat → Prop) : Prop := ∃ qA qc lq pA pc lp ub cb, TxM w g s W R qA qc lq pA pc lp ub cb
section
variable {w w' : World} {g : Nat} {s : TS} {W R F : Nat → Prop} {qA : Option Addr} {qc : Nat} {lq : List WE} {pA : Option Addr} {pc : Nat} {lp : List PE} {ub cb : Nat}
theorem TxM.keepF (h : TxM w g s W R qA qc lq pA pc lp ub cb) (hk : KeepF F w w') (hF : ∀ k, F k → ¬ W k ∧ ¬ R k) : TxM w' g s W R qA qc lq pA pc lp ub cb :=
  ⟨hk.blk h.blk (fun hf => (hF _ hf).1 h.wg), h.qv, h.pv, h.q.keepF hk (fun a e hf => (hF _ hf).1 (h.wq a e)), h.p.keepF hk (fun a e hf => (hF _ hf).1 (h.wp a e)), h.u.keep (hk.block _ h.u.lt (fun hf => (hF _ hf).1 h.wu)),
   (hk.block _ (h.win _ h.wc) (fun hf => (hF _ hf).1 h.wc)).trans h.k, fun e he => (h.qe e he).keep hk (fun k hf => (hF k hf).2), fun e he => (h.pe e he).keep hk (fun k hf => (hF k hf).2), h.pr, h.wg, h.wu, h.wc, h.wq, h.wp, h.kg, h.ku, h.kq, h.kp, h.dis,
   fun k hk' => Nat.lt_of_lt_of_le (h.win k hk') hk.size, fun k hk' => Nat.lt_of_lt_of_le (h.rin k hk') hk.size, h.now0, h.next0⟩
theorem TxM.below (h : TxM w g s W R qA qc lq pA pc lp ub cb) (hb : Below w.heap.size w w') : TxM w' g s W R qA qc lq pA pc lp ub cb :=
  h.keepF (F := fun _ => False) (KeepF.of_below hb) (fun _ hf => hf.elim)
theorem TxI.keepF (h : TxI w g s W R) (hk : KeepF F w w') (hF : ∀ k, F k → ¬ W k ∧ ¬ R k) : TxI w' g s W R := by
  obtain ⟨qA, qc, lq, pA, pc, lp, ub, cb, h⟩ := h
  exact ⟨qA, qc, lq, pA, pc, lp, ub, cb, h.keepF hk hF⟩
theorem TxI.below (h : TxI w g s W R) (hb : Below w.heap.size w w') : TxI w' g s W R :=
  h.keepF (F := fun _ => False) (KeepF.of_below hb) (fun _ hf => hf.elim)
theorem TxI.lt (h : TxI w g s W R) : g < w.heap.size := by
  obtain ⟨qA, qc, lq, pA, pc, lp, ub, cb, h⟩ := h
  exact h.blk.lt
theorem TxM.made (h : TxM w g s W R qA qc lq pA pc lp ub cb) : w.cell? ⟨g, 39, none⟩ = some (.bool true) := (h.blk.cell 39).trans (tArr_high s.C.arr_size 0)
theorem TxM.cnow (h : TxM w g s W R qA qc lq pA pc lp ub cb) : w.cell? ⟨g, 40, none⟩ = some (.int .i64 s.now) := (h.blk.cell 40).trans (tArr_high s.C.arr_size 1)
theorem TxM.cnext (h : TxM w g s W R qA qc lq pA pc lp ub cb) : w.cell? ⟨g, 41, none⟩ = some (.int .u64 s.next) := (h.blk.cell 41).trans (tArr_high s.C.arr_size 2)
theorem TxM.cc (h : TxM w g s W R qA qc lq pA pc lp ub cb) : w.cell? ⟨g, 45, none⟩ = some (.pointer (some ⟨cb, 0, none⟩)) := (h.blk.cell 45).trans (tArr_high s.C.arr_size 6)
theorem TxM.cC (h : TxM w g s W R qA qc lq pA pc lp ub cb) {j : Nat} (hj : j < 39) : w.cell? ⟨g, j, none⟩ = some (s.C.cell j) := (h.blk.cell j).trans ((tArr_low s.C.arr_size hj).trans (s.C.arr_at hj))
end
/-- the transmitter behind a call -/
def TxO (W R : Nat → Prop) (w w' : World) (g : Nat) (s : TS) : Prop := ∃ W' R', TxI w' g s W' R' ∧ (∀ k, W' k → W k ∨ w.heap.size ≤ k) ∧ (∀ k, R' k → R k ∨ w.heap.size ≤ k) ∧ KeepF W w w'
theorem TxO.same {W R : Nat → Prop} {w w' : World} {g : Nat} {s : TS} (h : TxI w g s W R) (hb : Below w.heap.size w w') : TxO W R w w' g s := ⟨W, R, h.below hb, fun _ h => .inl h, fun _ h => .inl h, KeepF.of_below hb⟩
end Go.Proofs.YtmdpiajhfohagaaGreat
namespace Go.Proofs.YtmdpiajhfohagaaGreat
open Go.RowKit
set_option linter.unusedVariables false
attribute [local go_sem ↓] Go.wp_at_zero Go.wp_at_succ

theorem infoPd : (Tryz.prog.info? 26).map (·.size) = some 39 := by kernel_rfl
end Go.Proofs.YtmdpiajhfohagaaGreat
namespace Go.Proofs.YtmdpiajhfohagaaGreat
open Go.RowKit
set_option linter.unusedVariables false
attribute [local go_sem ↓] Go.wp_at_zero Go.wp_at_succ

/-- a slice of byte slices -/
structure BRows (w : World) (A : Option Addr) (m : Nat) (PA : Nat → Option Addr) (pn pc : Nat → Nat) (z : Nat → Nat → Int) : Prop where
  at_ : m ≠ 0 → ∃ lb lo, A = some ⟨lb, lo, none⟩ ∧ lb < w.heap.size ∧ ∀ k, k < m → w.cell? ⟨lb, lo + k, none⟩ = some (.slice (PA k) (pn k) (pc k))
  len : ∀ k, k < m → pn k ≤ 9223372036854775807
  cap : ∀ k, k < m → pn k ≤ pc k
  byte : ∀ k, k < m → ∀ j, j < pn k → 0 ≤ z k j ∧ z k j < 256
  row : ∀ k, k < m → Row w w.heap.size (PA k) (pn k) (fun j => .int .u8 (z k j))
theorem BRows.below {w w' : World} {A : Option Addr} {m : Nat} {PA : Nat → Option Addr} {pn pc : Nat → Nat} {z : Nat → Nat → Int} (h : BRows w A m PA pn pc z) (hb : Below w.heap.size w w') : BRows w' A m PA pn pc z :=
  ⟨fun hm => by
    obtain ⟨lb, lo, e, hlt, hc⟩ := h.at_ hm
    exact ⟨lb, lo, e, Nat.lt_of_lt_of_le hlt hb.size, fun k hk => (hb.cell (p := ⟨lb, lo + k, none⟩) hlt).trans (hc k hk)⟩, h.len, h.cap, h.byte, fun k hk => (h.row k hk).next hb⟩
end Go.Proofs.YtmdpiajhfohagaaGreat
namespace Go.Proofs.YtmdpiajhfohagaaGreat
open Go.RowKit
set_option linter.unusedVariables false

theorem cells_ne {w : World} {a b : Nat} {x y : Array Value} {t u : TypeId} {f g : Nat × Nat} (ha : w.heap[a]? = some (.cells x t f)) (hb : w.heap[b]? = some (.cells y u g)) (h : t ≠ u) : a ≠ b := by
  rintro rfl
  rw [ha] at hb
  injection hb with hb
  injection hb with _ h2
  exact h h2
theorem map_ne {w : World} {a b : Nat} {x : Array Value} {t : TypeId} {f : Nat × Nat} {es : Array MapEntry} {c : Nat} (ha : w.heap[a]? = some (.cells x t f)) (hb : w.heap[b]? = some (.map es c)) : a ≠ b := by
  rintro rfl
  rw [ha] at hb
  cases hb
theorem SL.obj {w : World} {e : TypeId} {sz : Nat} {A : Option Addr} {n c : Nat} {xs : List Value} (h : SL w e sz A n c xs) {a : Addr} (ha : A = some a) : ∃ cur, w.heap[a.block]? = some (.cells cur e (0, 0)) := by
  rcases h.at_ with ⟨h1, _⟩ | ⟨b, o, cur, h1, h2, _⟩
  · rw [h1] at ha; cases ha
  · rw [h1] at ha; cases ha
    exact ⟨cur, h2⟩
section
variable {w w1 w' : World} {g : Nat} {s : TS} {W R R' F : Nat → Prop} {qA qA' : Option Addr} {qc qc' : Nat} {lq lq' : List WE} {pA pA' : Option Addr} {pc pc' : Nat} {lp lp' : List PE} {ub cb : Nat}
theorem TxM.gq (h : TxM w g s W R qA qc lq pA pc lp ub cb) (a : Addr) (ha : qA = some a) : g ≠ a.block := by
  obtain ⟨cur, hc⟩ := h.q.obj ha
  exact cells_ne h.blk hc (by decide)
theorem TxM.gp (h : TxM w g s W R qA qc lq pA pc lp ub cb) (a : Addr) (ha : pA = some a) : g ≠ a.block := by
  obtain ⟨cur, hc⟩ := h.p.obj ha
  exact cells_ne h.blk hc (by decide)
theorem TxM.gu (h : TxM w g s W R qA qc lq pA pc lp ub cb) : g ≠ ub := by
  obtain ⟨es, c, h1, _⟩ := h.u
  exact map_ne h.blk h1
/-- fewer may be said of what may be read -/
theorem TxM.moreR (h : TxM w g s W R qA qc lq pA pc lp ub cb) (hR : ∀ k, R k → R' k) (hd : ∀ k, W k → R' k → False) (hr : ∀ k, R' k → k < w.heap.size) : TxM w g s W R' qA qc lq pA pc lp ub cb :=
  ⟨h.blk, h.qv, h.pv, h.q, h.p, h.u, h.k, fun e he => (h.qe e he).mono hR, fun e he => (h.pe e he).mono hR, h.pr, h.wg, h.wu, h.wc, h.wq, h.wp, h.kg, h.ku, h.kq, h.kp, hd, h.win, hr, h.now0, h.next0⟩
theorem TxM.setNow (h : TxM w g s W R qA qc lq pA pc lp ub cb) (x : Int) (hx : 0 ≤ x ∧ x < 1073741824) : TxM (w.setCell ⟨g, 40, none⟩ (.int .i64 x)) g { s with now := x } W R qA qc lq pA pc lp ub cb := by
  have hk : KeepF (fun k => k = g) w (w.setCell ⟨g, 40, none⟩ (.int .i64 x)) := (KeepF.refl (F := fun k => k = g)).setCell (p := ⟨g, 40, none⟩) rfl _
  refine ⟨?_, h.qv, h.pv, h.q.keepF hk (fun a e h2 => h.gq a e h2.symm), h.p.keepF hk (fun a e h2 => h.gp a e h2.symm), h.u.keep (hk.block _ h.u.lt (fun e => h.gu e.symm)), (hk.block _ (h.win _ h.wc) h.kg).trans h.k,
    fun e he => (h.qe e he).keep hk (fun k e2 hr => h.dis k (e2 ▸ h.wg) hr), fun e he => (h.pe e he).keep hk (fun k e2 hr => h.dis k (e2 ▸ h.wg) hr), h.pr, h.wg, h.wu, h.wc, h.wq, h.wp, h.kg, h.ku, h.kq, h.kp, h.dis, fun k hw => Nat.lt_of_lt_of_le (h.win k hw) hk.size, fun k hw => Nat.lt_of_lt_of_le (h.rin k hw) hk.size, hx, h.next0⟩
  have := h.blk.set_ 40 (.int .i64 x)
  rwa [tArr_now s.C.arr_size] at this
theorem TxM.setNext (h : TxM w g s W R qA qc lq pA pc lp ub cb) (x : Int) (hx : 0 ≤ x ∧ x ≤ 4294967296) : TxM (w.setCell ⟨g, 41, none⟩ (.int .u64 x)) g { s with next := x } W R qA qc lq pA pc lp ub cb := by
  have hk : KeepF (fun k => k = g) w (w.setCell ⟨g, 41, none⟩ (.int .u64 x)) := (KeepF.refl (F := fun k => k = g)).setCell (p := ⟨g, 41, none⟩) rfl _
  refine ⟨?_, h.qv, h.pv, h.q.keepF hk (fun a e h2 => h.gq a e h2.symm), h.p.keepF hk (fun a e h2 => h.gp a e h2.symm), h.u.keep (hk.block _ h.u.lt (fun e => h.gu e.symm)), (hk.block _ (h.win _ h.wc) h.kg).trans h.k,
    fun e he => (h.qe e he).keep hk (fun k e2 hr => h.dis k (e2 ▸ h.wg) hr), fun e he => (h.pe e he).keep hk (fun k e2 hr => h.dis k (e2 ▸ h.wg) hr), h.pr, h.wg, h.wu, h.wc, h.wq, h.wp, h.kg, h.ku, h.kq, h.kp, h.dis, fun k hw => Nat.lt_of_lt_of_le (h.win k hw) hk.size, fun k hw => Nat.lt_of_lt_of_le (h.rin k hw) hk.size, h.now0, hx⟩
  have := h.blk.set_ 41 (.int .u64 x)
  rwa [tArr_next s.C.arr_size] at this
end
end Go.Proofs.YtmdpiajhfohagaaGreat
