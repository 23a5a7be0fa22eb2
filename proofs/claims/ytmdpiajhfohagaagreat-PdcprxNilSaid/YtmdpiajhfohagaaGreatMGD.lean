/- pdcptx.Resume. api.Forward under construction: the result of Export in memory. -/
import Derived.Test.YtmdpiajhfohagaaGreatMGC
import Derived.Maps.OwnSet
import Derived.Deep.RegionHeld3
namespace Go.Proofs.YtmdpiajhfohagaaGreat
open Go.RowKit
set_option linter.unusedVariables false
attribute [local go_sem ↓] Go.wp_at_zero Go.wp_at_succ

/-- a key's cells -/
def kArr (f : Nat → Int) : Array Value := #[.int .u8 (f 0), .int .u8 (f 1), .int .u8 (f 2), .int .u8 (f 3), .int .u8 (f 4), .int .u8 (f 5), .int .u8 (f 6), .int .u8 (f 7), .int .u8 (f 8), .int .u8 (f 9), .int .u8 (f 10), .int .u8 (f 11), .int .u8 (f 12), .int .u8 (f 13), .int .u8 (f 14), .int .u8 (f 15)]
theorem kArr_at (f : Nat → Int) : ∀ j, j < 16 → (kArr f)[j]? = some (.int .u8 (f j)) := fun j hj => by
  rcases (by omega : j = 0 ∨ j = 1 ∨ j = 2 ∨ j = 3 ∨ j = 4 ∨ j = 5 ∨ j = 6 ∨ j = 7 ∨ j = 8 ∨ j = 9 ∨ j = 10 ∨ j = 11 ∨ j = 12 ∨ j = 13 ∨ j = 14 ∨ j = 15) with rfl | rfl | rfl | rfl | rfl | rfl | rfl | rfl | rfl | rfl | rfl | rfl | rfl | rfl | rfl | rfl <;> rfl
def cfgLit (c : Cfg) : Array Value := #[.int .i64 c.b, .int .i64 c.d, .int .u8 (c.key 0), .int .u8 (c.key 1), .int .u8 (c.key 2), .int .u8 (c.key 3), .int .u8 (c.key 4), .int .u8 (c.key 5), .int .u8 (c.key 6), .int .u8 (c.key 7), .int .u8 (c.key 8), .int .u8 (c.key 9), .int .u8 (c.key 10), .int .u8 (c.key 11), .int .u8 (c.key 12), .int .u8 (c.key 13), .int .u8 (c.key 14), .int .u8 (c.key 15), .int .u8 (c.code 0), .int .u8 (c.code 1), .int .u8 (c.code 2), .int .u8 (c.code 3), .int .u8 (c.code 4), .int .u8 (c.code 5), .int .u8 (c.code 6), .int .u8 (c.code 7), .int .u8 (c.code 8), .int .u8 (c.code 9), .int .u8 (c.code 10), .int .u8 (c.code 11), .int .u8 (c.code 12), .int .u8 (c.code 13), .int .u8 (c.code 14), .int .u8 (c.code 15), .bool c.ig, .bool c.cm, .bool c.ac, .int .i64 c.ds, .int .i64 c.ro]
theorem cfgLit_eq (c : Cfg) : c.arr = cfgLit c := by kernel_rfl
theorem k_check (f : Nat → Int) (W : World) : (Instr.checkKey false 10000 24 (.agg (kArr f))).run Tryz.prog W = .ok () W := by kernel_rfl
theorem k_put0 (f : Nat → Int) (W : World) (m : Nat) (h : W.heap[m]? = some (.map #[] 0)) : (Instr.mapUpdate 51 (.map (some m)) (.agg (kArr f)) (.bool true)).run Tryz.prog W = .ok () (W.putObj m (.map #[{ key := .agg (kArr f), val := .bool true, born := 0 }] 1)) := by
  have hf : ∀ W : World, (Instr.findKey 24 (.agg (kArr f)) []).run Tryz.prog W = .ok none W := fun W => by
    simp [Instr.findKey, run_underlying Tryz.underlying24, Instr.findNow, Result.andThen]
  simp [Instr.mapUpdate, run_underlying Tryz.underlying51, MapKept.run_getObj_map h, k_check, hf, MapKept.run_setObj_map _ h, Result.andThen, World.putObj]
/-- the zero compressor's cells -/
def zc14 (k : Nat) : Value := if k = 3 ∨ k = 9 ∨ k = 12 then .bool false else if k = 10 then .int .u8 0 else .int .i64 0
def zcC : Array Value := Array.ofFn (n := 226) fun j => if j.1 = 0 then .bool false else if j.1 = 225 then .int .i64 0 else zc14 ((j.1 - 1) % 14)
def cNew : Obj := .cells (zcC.setIfInBounds 0 (.bool true)) 165
theorem uk_one (W : World) (m : Nat) (hm : m < W.heap.size) (f : Nat → Int) : UK (W.putObj m (.map #[{ key := .agg (kArr f), val := .bool true, born := 0 }] 1)) m [kArr f] :=
  ⟨_, _, World.putObj_heap_same hm, rfl, fun e he => by
    have : e = { key := .agg (kArr f), val := .bool true, born := 0 } := by simpa using he
    rw [this]⟩
theorem KeepF.more {F : Nat → Prop} {w w1 w2 : World} (h : KeepF F w w1) (hb : Below w1.heap.size w1 w2) : KeepF F w w2 := h.trans (G := fun _ => False) (KeepF.of_below hb) (fun _ _ h => h.elim)
theorem row_lt {w : World} {B n : Nat} {A : Option Addr} {v : Nat → Value} (hr : Row w B A n v) (h1 : 1 ≤ n) {a : Addr} (e : A = some a) : a.block < B := by
  obtain ⟨b, off, e2, hb, _⟩ := hr (by omega)
  rw [e] at e2; cases e2
  exact hb
end Go.Proofs.YtmdpiajhfohagaaGreat
namespace Go.Proofs.YtmdpiajhfohagaaGreat
open Go.RowKit
set_option linter.unusedVariables false

def PE.cc (e : PE) : List Value := [.int .u32 e.v.ct, .slice e.A e.v.n e.c]
def WE.cc (e : WE) : List Value := [.slice e.A e.v.n e.c]
theorem infoCnt : ∃ i : TypeInfo, Tryz.prog.info? 46 = some i ∧ i.zero = some (.agg #[.int .u32 0, .slice none 0 0]) ∧ i.size = 2 ∧ i.bytes = 32 := by
  have h : (Tryz.prog.info? 46).map (fun i => (i.zero, i.size, i.bytes)) = some (some (.agg #[.int .u32 0, .slice none 0 0]), 2, 32) := by kernel_rfl
  cases hi : Tryz.prog.info? 46 with
  | none => rw [hi] at h; cases h
  | some i =>
    rw [hi] at h
    simp only [Option.map_some, Option.some.injEq, Prod.mk.injEq] at h
    exact ⟨i, rfl, h.1, h.2.1, h.2.2⟩
structure FwM (w : World) (B rb : Nat) (nx : Int) (us : Bool) (W R : Nat → Prop) (pA : Option Addr) (pc : Nat) (lp : List PE) (qA : Option Addr) (qc : Nat) (lq : List WE) : Prop where
  blk : Blk w rb 102 #[.int .u32 nx, .bool us, .slice pA lp.length pc, .slice qA lq.length qc]
  p : SL w 46 2 pA lp.length pc (lp.flatMap PE.cc)
  q : SL w 41 1 qA lq.length qc (lq.flatMap WE.cc)
  pe : ∀ e, e ∈ lp → Pkt w R e.A e.v.n e.c e.v.z
  qe : ∀ e, e ∈ lq → Pkt w R e.A e.v.n e.c e.v.z
  wg : W rb
  wq : ∀ a, qA = some a → W a.block
  wp : ∀ a, pA = some a → W a.block
  dis : ∀ k, W k → R k → False
  win : ∀ k, W k → B ≤ k ∧ k < w.heap.size
  rin : ∀ k, R k → B ≤ k ∧ k < w.heap.size
section
variable {w w1 w' : World} {B rb : Nat} {nx : Int} {us : Bool} {W R R' F : Nat → Prop} {qA qA' : Option Addr} {qc qc' : Nat} {lq lq' : List WE} {pA pA' : Option Addr} {pc pc' : Nat} {lp lp' : List PE}
theorem FwM.keepF (h : FwM w B rb nx us W R pA pc lp qA qc lq) (hk : KeepF F w w') (hF : ∀ k, F k → ¬ W k ∧ ¬ R k) : FwM w' B rb nx us W R pA pc lp qA qc lq :=
  ⟨hk.blk h.blk (fun hf => (hF _ hf).1 h.wg), h.p.keepF hk (fun a e hf => (hF _ hf).1 (h.wp a e)), h.q.keepF hk (fun a e hf => (hF _ hf).1 (h.wq a e)),
   fun e he => (h.pe e he).keep hk (fun k hf => (hF k hf).2), fun e he => (h.qe e he).keep hk (fun k hf => (hF k hf).2), h.wg, h.wq, h.wp, h.dis,
   fun k hk' => ⟨(h.win k hk').1, Nat.lt_of_lt_of_le (h.win k hk').2 hk.size⟩, fun k hk' => ⟨(h.rin k hk').1, Nat.lt_of_lt_of_le (h.rin k hk').2 hk.size⟩⟩
theorem FwM.below (h : FwM w B rb nx us W R pA pc lp qA qc lq) (hb : Below w.heap.size w w') : FwM w' B rb nx us W R pA pc lp qA qc lq :=
  h.keepF (F := fun _ => False) (KeepF.of_below hb) (fun _ hf => hf.elim)
theorem FwM.gq (h : FwM w B rb nx us W R pA pc lp qA qc lq) (a : Addr) (ha : qA = some a) : rb ≠ a.block := by
  obtain ⟨cur, hc⟩ := h.q.obj ha
  exact cells_ne h.blk hc (by decide)
theorem FwM.gp (h : FwM w B rb nx us W R pA pc lp qA qc lq) (a : Addr) (ha : pA = some a) : rb ≠ a.block := by
  obtain ⟨cur, hc⟩ := h.p.obj ha
  exact cells_ne h.blk hc (by decide)
theorem FwM.moreR (h : FwM w B rb nx us W R pA pc lp qA qc lq) (hR : ∀ k, R k → R' k) (hd : ∀ k, W k → R' k → False) (hr : ∀ k, R' k → B ≤ k ∧ k < w.heap.size) : FwM w B rb nx us W R' pA pc lp qA qc lq :=
  ⟨h.blk, h.p, h.q, fun e he => (h.pe e he).mono hR, fun e he => (h.qe e he).mono hR, h.wg, h.wq, h.wp, hd, h.win, hr⟩
end
end Go.Proofs.YtmdpiajhfohagaaGreat
