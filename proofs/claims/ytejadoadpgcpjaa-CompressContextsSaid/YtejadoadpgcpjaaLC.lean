/- compress: Contexts of a made compressor. Regions that draw their order inside the body of a loop over an iterator: the plain quiet walk serves there too. The walk of CompressContexts. -/
import Derived.Test.YtejadoadpgcpjaaKB
import Derived.Test.YtejadoadpgcpjaaGX
import Derived.OrdersIn
import Derived.RangeFuncNested
import Derived.RangeFuncCalls
namespace Go.Proofs.Ytejadoadpgcpjaa
open Go.RowKit

attribute [local go_sem ↓] Go.wp_at_zero Go.wp_at_succ

set_option maxRecDepth 100000 in
theorem contexts_made (g : Nat) (S : Nat → Rx) (T : Int) (w : World) (h : CB w g true S T) : Calls Try.prog 40 #[.pointer (some ⟨g, 0, none⟩)] w fun e w' => e = .returned (.func (.func 71) #[] #[.pointer (some ⟨w.heap.size, 0, none⟩)]) ∧ Blk w' w.heap.size 89 (caArr S) ∧ Below w.heap.size w w' := by
  have hmf : ∀ (fn : Fn) (first cap : Array Value) (w : World), (Instr.makeFunc fn first cap).run Try.prog w = .ok (.func fn first cap) w := fun _ _ _ _ => rfl
  have hz := zero89
  obtain ⟨L, hL⟩ : ∃ L : List Value, L = (caArr S).toList := ⟨_, rfl⟩
  obtain ⟨Z, hZ⟩ : ∃ Z, Z = caArr (fun _ => Rx.zero) := ⟨_, rfl⟩
  have hLa : caArr S = L.toArray := by rw [hL]
  have hl224 : L.length = 224 := by rw [hL, Array.length_toList, caArr_size]
  have HIZ : Hid ((Try.prog.info? 89).map (·.size) = some L.length) := Lib.hid (by rw [hl224]; exact size89)
  have HIZ2 : Hid ((Try.prog.info? 89).map (·.size) = some L.toArray.size) := Lib.hid (by simpa using HIZ.out)
  have HZ2 : Hid (Z.size = L.toArray.size) := Lib.hid (by rw [hZ, caArr_size]; simpa using hl224.symm)
  have HO : Hid (L.toArray.all (·.oneCell') = true) := Lib.hid (by rw [← hLa]; exact ca_one S)
  have HRG : Hid (∀ o : Obj, (w.alloc o).rangeAt g 1 L) := Lib.hid (fun o j v hv => by
    have hj : j < 224 := by
      have := (List.getElem?_eq_some_iff.1 hv).1
      omega
    have h1 := h.alloc o
    have h2 : (w.alloc o).cell? ⟨g, 1 + j, none⟩ = some (cval true S T (1 + j)) := (Blk.cell h1 (1 + j)).trans (csArr_at _ _ _ (1 + j) (by omega))
    rw [h2]
    have h3 := caArr_at S j hj
    rw [hLa] at h3
    simp only [List.getElem?_toArray] at h3
    rw [hv] at h3
    unfold cval
    rw [if_neg (by omega), if_neg (by omega), show 1 + j - 1 = j by omega]
    exact h3.symm)
  have HB := Lib.hid (fun o : Obj => none_ok g true S T _ (h.alloc o))
  have HLA := Lib.hid hLa
  rw [← hZ] at hz
  clear h hL hZ hLa
  go_enter Try.func40, Try.ntmps40
  go_wp2_with (first
    | (go_at_call 62; refine (HB.out _).mono ?_; rintro e w1 ⟨rfl, rfl⟩)
    | (refine wpList_load_mid rfl 89 _ rfl g 1 rfl L _ (HRG.out _) Try.underlying89 rfl HIZ.out ?_)
    | (refine wpList_store_row rfl _ _ _ rfl w.heap.size L.toArray rfl rfl 89 Z (Blk.new w _ _) HIZ2.out HZ2.out HO.out ?_))
  go_ret
  exact ⟨rfl, by rw [HLA.out]; exact Blk.setRow (Blk.new w _ _), belowRow ((Below.refl _ w).alloc (Nat.le_refl _) _) (Nat.le_refl _) _⟩
end Go.Proofs.Ytejadoadpgcpjaa
namespace Go.Proofs.Ytejadoadpgcpjaa
open Go.RowKit

section
variable {n l : Nat} {P : Program} {C : World → Prop} {ops : Array Oper} {md : Region.Mode}
def noDefer (o : Oper) : Bool := match o.op with | .defer _ => false | _ => true
theorem noDefer_spec {o : Oper} (h : noDefer o = true) : ∀ c, o.op ≠ .defer c := by
  intro c e
  unfold noDefer at h
  rw [e] at h
  cases h
theorem op_round {o : Oper} {a : Act} {K : Act → Prop} {K' : Act → World → Prop} {Q' : Exit → Act → World → Prop} {w : World} (hnd : noDefer o = true) (hw : C w) (h : ∀ a w', C w' → K a → K' a w')
    (hh : o.quiet P a C K) : o.wpIn (Fence.wide.inRound l) n P a w K' Q' := by
  obtain ⟨v, h1, h2⟩ := hh
  have h3 := h1 w hw
  unfold Oper.quietAt at h3
  unfold Oper.wpIn
  refine ⟨fun _ _ => trivial, ?_⟩
  rw [Oper.semAt_eq _ _ _ (noDefer_spec hnd)]
  generalize (execOp a.eval o).run P w = r at *
  cases r with
  | ok x w' =>
    cases x <;> simp only [Oper.quietUpon] at h3 <;> simp only [Oper.uponIn]
    case value u =>
      obtain ⟨e1, e2⟩ := h3
      rw [e1, e2]
      exact h _ _ hw h2
    case skip =>
      obtain ⟨e1, e2⟩ := h3
      rw [e1, ← e2]
      exact h _ _ hw h2
    case enter f args =>
      obtain ⟨e1, hc⟩ := h3
      rw [e1]
      refine ⟨(fun e => by cases e), CallsIn.inRound l (callsIn_wide.2 (hc.mono fun e w'' ⟨he, hw''⟩ => ?_))⟩
      subst he
      exact h _ _ hw'' h2
  | halt x w' => simp only [Oper.quietUpon] at h3
theorem opIn_round {i : Nat} {a : Act} {K : Act → Prop} {K' : Act → World → Prop} {Q' : Exit → Act → World → Prop} {w : World} (hnd : ops.all noDefer = true) (hC : C w) (h : ∀ a w', C w' → K a → K' a w')
    (hh : qOp P ops C i K a) : wpOpIn (Fence.wide.inRound l) n P ops Q' i K' a w := by
  unfold qOp at hh
  unfold wpOpIn
  split
  · rename_i ho; simp only [ho] at hh; exact h _ _ hC hh
  · rename_i o ho
    simp only [ho] at hh
    have hn : noDefer o = true := by
      rw [Array.all_eq_true_iff_forall_mem] at hnd
      exact hnd o (Array.mem_of_getElem? ho)
    split
    · rename_i hw; simp only [hw, if_true] at hh; exact op_round hn hC h hh
    · rename_i hw; simp only [hw] at hh; exact ⟨fun _ _ => trivial, h _ _ hC hh⟩
theorem anyIn_round {Q : Act → Prop} {Q' : Exit → Act → World → Prop} (hnd : ops.all noDefer = true) (hQ : ∀ a w, C w → Q a → Q' .normal a w) : ∀ (fuel : Nat) (listed : Array Bool) (a : Act) (w : World), C w →
    wpAnyQ P md ops C Q fuel listed a → wpAnyIn (Fence.wide.inRound l) n P md ops Q' fuel listed a w
  | 0, _, _, _, hw, h => ⟨h.1, hQ _ _ hw h.2⟩
  | fuel + 1, _, _, _, hw, h => ⟨fun h0 => hQ _ _ hw (h.1 h0), fun i hi => opIn_round hnd hw (fun a' w' hw' => anyIn_round hnd hQ fuel _ a' w' hw') (h.2 i hi)⟩
theorem region_round {id : Nat} {Q : Exit → Act → World → Prop} {a : Act} {w : World} (hnd : ops.all noDefer = true) (hm : P.follows .mixedOrders = true) (hB : Region.lexB .any ops = true) (hC : C { w with drawn := w.drawn + 1 })
    (h : wpQuiet P ops C (fun a' => ∀ w', C w' → Q .normal a' w') ops.toList a) : (Code.region id ops true).wpIn (Fence.wide.inRound l) n P Q a w := by
  simp only [Region.lexB, Bool.and_eq_true] at hB
  refine wpIn_region_any hm (anyIn_round (Q := fun a' => ∀ w', C w' → Q .normal a' w') hnd (fun _ w' hw' h => h w' hw') _ _ _ _ hC ?_)
  have := wpAnyQ_lex (C := C) (md := .any) hB.1 ops.toList 0 (Array.replicate ops.size false) a (by simp) (by simpa using hB.2) h
  simpa using this
end
/-- the plain walk over every world that keeps W's blocks, inside a round -/
theorem wpIn_round_ext {n l : Nat} {P : Program} {id : Nat} {Q : Exit → Act → World → Prop} {a : Act} {w : World} {os : List Oper} (hnd : os.toArray.all noDefer = true) (hm : P.follows .mixedOrders = true) (hB : Region.lexB .any os.toArray = true)
    (h : wpQuiet P os.toArray (fun w' => ∃ e : ExtW w, w' = e.v) (fun a' => ∀ w', (∃ e : ExtW w, w' = e.v) → Q .normal a' w') os a) : (Code.region id os.toArray true).wpIn (Fence.wide.inRound l) n P Q a w :=
  region_round (C := fun w' => ∃ e : ExtW w, w' = e.v) hnd hm hB ⟨⟨w.drew, (Below.refl _ w).drew⟩, rfl⟩ (by simpa using h)
theorem keepsOthers_below {W W' : World} (h : Below W.heap.size W W') : KeepsOthers W W' := ⟨h.size, fun k _ hk _ => (h.block k (Array.getElem?_eq_some_iff.1 hk).1).trans hk⟩

section
variable {F : Fence} {n : Nat} {P : Program}
/-- the loop over an iterator whose variables are partly boxed: the assignment lays the box q, of which R holds -/
theorem wpIn_rangeFunc_box {α : Type} {g : Operand} {ps : Array Tmp} {assign body : Code} {Q : Exit → Act → World → Prop} {a : Act} {w : World}
    (hro : F.round = none) (h1 : 1 ≤ n) {gf : Nat} {lb : Array Value} (hg : a.eval g = .func (.func gf) #[] lb) (hFg : F.fn gf) (eg : ∀ args w, (callFunc gf args).run P w = .ok (.enter gf args) w)
    {encs : α → Array Value} {Kp : World → World → Prop} {S Sp : List α → Prop} {N : Nat} {w0 : World} (hseq : SeqStopsK F (n - 1) P gf lb encs Kp S Sp N w0)
    (hKt : ∀ {A B C : World}, Kp A B → Kp B C → Kp A C) (hKb : ∀ (W : World) (l : Nat) (o o' : Obj), w.heap.size ≤ l → W.heap[l]? = some o → o.isCells = false → o.isWalk = false → Kp W (W.putObj l o')) (hb0 : Below w0.heap.size w0 w) (hps : ∀ x, (encs x).size = ps.size)
    (I : List α → World → Prop) (Ix : Code → List α → World → Prop) (hI : OwnFrom w.heap.size I) (hIx : ∀ c, OwnFrom w.heap.size (Ix c)) (h0 : I [] w)
    (R : α → Nat → World → Prop) (hR : ∀ x q, OwnFrom w.heap.size (fun (_ : Unit) W => R x q W)) (aF : α → Nat → Act)
    (hassign : ∀ (l : Nat) (pre : List α) (x : α) (W : World) (K : Act → World → Prop), I pre W → (∀ q W', KeepsFrom w.heap.size W W' → Kp W W' → I pre W' → R x q W' → K (aF x q) W') →
      assign.wpIn (F.inRound l) (n - 1 - 1) P (Exit.then K (fun _ _ _ => False)) { tmps := (ps.zip (encs x)).foldl (fun t (p, v) => t.setIfInBounds p v) a.tmps, defers := [] } W)
    (hbody : ∀ (l : Nat) (pre : List α) (x : α) (q : Nat) (W : World), I pre W → R x q W → pre.length < N → body.wpIn (F.inRound l) (n - 1 - 1) P (ownPostG w.heap.size Kp I Ix (pre ++ [x]) W) (aF x q) W)
    (hdone : ∀ (D : Nat) (xs : List α) (W : World), w.heap.size ≤ D → S xs → I xs W → W.heap[D]? = some (.deferred (some [])) → Q .normal { a with defers := { target := .collected D, args := #[] } :: a.defers } W)
    (hstop : ∀ (D : Nat) (c : Code) (pre : List α) (W : World), w.heap.size ≤ D → Sp pre → Ix c pre W → W.heap[D]? = some (.deferred (some [])) → c.wpIn F n P Q { a with defers := { target := .collected D, args := #[] } :: a.defers } W) :
    (Code.rangeFunc g ps assign body).wpIn F n P Q a w :=
  wpIn_rangeFunc_ownH hro h1 hg hFg eg hseq hKt hKb hb0 hps I Ix hI hIx h0 (fun x a' W => ∃ q, a' = aF x q ∧ R x q W)
    (fun x a' s A B row hs hgr hr => by obtain ⟨q, e, h⟩ := hs; exact ⟨q, e, hR x q () A B row h hgr hr⟩)
    (fun l pre x W K hi hK => hassign l pre x W K hi (fun q W' k1 k2 k3 k4 => hK _ _ k1 k2 k3 ⟨q, rfl, k4⟩))
    (fun l pre x a' W _ _ hi hA hl => by obtain ⟨q, rfl, h⟩ := hA; exact hbody l pre x q W hi h hl)
    hdone hstop
end
theorem blk_own {β : Type} {B q : Nat} {t : TypeId} {cs : Array Value} : OwnFrom B (fun (_ : β) W => Blk W q t cs) := fun _ X Y row hs hg hr =>
  (hg.block q hs.lt (fun e => by obtain ⟨_, o, ho, hc⟩ := hr q e.symm; rw [show X.heap[q]? = _ from hs] at ho; cases ho; cases hc)).trans hs
end Go.Proofs.Ytejadoadpgcpjaa
namespace Go.Proofs.Ytejadoadpgcpjaa
open Go.RowKit Go.Shelf

attribute [local go_sem] Oper.semAt_some

theorem seq43_nn (fb : Nat) (w : World) : (binOp .eql 78 (.func (.func 71) #[] #[.pointer (some ⟨fb, 0, none⟩)]) .nilFunc).run Try.prog w = .ok (.bool false) w := by kernel_rfl
/-- the result of act, with the reference's cells as a letter -/
def AEnd (g : Nat) (T : Int) (w : World) (e : Ending) (w' : World) : Prop :=
  ∃ (g' : Nat) (S' : Nat → Rx) (C' : Nat → Cx) (T' : Int) (Lp : Array Value), e = .returned (.tuple #[.pointer (some ⟨g', 0, none⟩), .agg Lp, .bool true]) ∧ Hid (Lp = rcArr C' T') ∧ Hid (CB w' g' true S' T') ∧ Hid (∀ k, Alike (S' k) (C' k)) ∧ 0 ≤ T' ∧ T' ≤ T + 1 ∧ (g' = g ∨ w.heap.size ≤ g') ∧ Hid (Keep1 g w w') ∧ Hid ((Try.prog.info? 70).map (·.size) = some Lp.size) ∧ Hid (Lp.size = 225) ∧ Hid (Lp.all (·.oneCell') = true)
theorem aend_of {g : Nat} {T : Int} {w : World} {e : Ending} {w' : World} (h : AOut g T w e w') : AEnd g T w e w' := by
  obtain ⟨g', S', C', T', rfl, h1, h2, h3, h4, h5, h6⟩ := h
  exact ⟨g', S', C', T', rcArr C' T', rfl, Lib.hid rfl, Lib.hid h1, Lib.hid h2, h3, h4, h5, Lib.hid h6, Lib.hid (by rw [rcArr_size]; exact size70), Lib.hid (rcArr_size _ _), Lib.hid (rc_one _ _)⟩
theorem wp_onlyN {P : Program} {c : Code} {Q : Exit → Act → World → Prop} {a : Act} {w : World} (h : c.wp P (onlyNormal (fun a w => Q .normal a w)) a w) : c.wp P Q a w :=
  wp_mono h (by
    intro e a w h
    cases e with
    | normal => exact h
    | _ => exact h.elim)
theorem usedL_mem (S : Nat → Rx) : ∀ k x, x ∈ usedL S k → x < k ∧ (S x).used = true
  | 0, x, h => by cases h
  | k + 1, x, h => by
    unfold usedL at h
    split at h
    · rename_i hu
      rcases List.mem_append.1 h with h | h
      · exact ⟨by have := (usedL_mem S k x h).1; omega, (usedL_mem S k x h).2⟩
      · obtain rfl : x = k := by simpa using h
        exact ⟨by omega, hu⟩
    · exact ⟨by have := (usedL_mem S k x h).1; omega, (usedL_mem S k x h).2⟩
theorem usedL_pre (S : Nat → Rx) (k : Nat) : ∀ d, ∃ t, usedL S (k + d) = usedL S k ++ t
  | 0 => ⟨[], by simp⟩
  | d + 1 => by
    obtain ⟨t, ht⟩ := usedL_pre S k d
    show ∃ t, usedL S (k + d + 1) = usedL S k ++ t
    rw [usedL]
    split
    · exact ⟨t ++ [k + d], by rw [ht, List.append_assoc]⟩
    · exact ⟨t, ht⟩
theorem usedL_take (S : Nat → Rx) (k : Nat) (hk : k ≤ 16) : usedL S k = (usedL S 16).take (usedL S k).length := by
  obtain ⟨t, ht⟩ := usedL_pre S k (16 - k)
  rw [show k + (16 - k) = 16 by omega] at ht
  rw [ht, List.take_left]
/-- the list of the contexts in use -/
def uL (S : Nat → Rx) : List Nat := usedL S 16
def uAt (S : Nat → Rx) (j : Nat) : Nat := (uL S).getD j 0
theorem uAt_mem (S : Nat → Rx) (j : Nat) (hj : j < (uL S).length) : uAt S j < 16 ∧ (S (uAt S j)).used = true := by
  unfold uAt
  rw [List.getD, List.getElem?_eq_getElem hj]
  exact usedL_mem S 16 _ (List.getElem_mem hj)
theorem take_snoc_at (S : Nat → Rx) (pre : List Nat) (h : pre = (uL S).take pre.length) (hj : pre.length < (uL S).length) : pre ++ [uAt S pre.length] = (uL S).take (pre ++ [uAt S pre.length]).length := by
  rw [List.length_append, List.length_singleton, List.take_succ_eq_append_getElem hj, ← h]
  unfold uAt
  rw [List.getD, List.getElem?_eq_getElem hj]; rfl
theorem not_take_snoc (S : Nat → Rx) (pre : List Nat) (x : Nat) (_h : pre = (uL S).take pre.length) (hj : pre.length < (uL S).length) (hx : x ≠ uAt S pre.length) : pre ++ [x] ≠ (uL S).take (pre ++ [x]).length := by
  intro e
  rw [List.length_append, List.length_singleton, List.take_succ_eq_append_getElem hj] at e
  have e2 := List.append_inj_right' e rfl
  have e3 : x = (uL S)[pre.length] := by simpa using e2
  apply hx
  rw [e3]
  unfold uAt
  rw [List.getD, List.getElem?_eq_getElem hj]; rfl
theorem uL_len (S : Nat → Rx) : (uL S).length ≤ 16 := usedL_len S 16
/-- the law's own variables -/
structure QC (many : Int) (S : Nat → Rx) (C : Nat → Cx) (T : Int) (b0 wb ab : Nat) (A : Option Addr) (cp : Nat) (B : Nat) (W : World) : Prop where
  many : Blk W b0 3 #[.int .i64 many]
  out : Blk W (b0 + 1) 4 #[.bool false]
  ref : RB W wb C T
  box : Blk W ab 43 #[.slice A (uL S).length cp]
  row : Row W B A (uL S).length (fun j => .int .i64 (uAt S j : Nat))
  lt : b0 + 1 < B ∧ wb < B ∧ ab < B
theorem QC.next {many : Int} {S : Nat → Rx} {C : Nat → Cx} {T : Int} {b0 wb ab : Nat} {A : Option Addr} {cp B D : Nat} {W U : World} (h : QC many S C T b0 wb ab A cp B W) (hb : Below D W U) (hD : B ≤ D) : QC many S C T b0 wb ab A cp B U :=
  ⟨h.many.below hb (by have := h.lt; omega), h.out.below hb (by have := h.lt; omega), h.ref.below hb (by have := h.lt; omega), h.box.below hb (by have := h.lt; omega), h.row.below (hb.mono hD), h.lt⟩

theorem QC.keep {many : Int} {S : Nat → Rx} {C : Nat → Cx} {T : Int} {b0 wb ab : Nat} {A : Option Addr} {cp B g : Nat} {W U : World} (h : QC many S C T b0 wb ab A cp B W) (k : Keep1 g W U) (hB : B ≤ W.heap.size) (hg : b0 ≠ g ∧ b0 + 1 ≠ g ∧ wb ≠ g ∧ ab ≠ g) (hA : ∀ a, A = some a → a.block ≠ g) : QC many S C T b0 wb ab A cp B U :=
  ⟨k.blk h.many hg.1, k.blk h.out hg.2.1, k.blk h.ref hg.2.2.1, k.blk h.box hg.2.2.2, k.row h.row hB hA, h.lt⟩
theorem QC.more {many : Int} {S : Nat → Rx} {C : Nat → Cx} {T : Int} {b0 wb ab : Nat} {A : Option Addr} {cp B B' : Nat} {W : World} (h : QC many S C T b0 wb ab A cp B W) (hB : B ≤ B') : QC many S C T b0 wb ab A cp B' W :=
  ⟨h.many, h.out, h.ref, h.box, h.row.more hB, by have := h.lt; omega⟩
theorem QC.plain {many : Int} {S : Nat → Rx} {C : Nat → Cx} {T : Int} {b0 wb ab : Nat} {A : Option Addr} {cp B : Nat} {W : World} (h : QC many S C T b0 wb ab A cp B W) : W.cell? ⟨b0, 0, none⟩ = some (.int .i64 many) ∧ W.cell? ⟨b0 + 1, 0, none⟩ = some (.bool false) ∧ W.frozen? ⟨b0 + 1, 0, none⟩ = false ∧ W.cell? ⟨ab, 0, none⟩ = some (.slice A (uL S).length cp) :=
  ⟨h.many.cell 0, h.out.cell 0, h.out.frozen 0, h.box.cell 0⟩
theorem len_snoc' (pre : List Nat) (x : Nat) : (((pre ++ [x]).length : Nat) : Int) = (pre.length : Int) + 1 := by simp
set_option linter.unusedVariables false in
set_option maxRecDepth 100000 in
set_option maxHeartbeats 12800000 in
theorem contexts_walk (A : Option Addr) (m c : Nat) (wh : Nat → Int) (PA : Nat → Option Addr) (pn pc : Nat → Nat) (z : Nat → Nat → Int) (many : Int) (w : World) (hA : Acts w A m wh PA pn pc z) (hmx : m ≤ maxLen) :
    Calls Try.prog 12 #[.slice A m c, .int .i64 many] w fun e w' => e = .returned (.bool true) ∧ Below w.heap.size w w' := by
  have HW := Lib.hid (fun W => works43_true W)
  obtain ⟨wB, hwB⟩ : ∃ wB, wB = (w.alloc (.cells #[.int .i64 many] 3)).alloc (.cells #[.bool false] 4) := ⟨_, rfl⟩
  obtain ⟨b0, hb0⟩ : ∃ b0, b0 = w.heap.size := ⟨_, rfl⟩
  have M0 := Lib.hid (show Blk wB b0 3 #[.int .i64 many] from by rw [hwB, hb0]; exact (Blk.new _ _ _).alloc _)
  have O0 := Lib.hid (show Blk wB (b0 + 1) 4 #[.bool false] from by rw [hwB, hb0]; exact blk_at _ _ _ _ (by simp))
  have B0 := Lib.hid (show Below w.heap.size w wB from by rw [hwB]; exact ((Below.refl _ w).alloc (Nat.le_refl _) _).alloc (by simp) _)
  have hzB : wB.heap.size = w.heap.size + 2 := by rw [hwB]; simp
  have HB0 := Lib.hid hb0
  have AB := Lib.hid (hA.below B0.out)
  have HWB := Lib.hid hwB
  have HSB := Lib.hid hzB
  have hbl : b0 + 1 < wB.heap.size := by omega
  clear hA hwB hzB hb0
  refine (callsIn_wide (n := 8)).1 ?_
  refine callsIn_of_wp_marks Try.func12 rfl trivial ?_ rfl
  simp only [Try.ntmps12, List.size_toArray, List.length_cons, List.length_nil, Nat.reduceAdd, Nat.reduceSub, Array.replicate_succ, Array.replicate_zero, List.push_toArray, List.append_toArray, List.nil_append, List.cons_append]
  refine wpIn_wide.2 ?_
  by_cases hfew : ((m : Int) ≤ 40 ∧ ∀ k, k < m → pn k ≤ 100)
  rotate_left
  · have HF := Lib.hid (few_no A m c 40 wh PA pn pc z wB AB.out hfew hmx)
    clear hfew hmx
    go_upto_region 1 with (fail)
    rw [← HWB.out, ← HB0.out]
    go_wp2_with (first
      | (go_at_call 37; refine (HF.out).mono ?_; rintro e w1 ⟨rfl, rfl⟩)
      | (go_at_call 30; refine (HW.out _).mono ?_; rintro e w1 ⟨rfl, hB1⟩; have q9 := (O0.out.below hB1 hbl).cell 0; have q9f := (O0.out.below hB1 hbl).frozen 0))
    have h5 : (w1.setCell ⟨b0 + 1, 0, none⟩ (.bool true)).cell? ⟨b0 + 1, 0, none⟩ = some (.bool true) := World.cell?_setCell_same' w1 ⟨b0 + 1, 0, none⟩ (.bool true) (by rw [q9]; rfl)
    refine ⟨.bool true, ?_, rfl, ?_⟩
    · simp [results, go_sem, h5]
    · have hb := HB0.out
      exact (below_step B0.out hB1).setCell (p := ⟨b0 + 1, 0, none⟩) (by show w.heap.size ≤ b0 + 1; omega) _
  have HF := Lib.hid (few_yes A m c 40 wh PA pn pc z wB AB.out hfew.1 hfew.2 hmx)
  have HALL := Lib.hid hfew.2
  have hm40 := hfew.1
  have HNW := Lib.hid (fun W => rnew_ok W)
  have hz0 := zero70
  obtain ⟨L0, hL0⟩ : ∃ L0, L0 = rcArr (fun _ => Cx.new) 0 := ⟨_, rfl⟩
  obtain ⟨Z, hZ⟩ : ∃ Z, Z = rcArr (fun _ => zeroC) 0 := ⟨_, rfl⟩
  rw [← hL0] at HNW
  rw [← hZ] at hz0
  have HL0 := Lib.hid hL0
  have HSZ0 : Hid ((Try.prog.info? 70).map (·.size) = some L0.size) := Lib.hid (by rw [hL0, rcArr_size]; exact size70)
  have HZ0 : Hid (Z.size = L0.size) := Lib.hid (by rw [hL0, hZ, rcArr_size, rcArr_size])
  have HO0 : Hid (L0.all (·.oneCell') = true) := Lib.hid (by rw [hL0]; exact rc_one _ _)
  clear hfew hL0 hZ hmx
  go_upto_region 1 with (fail)
  rw [← HWB.out, ← HB0.out]
  go_upto_region 4 with (first
    | (go_at_call 37; refine (HF.out).mono ?_; rintro e w1 ⟨rfl, rfl⟩)
    | (go_at_call 31; refine (new_ok2 _).mono ?_; rintro e w1 ⟨rfl, hK1, hB1⟩; have K1 := Lib.hid hK1; have B1 := Lib.hid hB1; clear hK1 hB1)
    | (go_at_call 38; refine (HNW.out w1).mono ?_; rintro e w2 ⟨rfl, hB2⟩; have B2 := Lib.hid hB2; clear hB2)
    | (refine wpList_store_row rfl _ _ _ rfl w2.heap.size L0 rfl rfl 70 Z (Blk.new w2 _ _) HSZ0.out HZ0.out HO0.out ?_))
  obtain ⟨wb, hwb⟩ : ∃ wb, wb = w2.heap.size := ⟨_, rfl⟩
  obtain ⟨W3, hW3⟩ : ∃ W3, W3 = (w2.alloc (.cells Z 70)).setRow w2.heap.size L0 := ⟨_, rfl⟩
  have SD := Lib.hid (show Side wB wb wB.heap.size 0 W3 from by
    have hb23 : Below w2.heap.size w2 W3 := by rw [hW3]; exact belowRow ((Below.refl _ w2).alloc (Nat.le_refl _) _) (Nat.le_refl _) _
    have hb13 : Below w1.heap.size w1 W3 := B2.out.trans (hb23.mono B2.out.size)
    refine ⟨S0, fun _ => Cx.new, K1.out.below hb13 K1.out.lt, fun _ => alike_new, ?_, Int.le_refl _, Nat.le_refl _, ?_, B1.out.trans (hb13.mono B1.out.size)⟩
    · rw [hwb, hW3, ← HL0.out]; exact Blk.setRow (Blk.new w2 _ _)
    · have := K1.out.lt; have := B2.out.size; omega)
  rw [← hW3, ← hwb]
  have hwbw : wB.heap.size < wb := by have := K1.out.lt; have := B2.out.size; omega
  clear hW3 hwb
  go_wp2
  go_loopw [5, 7] (fun v3 v5 wr => ∃ (k gc : Nat) (T : Int), k ≤ m ∧ v5 = .int .i64 k ∧ v3 = .pointer (some ⟨gc, 0, none⟩) ∧ T ≤ k ∧ Side wB wb gc T wr) (fun _ v5 _ => m - (intOf v5).toNat)
  case atStart => exact ⟨0, wB.heap.size, 0, by omega, rfl, rfl, by omega, SD.out⟩
  case round =>
    obtain ⟨k, gc, T, hk, rfl, rfl, hTk, S, C, hKc, hAl, hWb, hT0, hgc, hgw, hBr⟩ := hrel
    by_cases hlt : k < m
    · obtain ⟨lb, lo, rfl, hlb, hcl⟩ := AB.out.at_ (by omega)
      obtain ⟨q0, q1⟩ := hcl k hlt
      have HACT := Lib.hid (fun (W : World) (hK : CB W gc true S T) (hR : Row W W.heap.size (PA k) (pn k) (fun j => .int .u8 (z k j))) => (act_ok gc S T C (wh k) (PA k) (pn k) (pc k) (z k) (HALL.out k hlt) (AB.out.cap k hlt) (AB.out.byte k hlt) ⟨hT0, by omega⟩ hAl W hK hR (fun a e h0 => by
        obtain ⟨b, off, e2, hb, _⟩ := AB.out.row k hlt (by omega)
        rw [e] at e2; cases e2
        show b ≠ gc; omega)).mono fun _ _ h => aend_of h)
      unfold AEnd at HACT
      have KC := Lib.hid hKc
      have WB := Lib.hid hWb
      have BR := Lib.hid hBr
      obtain ⟨Ll, hLl⟩ : ∃ Ll : List Value, Ll = (rcArr C T).toList := ⟨_, rfl⟩
      have hLa : rcArr C T = Ll.toArray := by rw [hLl]
      have hl225 : Ll.length = 225 := by rw [hLl, Array.length_toList, rcArr_size]
      have hiz : (Try.prog.info? 70).map (·.size) = some Ll.length := by rw [hl225]; exact size70
      have hu := Try.underlying70
      rw [hLa] at HACT
      have WB2 := Lib.hid (show Blk wr wb 70 Ll.toArray from by rw [← hLa]; exact hWb)
      have RK := Lib.hid (show Row wr wr.heap.size (PA k) (pn k) (fun j => .int .u8 (z k j)) from ((AB.out.row k hlt).below hBr).more hBr.size)
      have hgcl := hKc.lt
      have hwbl := hWb.lt
      have hbrs := hBr.size
      have lg : lb ≠ gc := by omega
      have hq0 : ∀ W : World, KB wr gc wb W → W.cell? ⟨lb, lo + k * 2, none⟩ = some (.int .i64 (wh k)) := fun W hW => (World.cell?_of_block (hW.2 lb (by omega) lg (by omega))).trans ((hBr.cell (p := ⟨lb, lo + k * 2, none⟩) hlb).trans q0)
      have hq1 : ∀ W : World, KB wr gc wb W → W.cell? ⟨lb, lo + k * 2 + 1, none⟩ = some (.slice (PA k) (pn k) (pc k)) := fun W hW => (World.cell?_of_block (hW.2 lb (by omega) lg (by omega))).trans ((hBr.cell (p := ⟨lb, lo + k * 2 + 1, none⟩) hlb).trans q1)
      have HQ0 := Lib.hid hq0
      have HQ1 := Lib.hid hq1
      have k0 : (0 : Int) ≤ (k : Int) := by omega
      have k1 : (k : Int) < (m : Int) := by omega
      clear hKc hWb hBr hAl hLl hLa hq0 hq1 q0 q1 hcl
      go_upto_region 7 with (fail)
      refine wp_onlyN ?_
      refine wp_region_held_drew (S := fun w' => KB wr gc wb w') (by kernel_rfl) ⟨Nat.le_refl _, fun _ _ _ _ => rfl⟩ (fun hHeld => ?_)
      refine wpAnyH_take (i := 0) (oi := ⟨some 28, _, _, _, _, _⟩) (v := .pointer (some ⟨gc, 0, none⟩)) rfl (by kernel_rfl) (by kernel_rfl) (by kernel_rfl) (fun _ _ _ h => h) (Or.inl ⟨by rfl, fun W hW => (by rfl)⟩) (by assumption) ?_
      try simp only [Act.put, List.setIfInBounds_toArray, List.set_cons_zero, List.set_cons_succ]
      refine wpAnyH_take (i := 2) (oi := ⟨some 30, _, _, _, _, _⟩) (v := .slice (some ⟨lb, lo, none⟩) m c) rfl (by kernel_rfl) (by kernel_rfl) (by kernel_rfl) (fun _ _ _ h => h) (Or.inl ⟨by rfl, fun W hW => (by rfl)⟩) (by assumption) ?_
      try simp only [Act.put, List.setIfInBounds_toArray, List.set_cons_zero, List.set_cons_succ]
      refine wpAnyH_take (i := 3) (oi := ⟨some 31, _, _, _, _, _⟩) (v := .int .i64 (k : Int)) rfl (by kernel_rfl) (by kernel_rfl) (by kernel_rfl) (fun _ _ _ h => h) (Or.inl ⟨by rfl, fun W hW => (by rfl)⟩) (by assumption) ?_
      try simp only [Act.put, List.setIfInBounds_toArray, List.set_cons_zero, List.set_cons_succ]
      refine wpAnyH_take (i := 4) (oi := ⟨some 32, _, _, _, _, _⟩) (v := .pointer (some ⟨lb, lo + k * 2, none⟩)) rfl (by kernel_rfl) (by kernel_rfl) (by kernel_rfl) (fun _ _ _ h => h) (Or.inl ⟨by rfl, fun W hW => (by go_simp)⟩) (by assumption) ?_
      try simp only [Act.put, List.setIfInBounds_toArray, List.set_cons_zero, List.set_cons_succ]
      refine wpAnyH_take (i := 5) (oi := ⟨some 33, _, _, _, _, _⟩) (v := .agg #[.int .i64 (wh k), .slice (PA k) (pn k) (pc k)]) rfl (by kernel_rfl) (by kernel_rfl) (by kernel_rfl) (fun _ _ _ h => h) (Or.inl ⟨by rfl, fun W hW => (by have s0 := HQ0.out W hW; have s1 := HQ1.out W hW; go_simp)⟩) (by assumption) ?_
      try simp only [Act.put, List.setIfInBounds_toArray, List.set_cons_zero, List.set_cons_succ]
      refine wpAnyH_ready (rs := [1]) (by kernel_rfl) (by simp) ?_
      refine AllReadyH.cons (o := ⟨some 29, _, _, _, _, _⟩) rfl (fun K hK => ?_) AllReadyH.nil
      rw [if_pos (by rfl)]
      refine wp_load_mid _ _ rfl wb 0 rfl Ll _ (WB2.out.drew.range Ll rfl) hu rfl hiz ?_
      refine hK.out _ _ ⟨Nat.le_refl _, fun _ _ _ _ => rfl⟩ (fun hHeld => ?_)
      clear hK K
      try simp only [Act.put, List.setIfInBounds_toArray, List.set_cons_zero, List.set_cons_succ]
      refine wpAnyH_ready (rs := [6]) (by kernel_rfl) (by simp) ?_
      refine AllReadyH.cons (o := ⟨some 34, _, _, _, _, _⟩) rfl (fun K hK => ?_) AllReadyH.nil
      go_simp
      refine (HACT.out wr.drew KC.out.drew RK.out.drew).mono ?_
      rintro e w6 ⟨g', S', C', T', Lp, rfl, HLP, K6, HAl6, h06, hT6, hg6, E6, HSP, HNP, HOP⟩
      dsimp only
      refine hK.out _ _ ((show KB wr gc wb wr.drew from ⟨Nat.le_refl _, fun _ _ _ _ => rfl⟩).keep E6.out) (fun hHeld => ?_)
      clear hK K
      try simp only [Act.put, List.setIfInBounds_toArray, List.set_cons_zero, List.set_cons_succ]
      refine wpAnyH_take (i := 7) (oi := ⟨some 27, _, _, _, _, _⟩) (v := .tuple #[.pointer (some ⟨g', 0, none⟩), .agg Lp, .bool true]) rfl (by kernel_rfl) (by kernel_rfl) (by kernel_rfl) (fun _ _ _ h => h) (Or.inl ⟨by rfl, fun W hW => (by rfl)⟩) (by assumption) ?_
      try simp only [Act.put, List.setIfInBounds_toArray, List.set_cons_zero, List.set_cons_succ]
      refine wpAnyH_take (i := 8) (oi := ⟨some 35, _, _, _, _, _⟩) (v := .pointer (some ⟨g', 0, none⟩)) rfl (by kernel_rfl) (by kernel_rfl) (by kernel_rfl) (fun _ _ _ h => h) (Or.inl ⟨by rfl, fun W hW => (by go_simp)⟩) (by assumption) ?_
      try simp only [Act.put, List.setIfInBounds_toArray, List.set_cons_zero, List.set_cons_succ]
      refine wpAnyH_take (i := 9) (oi := ⟨some 36, _, _, _, _, _⟩) (v := .agg Lp) rfl (by kernel_rfl) (by kernel_rfl) (by kernel_rfl) (fun _ _ _ h => h) (Or.inl ⟨by rfl, fun W hW => (by go_simp)⟩) (by assumption) ?_
      try simp only [Act.put, List.setIfInBounds_toArray, List.set_cons_zero, List.set_cons_succ]
      refine wpAnyH_take (i := 10) (oi := ⟨some 37, _, _, _, _, _⟩) (v := .bool true) rfl (by kernel_rfl) (by kernel_rfl) (by kernel_rfl) (fun _ _ _ h => h) (Or.inl ⟨by rfl, fun W hW => (by go_simp)⟩) (by assumption) ?_
      try simp only [Act.put, List.setIfInBounds_toArray, List.set_cons_zero, List.set_cons_succ]
      refine wpAnyH_take (i := 11) (oi := ⟨some 5, _, _, _, _, _⟩) (v := .pointer (some ⟨g', 0, none⟩)) rfl (by kernel_rfl) (by kernel_rfl) (by kernel_rfl) (fun _ _ _ h => h) (Or.inl ⟨by rfl, fun W hW => (by rfl)⟩) (by assumption) ?_
      try simp only [Act.put, List.setIfInBounds_toArray, List.set_cons_zero, List.set_cons_succ]
      refine wpAnyH_ready (rs := [12]) (by kernel_rfl) (by simp) ?_
      refine AllReadyH.cons (o := ⟨none, _, _, _, _, _⟩) rfl (fun K hK => ?_) AllReadyH.nil
      rw [if_pos (by rfl)]
      have VB := Lib.hid (show Blk w6 wb 70 Ll.toArray from E6.out.blk WB2.out.drew (fun e => hgw e.symm))
      have hw6 : wr.heap.size ≤ w6.heap.size := E6.out.size
      refine wp_store_mid _ _ _ rfl wb 0 Lp rfl rfl (by have := VB.out.there 225 (by simp [hl225]); simpa [HNP.out] using this) HSP.out HOP.out ?_
      have KS : Keep1 wb w6 (w6.setCells wb 0 Lp.toList) := grownBy_setCells wb Lp.toList 0 w6
      refine hK.out _ _ (hHeld.keepo KS) (fun hHeld => ?_)
      clear hK K
      simp only [Act.put]
      refine wpAnyH_done (by kernel_rfl) ?_ _
      dsimp only [onlyNormal]
      have KF := Lib.hid (show CB (w6.setCells wb 0 Lp.toList) g' true S' T' from KS.blk K6.out (by rcases hg6 with h | h; (rw [h]; exact hgw); (have h' : wr.heap.size ≤ g' := h; omega)))
      have WF := Lib.hid (show Blk (w6.setCells wb 0 Lp.toList) wb 70 (rcArr C' T') from by rw [← HLP.out]; simpa using Blk.setWhole VB.out Lp.toList (by simp [hl225, HNP.out]))
      have BF := Lib.hid (show Below wB.heap.size wB (w6.setCells wb 0 Lp.toList) from below_setCells (below_keep BR.out.drew E6.out hgc hbrs) (by omega) (by omega) _ _)
      have hg1 : wB.heap.size ≤ g' := by rcases hg6 with h | h; omega; (have h' : wr.heap.size ≤ g' := h; omega)
      have hg2 : g' ≠ wb := by rcases hg6 with h | h; (rw [h]; exact hgw); (have h' : wr.heap.size ≤ g' := h; omega)
      go_wp2
      go_roundw
      case rel => first | exact ⟨k + 1, g', T', by omega, by go_num, rfl, by omega, S', C', KF.out, HAl6.out, WF.out, h06, hg1, hg2, BF.out⟩ | ((repeat apply Exists.intro); exact ⟨⟨k + 1, g', T', by omega, by go_num, rfl, by omega, S', C', KF.out, HAl6.out, WF.out, h06, hg1, hg2, BF.out⟩, rfl⟩)
      case measure => simp [intOf]; omega
    · obtain rfl : k = m := by omega
      obtain ⟨w7, rfl⟩ : ∃ w7 : World, w7 = wr := ⟨_, rfl⟩
      obtain ⟨i0, hi0, hz1, hz2, hz3⟩ := info_parts Try.infoInt
      have hgcl := hKc.lt
      have hwbl := hWb.lt
      have hbrs := hBr.size
      obtain ⟨ab, hab⟩ : ∃ ab, ab = w7.heap.size := ⟨_, rfl⟩
      obtain ⟨W8, hW8⟩ : ∃ W8, W8 = w7.alloc (.cells #[.slice none 0 0] 43) := ⟨_, rfl⟩
      have b8 : Below ab w7 W8 := by rw [hW8, hab]; exact (Below.refl _ w7).alloc (Nat.le_refl _) _
      have X8 : Boxed W8 ab 43 (.slice none 0 0) := by rw [hW8, hab]; exact Boxed.new w7 _ _
      have hgca : gc < ab := by omega
      have hwba : wb < ab := by omega
      have hba : b0 + 1 < ab := by omega
      have KC := Lib.hid hKc
      have WB := Lib.hid (show RB w7 wb C T from hWb)
      have BR := Lib.hid hBr
      have MR := Lib.hid (M0.out.below hBr (by omega))
      have OR := Lib.hid (O0.out.below hBr (by omega))
      have HAL := Lib.hid hAl
      have HW8 := Lib.hid hW8
      have HAB := Lib.hid hab
      have HUS := Lib.hid (fun i => (hAl i).used)
      have hz8 : ab ≤ W8.heap.size := by rw [hW8, World.size_alloc]; omega
      clear hKc hWb hBr hAl hW8
      go_upto_region 9 with (fail)
      rw [← HW8.out, ← HAB.out]
      clear hab
      go_wp2
      go_loopw [9] (fun v wq => ∃ i : Nat, i ≤ 16 ∧ v = .int .i64 i ∧ (∃ sv, Boxed wq ab 43 sv ∧ wq.ownsRow ab 3 1 sv (usedL S i).length ((usedL S i).map fun k => Value.int .i64 (k : Nat))) ∧ Below ab w7 wq ∧ ab ≤ wq.heap.size) (fun v _ => 16 - (intOf v).toNat)
      case atStart => exact ⟨0, by omega, rfl, ⟨_, X8, World.ownsRow_nil _ _ _ _⟩, b8, hz8⟩
      case round =>
        obtain ⟨i, hi, rfl, ⟨sv, hsv, hown⟩, hBq, hsq⟩ := hrel
        have hul := usedL_len S i
        by_cases hlt2 : i < 16
        · have i0' : (0 : Int) ≤ (i : Int) := by omega
          have i1' : (i : Int) < 16 := by omega
          have cu : wr.cell? ⟨wb, i * 14, none⟩ = some (.bool (C i).used) := (WB.out.below hBq hwba).ctx (o := i * 14) hlt2 0 (by decide) (by omega)
          have hc := hsv.cell
          have HUL := Lib.hid (show usedL S (i + 1) = if (S i).used then usedL S i ++ [i] else usedL S i from rfl)
          obtain ⟨u, hu⟩ : ∃ u, u = (C i).used := ⟨_, rfl⟩
          have hus : (S i).used = u := (HUS.out i).trans hu.symm
          rw [← hu] at cu
          rw [hus] at HUL
          clear hu hus
          cases u
          · go_wp2
            go_roundw
            case rel => first | exact ⟨i + 1, by omega, by go_num, ⟨sv, hsv, by rw [HUL.out]; exact hown⟩, hBq, hsq⟩ | ((repeat apply Exists.intro); exact ⟨⟨i + 1, by omega, by go_num, ⟨sv, hsv, by rw [HUL.out]; exact hown⟩, hBq, hsq⟩, rfl⟩)
            case measure => simp [intOf]; omega
          · go_wp2_with (at_builtin; refine wpList_append_own _ rfl _ _ 43 rfl ab 3 i0 (.int .i64 0) 1 8 Try.underlying43 hi0 hz1 hz2 hz3 rfl (by decide) _ _ _ rfl (hown.alloc _) ⟨wr.heap.size, 0, none⟩ 1 1 [.int .i64 (i : Nat)] rfl rfl (cell_one_new _ _ _) (by simp [Value.oneCell']) (by unfold maxLen; omega) (by omega) (by simp; omega) ?_; intro v' w1 hown' hgrow _; obtain ⟨g', cap', rfl⟩ := ownsRow_succ hown'; obtain ⟨hv1, hv2, hr2, hk2, hb2⟩ := hsv.appended (by decide) hown hsq (Nat.le_refl _) hown' hgrow; have hc1 := hv1.cell; have hf1 := hv1.frozen; have hs1 : ab ≤ w1.heap.size := Nat.le_trans hsq (by have := hb2.size; simpa using this))
            go_roundw
            case rel => first | exact ⟨i + 1, by omega, by go_num, ⟨_, hv2, by rw [HUL.out]; simpa using hr2⟩, hBq.trans hb2, by simpa using hs1⟩ | ((repeat apply Exists.intro); exact ⟨⟨i + 1, by omega, by go_num, ⟨_, hv2, by rw [HUL.out]; simpa using hr2⟩, hBq.trans hb2, by simpa using hs1⟩, rfl⟩)
            case measure => simp [intOf]; omega
        · obtain rfl : i = 16 := by omega
          obtain ⟨A9, cp, rfl, hcp, hcpm, hfr, hrow⟩ := own_any (f := fun j => .int .i64 (uAt S j : Nat)) hown (fun j hj => by
            have hj' : j < (uL S).length := hj
            rw [List.getElem?_map, List.getElem?_eq_getElem hj]
            unfold uAt uL
            rw [List.getD, List.getElem?_eq_getElem hj]; rfl)
          have K9 := Lib.hid (KC.out.below hBq hgca)
          have Q9 := Lib.hid (show QC many S C T b0 wb ab A9 cp wr.heap.size wr from ⟨MR.out.below hBq (by omega), OR.out.below hBq (by omega), WB.out.below hBq hwba, hsv, hrow, by omega, by omega, hsv.lt⟩)
          have BB9 := Lib.hid (BR.out.trans (hBq.mono (by omega)))
          have HFR := Lib.hid hfr
          have hnn := seq43_nn wr.heap.size
          have HOK := Lib.hid (fun i (_ : i < 16) => (HAL.out i).ok)
          clear hown hfr hrow hsv
          go_upto_region 18 with (first
            | (go_at_call 40; refine (contexts_made gc S T _ K9.out).mono ?_; rintro e w10 ⟨rfl, hF10, hB10⟩; have F10 := Lib.hid hF10; have K10 := Lib.hid (K9.out.below hB10 K9.out.lt); have E10 := Lib.hid hB10; clear hF10 hB10)
            | (go_at_call 41; refine (packet_ok 1 (by decide) w10).mono ?_; rintro e w11 ⟨pb, pc2, rfl, hpc, hpb, hR11, hB11⟩; have K11 := Lib.hid (K10.out.below hB11 K10.out.lt); have R11 := Lib.hid hR11; have F11 := Lib.hid (F10.out.below hB11 F10.out.lt); have E11 := Lib.hid (below_step E10.out hB11); have hpg : pb ≠ gc := (by have := K10.out.lt; omega); clear hR11 hB11)
            | (go_at_call 32; refine (compress_any gc S T (some ⟨pb, 0, none⟩) 21 pc2 (wpk 1) w11 K11.out HOK.out ⟨hT0, by omega⟩ hpc (wpk_byte 1 (by decide)) R11.out (fun a e => by cases e; exact hpg)).mono ?_; rintro e w12 ⟨A12, c12, rfl, hc12, hF12, hR12, hK12, hE12⟩; have F12 := Lib.hid (hE12.blk F11.out (by omega)); have E12 := Lib.hid hE12; clear hF12 hR12 hK12 hE12))
          obtain ⟨w2, rfl⟩ : ∃ w2 : World, w2 = w12 := ⟨_, rfl⟩
          obtain ⟨w9, rfl⟩ : ∃ w9 : World, w9 = wr := ⟨_, rfl⟩
          have hsz11 : w9.heap.size ≤ w11.heap.size := E11.out.size
          have hsz12 : w11.heap.size ≤ w2.heap.size := E12.out.size
          have hab9 : ab < w9.heap.size := Q9.out.lt.2.2
          have Q2 := Lib.hid (((Q9.out.next E11.out (Nat.le_refl _)).keep E12.out hsz11 (by omega) (fun a e => by have := HFR.out a e; omega)).more (show w9.heap.size ≤ w2.heap.size by omega))
          have BB2 := Lib.hid (show Below w.heap.size w w2 from below_step B0.out (below_keep (BB9.out.trans (E11.out.mono BB9.out.size)) E12.out hgc (by have := BB9.out.size; omega)))
          obtain ⟨fb, hfb⟩ : ∃ fb, fb = w9.heap.size := ⟨_, rfl⟩
          rw [← hfb] at F12 hnn ⊢
          have hwz : w.heap.size < w2.heap.size := by have := BB9.out.size; have := B0.out.size; have := HB0.out; omega
          have hb0w : w.heap.size = b0 := HB0.out.symm
          have HFB := Lib.hid hfb
          clear hfb
          go_wp2
          refine (wpIn_wide (n := 8)).1 ?_
          refine wpIn_loop_rounds 3 ?_
          rw [roundsIn_succ]
          gi_wp2
          obtain ⟨W0, hW0⟩ : ∃ W0, W0 = (w2.alloc (.cells #[.int .i64 0] 3)).alloc (.cells #[.int .i64 0] 3) := ⟨_, rfl⟩
          have b0' : Below w2.heap.size w2 W0 := by rw [hW0]; exact ((Below.refl w2.heap.size w2).alloc (Nat.le_refl _) _).alloc (by simp) _
          have z0 : W0.heap.size = w2.heap.size + 2 := by rw [hW0]; simp
          have t0 : Blk W0 w2.heap.size 3 #[.int .i64 0] := by rw [hW0]; exact (Blk.new _ _ _).alloc _
          have n0 : Blk W0 (w2.heap.size + 1) 3 #[.int .i64 0] := by rw [hW0]; exact blk_at _ _ _ _ (by simp)
          rw [← hW0]
          have HW0 := Lib.hid hW0
          clear hW0
          have z0' : w2.heap.size + 2 ≤ W0.heap.size := by omega
          have hc0 : ∀ (W : World), Below (w2.heap.size + 1) W0 W → QC many S C T b0 wb ab A9 cp w2.heap.size W ∧ Blk W w2.heap.size 3 #[.int .i64 0] := by
            intro W hb
            exact ⟨Q2.out.next (b0'.trans (hb.mono (by omega))) (Nat.le_refl _), t0.below hb (by omega)⟩
          have HC0 := Lib.hid hc0
          clear hc0
          have hN := uL_len S
          have HNL := Lib.hid (show (usedL S 16).length = (uL S).length from rfl)
          refine wpIn_rangeFunc_box rfl (by decide) (gf := 71) (lb := #[.pointer (some ⟨fb, 0, none⟩)]) rfl trivial (enters_of Try.func71 (by kernel_rfl) rfl)
            (ctx_stops S fb 7 W0 (F12.out.below b0' F12.out.lt) (by decide)) (fun _ _ => trivial) (fun _ _ _ _ _ _ _ _ => trivial) (Below.refl _ _) (fun _ => rfl)
            (fun pre W => (W.cell? ⟨w2.heap.size + 1, 0, none⟩ = some (.int .i64 (pre.length : Nat)) ∧ W.frozen? ⟨w2.heap.size + 1, 0, none⟩ = false ∧ pre = (uL S).take pre.length ∧ (pre.length = 0 ∨ ((pre.length : Nat) : Int) < many)) ∧ Below (w2.heap.size + 1) W0 W)
            (fun c pre W => ((c = .ret ∧ pre ≠ (uL S).take pre.length) ∨ (c = .exit 6 ∧ W.cell? ⟨w2.heap.size + 1, 0, none⟩ = some (.int .i64 (pre.length : Nat)) ∧ many ≤ ((pre.length : Nat) : Int) ∧ 1 ≤ pre.length ∧ (pre.length = 1 ∨ ((pre.length : Nat) : Int) ≤ many) ∧ Below (w2.heap.size + 1) W0 W)))
            (OwnFrom.and (Own.from (fun s A B row hs hg hr => ⟨cell_kept hs.1 hg hr, (frozen_kept hs.1 hg hr).trans hs.2.1, hs.2.2⟩) _) (ownFrom_below (by omega) (by omega)))
            (fun c s A B row hs hg hr => ?ixown)
            ⟨⟨n0.cell 0, n0.frozen 0, rfl, .inl rfl⟩, Below.refl _ _⟩
            (fun x q W => Blk W q 52 #[.int .i64 (S x).f0, .int .i64 (S x).f1, .int .i64 (S x).f2, .int .i64 (S x).f3, .int .i64 (S x).f4]) (fun _ _ => blk_own)
            ?a1 ?assign ?body ?done ?stop
          case ixown =>
            rcases hs with hs | ⟨h1, h2, h3, h4, h5, h6⟩
            · exact .inl hs
            · exact .inr ⟨h1, cell_kept h2 hg (fun r e => (hr r e).2), h3, h4, h5, ownFrom_below (β := List Nat) (n₀ := w2.heap.size + 1) (w₀ := W0) (B := W0.heap.size) (by omega) (by omega) s A B row h6 hg hr⟩
          case assign =>
            rintro l pre x W K ⟨⟨hc, hf, hpre, hm⟩, hBW⟩ hK
            have hszW := hBW.size
            have HC := Lib.hid hc
            have HPR := Lib.hid hpre
            clear hc hpre
            gi_wp2
            obtain ⟨q, hq⟩ : ∃ q, q = W.heap.size := ⟨_, rfl⟩
            rw [← hq]
            exact hK q _ ((KeepsOthers.alloc W _).from _) trivial ⟨⟨(World.cell?_alloc_lt W _ ⟨w2.heap.size + 1, 0, none⟩ (by show w2.heap.size + 1 < W.heap.size; omega)).trans HC.out, (frozen?_alloc_cells _ _ _ _).trans hf, HPR.out, hm⟩, hBW.alloc (by omega) _⟩ (by rw [hq]; exact Blk.new _ _ _)
          case body =>
            rintro l pre x q W ⟨⟨hc, hf, hpre, hm⟩, hBW⟩ hq hlen
            have hlen2 : pre.length < (uL S).length := hlen
            obtain ⟨QX, TB⟩ := HC0.out W hBW
            obtain ⟨e1, e2, e2f, e3⟩ := QX.plain
            have e5 := TB.cell 0
            obtain ⟨rb, ro, rfl, hrb, hrc⟩ := QX.row (by omega)
            have hrc1 := hrc pre.length hlen2
            have HP := Lib.hid hpre
            have HM := Lib.hid hm
            have HBW := Lib.hid hBW
            have hszW := hBW.size
            have hql := hq.lt
            have ql := QX.lt
            have hn0 : (0 : Int) ≤ (pre.length : Int) := by omega
            have hn1 : (pre.length : Int) < ((uL S).length : Int) := by omega
            have hn2 : ¬ (((uL S).length : Int) ≤ (pre.length : Int)) := by omega
            have hn3 : (pre.length : Int) ≤ 16 := by omega
            have z1 : ∀ e : ExtW W, e.v.cell? ⟨w2.heap.size + 1, 0, none⟩ = some (.int .i64 (pre.length : Nat)) := fun e => e.cell hc (by show w2.heap.size + 1 < W.heap.size; omega)
            have z2 : ∀ e : ExtW W, e.v.cell? ⟨ab, 0, none⟩ = some (.slice (some ⟨rb, ro, none⟩) (uL S).length cp) := fun e => e.cell e3 (by show ab < W.heap.size; omega)
            have z3 : ∀ e : ExtW W, e.v.cell? ⟨rb, ro + pre.length, none⟩ = some (.int .i64 (uAt S pre.length : Nat)) := fun e => e.cell hrc1 (by show rb < W.heap.size; omega)
            have z40 : ∀ e : ExtW W, e.v.cell? ⟨q, 0, none⟩ = some (.int .i64 (S x).f0) := fun e => e.cell (hq.cell 0) hql
            have z41 : ∀ e : ExtW W, e.v.cell? ⟨q, 1, none⟩ = some (.int .i64 (S x).f1) := fun e => e.cell (hq.cell 1) hql
            have z42 : ∀ e : ExtW W, e.v.cell? ⟨q, 2, none⟩ = some (.int .i64 (S x).f2) := fun e => e.cell (hq.cell 2) hql
            have z43 : ∀ e : ExtW W, e.v.cell? ⟨q, 3, none⟩ = some (.int .i64 (S x).f3) := fun e => e.cell (hq.cell 3) hql
            have z44 : ∀ e : ExtW W, e.v.cell? ⟨q, 4, none⟩ = some (.int .i64 (S x).f4) := fun e => e.cell (hq.cell 4) hql
            have HRC := Lib.hid hrc
            have HQX := Lib.hid QX
            have HCE := Lib.hid (fun e : ExtW W => (⟨e.cell hc (by show w2.heap.size + 1 < W.heap.size; omega), (e.h.frozen (p := ⟨w2.heap.size + 1, 0, none⟩) (by show w2.heap.size + 1 < W.heap.size; omega)).trans hf, e.cell e1 (by show b0 < W.heap.size; omega), e.cell e2 (by show b0 + 1 < W.heap.size; omega), (e.h.frozen (p := ⟨b0 + 1, 0, none⟩) (by show b0 + 1 < W.heap.size; omega)).trans e2f, e.cell e5 (by show w2.heap.size < W.heap.size; omega)⟩ : e.v.cell? ⟨w2.heap.size + 1, 0, none⟩ = some (.int .i64 (pre.length : Nat)) ∧ e.v.frozen? ⟨w2.heap.size + 1, 0, none⟩ = false ∧ e.v.cell? ⟨b0, 0, none⟩ = some (.int .i64 many) ∧ e.v.cell? ⟨b0 + 1, 0, none⟩ = some (.bool false) ∧ e.v.frozen? ⟨b0 + 1, 0, none⟩ = false ∧ e.v.cell? ⟨w2.heap.size, 0, none⟩ = some (.int .i64 0)))
            have HUM := Lib.hid (uAt_mem S pre.length hlen2)
            have HTK := Lib.hid (take_snoc_at S pre hpre hlen2)
            have HNT := Lib.hid (fun h => not_take_snoc S pre x hpre hlen2 h)
            have HLT := Lib.hid hlen2
            obtain ⟨nl, hnl⟩ : ∃ nl, nl = pre.length := ⟨_, rfl⟩
            obtain ⟨NL, hNL⟩ : ∃ NL, NL = (uL S).length := ⟨_, rfl⟩
            obtain ⟨ux, hux⟩ : ∃ ux, ux = uAt S nl := ⟨_, rfl⟩
            rw [← hnl] at z1 z3 HCE hn0 hn1 hn2 hn3 HTK HUM HNT HM
            rw [← hNL] at hn1 hn2 z2
            rw [← hux] at z3 HUM HTK HNT
            have HNL2 := Lib.hid hnl
            clear hpre hm hrc hrc1 QX TB hBW hc hf e1 e2 e2f e3 e5 hlen hlen2 hnl hNL hux hq
            have hd1 : decide ((NL : Int) ≤ (nl : Int)) = false := by simpa using hn2
            have hd2 : decide (NL ≤ nl) = false := by simp; omega
            by_cases hx : x = ux
            · subst hx
              obtain ⟨hx16, hxu⟩ := HUM.out
              have HSR : S x = (C x).rx := (HAL.out x).same ((HUS.out x).symm.trans hxu)
              rw [HSR] at z40 z41 z42 z43 z44
              have hx0 : (0 : Int) ≤ (x : Int) := by omega
              have hx1 : (x : Int) < 16 := by omega
              obtain ⟨_, r0, r1, r2, r3, r4, r5, r6, r7, r8, _, _, _, _⟩ := HQX.out.ref.cells (o := x * 14) hx16 (by omega)
              have hwbW : wb < W.heap.size := by omega
              have y1 : ∀ e : ExtW W, e.v.cell? ⟨wb, x * 14 + 1, none⟩ = some (.int .i64 (C x).h0) := fun e => e.cell r0 hwbW
              have y2 : ∀ e : ExtW W, e.v.cell? ⟨wb, x * 14 + 2, none⟩ = some (.int .i64 (C x).h1) := fun e => e.cell r1 hwbW
              have y3 : ∀ e : ExtW W, e.v.cell? ⟨wb, x * 14 + 3, none⟩ = some (.int .i64 (C x).h2) := fun e => e.cell r2 hwbW
              have y4 : ∀ e : ExtW W, e.v.cell? ⟨wb, x * 14 + 4, none⟩ = some (.int .i64 (C x).h3) := fun e => e.cell r3 hwbW
              have y5 : ∀ e : ExtW W, e.v.cell? ⟨wb, x * 14 + 5, none⟩ = some (.int .i64 (C x).h4) := fun e => e.cell r4 hwbW
              have y6 : ∀ e : ExtW W, e.v.cell? ⟨wb, x * 14 + 6, none⟩ = some (.int .i64 (C x).h5) := fun e => e.cell r5 hwbW
              have y7 : ∀ e : ExtW W, e.v.cell? ⟨wb, x * 14 + 7, none⟩ = some (.int .i64 (C x).h6) := fun e => e.cell r6 hwbW
              have y8 : ∀ e : ExtW W, e.v.cell? ⟨wb, x * 14 + 8, none⟩ = some (.int .i64 (C x).h7) := fun e => e.cell r7 hwbW
              have y9 : ∀ e : ExtW W, e.v.cell? ⟨wb, x * 14 + 9, none⟩ = some (.int .i64 (C x).h8) := fun e => e.cell r8 hwbW
              change ∀ e : ExtW W, e.v.cell? ⟨q, 0, none⟩ = some (.int .i64 (C x).h0) at z40
              change ∀ e : ExtW W, e.v.cell? ⟨q, 1, none⟩ = some (.int .i64 (C x).h1) at z41
              change ∀ e : ExtW W, e.v.cell? ⟨q, 2, none⟩ = some (.int .i64 (C x).h2) at z42
              change ∀ e : ExtW W, e.v.cell? ⟨q, 3, none⟩ = some (.int .i64 (C x).h3) at z43
              change ∀ e : ExtW W, e.v.cell? ⟨q, 4, none⟩ = some (.int .i64 (C x).h4) at z44
              clear HSR r0 r1 r2 r3 r4 r5 r6 r7 r8
              obtain ⟨g0, hg0⟩ : ∃ g, g = (C x).h0 := ⟨_, rfl⟩
              obtain ⟨g1, hg1⟩ : ∃ g, g = (C x).h1 := ⟨_, rfl⟩
              obtain ⟨g2, hg2⟩ : ∃ g, g = (C x).h2 := ⟨_, rfl⟩
              obtain ⟨g3, hg3⟩ : ∃ g, g = (C x).h3 := ⟨_, rfl⟩
              obtain ⟨g4, hg4⟩ : ∃ g, g = (C x).h4 := ⟨_, rfl⟩
              rw [← hg0] at y1 z40
              rw [← hg1] at y2 z41
              rw [← hg2] at y3 z42
              rw [← hg3] at y4 z43
              rw [← hg4] at y5 z44
              clear hg0 hg1 hg2 hg3 hg4
              have hfn : ∀ V : World, (binOp .neq 52 (.agg #[.int .i64 g0, .int .i64 g1, .int .i64 g2, .int .i64 g3, .int .i64 g4]) (.agg #[.int .i64 g0, .int .i64 g1, .int .i64 g2, .int .i64 g3, .int .i64 g4])).run Try.prog V = .ok (.bool false) V := fun V => by
                rw [flow_neq]; unfold sameFlow; simp
              gi_wp2
              refine wpIn_round_ext (by kernel_rfl) (by kernel_rfl) (by kernel_rfl) ?_
              repeat (go_big_quiet_step (exact Calls.ext_of (rflow_ok _ _ _ _ _ _ _ _ _ _)))
              refine wpQuiet_nil ?_
              rintro _ ⟨ex, rfl⟩
              obtain ⟨ec, ef, ec1, ec2, ef2, ec5⟩ := HCE.out ex
              have hBX := HBW.out.trans (ex.h.mono (by omega))
              have hkx := keepsOthers_below ex.h
              clear z1 z2 z3 z40 z41 z42 z43 z44 y1 y2 y3 y4 y5 y6 y7 y8 y9 hfn
              by_cases hmany : many ≤ ((nl + 1 : Nat) : Int)
              · gi_wp2
                exact ⟨(hkx.trans (KeepsOthers.setCell _ _ _)).from _, .inr ⟨rfl, by rw [len_snoc', ← HNL2.out]; exact World.cell?_setCell_same' _ _ _ (by rw [ec]; rfl), by rw [len_snoc', ← HNL2.out]; exact hmany, by simp,
                  by rw [len_snoc', List.length_append, List.length_singleton, ← HNL2.out]; rcases HM.out with h | h <;> omega,
                  hBX.setCell (p := ⟨w2.heap.size + 1, 0, none⟩) (Nat.le_refl _) _⟩⟩
              · gi_wp2
                exact ⟨(hkx.trans (KeepsOthers.setCell _ _ _)).from _, trivial, ⟨by rw [len_snoc', ← HNL2.out]; exact World.cell?_setCell_same' _ _ _ (by rw [ec]; rfl),
                  by rw [World.frozen?_setCell]; exact ef, HTK.out, .inr (by rw [len_snoc', ← HNL2.out]; omega)⟩,
                  hBX.setCell (p := ⟨w2.heap.size + 1, 0, none⟩) (Nat.le_refl _) _⟩
            · have hb1 : (x == ux) = false := by simpa using hx
              have hb2 : (x != ux) = true := by simpa using hx
              have hb3 : ((x : Int) == (ux : Int)) = false := by simp; omega
              have hb4 : ((x : Int) != (ux : Int)) = true := by simp; omega
              gi_wp2
              refine wpIn_round_ext (by kernel_rfl) (by kernel_rfl) (by kernel_rfl) ?_
              repeat (go_big_quiet_step (exact Calls.ext_of (rflow_ok _ _ _ _ _ _ _ _ _ _)))
              refine wpQuiet_nil ?_
              rintro _ ⟨ex, rfl⟩
              obtain ⟨ec, ef, ec1, ec2, ef2, ec5⟩ := HCE.out ex
              have hkx := keepsOthers_below ex.h
              gi_wp2
              exact ⟨(hkx.trans (KeepsOthers.setCell _ _ _)).from _, .inl ⟨rfl, HNT.out hx⟩⟩
          case' done =>
            rintro D xs W hD rfl ⟨⟨hc, hf, hpre, hm⟩, hBW⟩ hK
            obtain ⟨QX, TB⟩ := HC0.out W hBW
            obtain ⟨e1, e2, e2f, e3⟩ := QX.plain
            have e5 := TB.cell 0
            have e5f := TB.frozen 0
            have HQX := Lib.hid QX
            rw [HNL.out] at hc hm
            obtain ⟨NL, hNL⟩ : ∃ NL, NL = (uL S).length := ⟨_, rfl⟩
            rw [← hNL] at hc hm e3
            have HNL3 := Lib.hid hNL
            clear hpre QX TB hNL
            gi_wp2
            all_goals (rw [roundsIn_succ]; gi_wp2)
          case' stop =>
            rintro D c pre W hD ⟨m, hmN, rfl⟩ (⟨rfl, h⟩ | ⟨rfl, hc, hm1, hm2, hm3, hBW⟩) hK
            · exact absurd (usedL_take S m hmN) h
            obtain ⟨QX, TB⟩ := HC0.out W hBW
            obtain ⟨e1, e2, e2f, e3⟩ := QX.plain
            have e5 := TB.cell 0
            have e5f := TB.frozen 0
            have HQX := Lib.hid QX
            have hql2 : (usedL S m).length ≤ (uL S).length := by
              have := usedL_mono S m (16 - m)
              rw [show m + (16 - m) = 16 by omega] at this
              exact this
            obtain ⟨NL, hNL⟩ : ∃ NL, NL = (uL S).length := ⟨_, rfl⟩
            obtain ⟨nl, hnl⟩ : ∃ nl, nl = (usedL S m).length := ⟨_, rfl⟩
            rw [← hNL] at hql2 e3
            rw [← hnl] at hql2 hc hm1 hm2 hm3
            have HNL3 := Lib.hid hNL
            clear QX TB hNL hnl
            gi_wp2
            all_goals (rw [roundsIn_succ]; gi_wp2)
          all_goals
            have HBW := Lib.hid hBW
            clear hBW hc
            have hDW : D < W.heap.size := (Array.getElem?_eq_some_iff.1 hK).1
            have hszW := HBW.out.size
            have hw2W : w2.heap.size + 2 ≤ W.heap.size := by omega
            obtain ⟨V, hV⟩ : ∃ V, V = (W.alloc (.cells #[.int .i64 1] 3)).alloc (.cells #[.int .i64 0] 3) := ⟨_, rfl⟩
            have bV : Below W.heap.size W V := by rw [hV]; exact ((Below.refl W.heap.size W).alloc (Nat.le_refl _) _).alloc (by simp) _
            have zV : V.heap.size = W.heap.size + 2 := by rw [hV]; simp
            have tV : Blk V W.heap.size 3 #[.int .i64 1] := by rw [hV]; exact (Blk.new _ _ _).alloc _
            have nV : Blk V (W.heap.size + 1) 3 #[.int .i64 0] := by rw [hV]; exact blk_at _ _ _ _ (by simp)
            rw [← hV]
            have HV := Lib.hid hV
            clear hV
            have zV' : W.heap.size + 2 ≤ V.heap.size := by omega
            have hc1 : ∀ (U : World), Below (W.heap.size + 1) V U → QC many S C T b0 wb ab A9 cp w2.heap.size U ∧ Blk U W.heap.size 3 #[.int .i64 1] ∧ U.heap[D]? = some (.deferred (some [])) := by
              intro U hb
              have hb2 : Below W.heap.size W U := bV.trans (hb.mono (by omega))
              exact ⟨HQX.out.next hb2 (by omega), tV.below hb (by omega), (hb.block D (by omega)).trans ((bV.block D hDW).trans hK)⟩
            have HC1 := Lib.hid hc1
            have FV := Lib.hid (((F12.out.below b0' F12.out.lt).below HBW.out (by have := F12.out.lt; omega)).below bV (by have := F12.out.lt; omega))
            clear hc1
            clear e1 e2 e2f e3 e5 e5f
            refine wpIn_rangeFunc_box rfl (by decide) (gf := 71) (lb := #[.pointer (some ⟨fb, 0, none⟩)]) rfl trivial (enters_of Try.func71 (by kernel_rfl) rfl)
              (ctx_stops S fb 7 V FV.out (by decide)) (fun _ _ => trivial) (fun _ _ _ _ _ _ _ _ => trivial) (Below.refl _ _) (fun _ => rfl)
              (fun pre U => (U.cell? ⟨W.heap.size + 1, 0, none⟩ = some (.int .i64 (pre.length : Nat)) ∧ U.frozen? ⟨W.heap.size + 1, 0, none⟩ = false ∧ pre = (uL S).take pre.length) ∧ Below (W.heap.size + 1) V U)
              (fun c pre U => c = .ret ∧ pre ≠ (uL S).take pre.length)
              (OwnFrom.and (Own.from (fun s A B row hs hg hr => ⟨cell_kept hs.1 hg hr, (frozen_kept hs.1 hg hr).trans hs.2.1, hs.2.2⟩) _) (ownFrom_below (by omega) (by omega)))
              (fun c s A B row hs hg hr => hs)
              ⟨⟨nV.cell 0, nV.frozen 0, rfl⟩, Below.refl _ _⟩
              (fun x q W => Blk W q 52 #[.int .i64 (S x).f0, .int .i64 (S x).f1, .int .i64 (S x).f2, .int .i64 (S x).f3, .int .i64 (S x).f4]) (fun _ _ => blk_own)
              ?_ ?_ ?_ ?_ ?_
            rotate_left
            · rintro l pre x U K ⟨⟨hc, hf, hpre⟩, hBU⟩ hK'
              have hszU := hBU.size
              have HC := Lib.hid hc
              have HPR := Lib.hid hpre
              clear hc hpre
              gi_wp2
              obtain ⟨q, hq⟩ : ∃ q, q = U.heap.size := ⟨_, rfl⟩
              rw [← hq]
              exact hK' q _ ((KeepsOthers.alloc U _).from _) trivial ⟨⟨(World.cell?_alloc_lt U _ ⟨W.heap.size + 1, 0, none⟩ (by show W.heap.size + 1 < U.heap.size; omega)).trans HC.out, (frozen?_alloc_cells _ _ _ _).trans hf, HPR.out⟩, hBU.alloc (by omega) _⟩ (by rw [hq]; exact Blk.new _ _ _)
            · rintro l pre x q U ⟨⟨hc, hf, hpre⟩, hBW⟩ hq hlen
              have hlen2 : pre.length < (uL S).length := hlen
              obtain ⟨QX, TB, hKU⟩ := HC1.out U hBW
              obtain ⟨e1, e2, e2f, e3⟩ := QX.plain
              have e5 := TB.cell 0
              obtain ⟨rb, ro, rfl, hrb, hrc⟩ := QX.row (by omega)
              have hrc1 := hrc pre.length hlen2
              have HP := Lib.hid hpre
              have HBW := Lib.hid hBW
              have hszW := hBW.size
              have hql := hq.lt
              have ql := QX.lt
              have hn0 : (0 : Int) ≤ (pre.length : Int) := by omega
              have hn1 : (pre.length : Int) < ((uL S).length : Int) := by omega
              have hn2 : ¬ (((uL S).length : Int) ≤ (pre.length : Int)) := by omega
              have hn3 : (pre.length : Int) ≤ 16 := by omega
              have z1 : ∀ e : ExtW U, e.v.cell? ⟨W.heap.size + 1, 0, none⟩ = some (.int .i64 (pre.length : Nat)) := fun e => e.cell hc (by show W.heap.size + 1 < U.heap.size; omega)
              have z2 : ∀ e : ExtW U, e.v.cell? ⟨ab, 0, none⟩ = some (.slice (some ⟨rb, ro, none⟩) (uL S).length cp) := fun e => e.cell e3 (by show ab < U.heap.size; omega)
              have z3 : ∀ e : ExtW U, e.v.cell? ⟨rb, ro + pre.length, none⟩ = some (.int .i64 (uAt S pre.length : Nat)) := fun e => e.cell hrc1 (by show rb < U.heap.size; omega)
              have z40 : ∀ e : ExtW U, e.v.cell? ⟨q, 0, none⟩ = some (.int .i64 (S x).f0) := fun e => e.cell (hq.cell 0) hql
              have z41 : ∀ e : ExtW U, e.v.cell? ⟨q, 1, none⟩ = some (.int .i64 (S x).f1) := fun e => e.cell (hq.cell 1) hql
              have z42 : ∀ e : ExtW U, e.v.cell? ⟨q, 2, none⟩ = some (.int .i64 (S x).f2) := fun e => e.cell (hq.cell 2) hql
              have z43 : ∀ e : ExtW U, e.v.cell? ⟨q, 3, none⟩ = some (.int .i64 (S x).f3) := fun e => e.cell (hq.cell 3) hql
              have z44 : ∀ e : ExtW U, e.v.cell? ⟨q, 4, none⟩ = some (.int .i64 (S x).f4) := fun e => e.cell (hq.cell 4) hql
              have HRC := Lib.hid hrc
              have HQX := Lib.hid QX
              have HCE := Lib.hid (fun e : ExtW U => (⟨e.cell hc (by show W.heap.size + 1 < U.heap.size; omega), (e.h.frozen (p := ⟨W.heap.size + 1, 0, none⟩) (by show W.heap.size + 1 < U.heap.size; omega)).trans hf, e.cell e1 (by show b0 < U.heap.size; omega), e.cell e2 (by show b0 + 1 < U.heap.size; omega), (e.h.frozen (p := ⟨b0 + 1, 0, none⟩) (by show b0 + 1 < U.heap.size; omega)).trans e2f, e.cell e5 (by show W.heap.size < U.heap.size; omega)⟩ : e.v.cell? ⟨W.heap.size + 1, 0, none⟩ = some (.int .i64 (pre.length : Nat)) ∧ e.v.frozen? ⟨W.heap.size + 1, 0, none⟩ = false ∧ e.v.cell? ⟨b0, 0, none⟩ = some (.int .i64 many) ∧ e.v.cell? ⟨b0 + 1, 0, none⟩ = some (.bool false) ∧ e.v.frozen? ⟨b0 + 1, 0, none⟩ = false ∧ e.v.cell? ⟨W.heap.size, 0, none⟩ = some (.int .i64 1)))
              have HUM := Lib.hid (uAt_mem S pre.length hlen2)
              have HTK := Lib.hid (take_snoc_at S pre hpre hlen2)
              have HNT := Lib.hid (fun h => not_take_snoc S pre x hpre hlen2 h)
              have HLT := Lib.hid hlen2
              obtain ⟨nl, hnl⟩ : ∃ nl, nl = pre.length := ⟨_, rfl⟩
              obtain ⟨NL, hNL⟩ : ∃ NL, NL = (uL S).length := ⟨_, rfl⟩
              obtain ⟨ux, hux⟩ : ∃ ux, ux = uAt S nl := ⟨_, rfl⟩
              rw [← hnl] at z1 z3 HCE hn0 hn1 hn2 hn3 HTK HUM HNT
              rw [← hNL] at hn1 hn2 z2
              rw [← hux] at z3 HUM HTK HNT
              have HNL2 := Lib.hid hnl
              clear hpre hrc hrc1 QX TB hKU hBW hc hf e1 e2 e2f e3 e5 hlen hlen2 hnl hNL hux hq
              have hd1 : decide ((NL : Int) ≤ (nl : Int)) = false := by simpa using hn2
              have hd2 : decide (NL ≤ nl) = false := by simp; omega
              by_cases hx : x = ux
              · subst hx
                obtain ⟨hx16, hxu⟩ := HUM.out
                have HSR : S x = (C x).rx := (HAL.out x).same ((HUS.out x).symm.trans hxu)
                rw [HSR] at z40 z41 z42 z43 z44
                have hx0 : (0 : Int) ≤ (x : Int) := by omega
                have hx1 : (x : Int) < 16 := by omega
                obtain ⟨_, r0, r1, r2, r3, r4, r5, r6, r7, r8, _, _, _, _⟩ := HQX.out.ref.cells (o := x * 14) hx16 (by omega)
                have hwbW : wb < U.heap.size := by omega
                have y1 : ∀ e : ExtW U, e.v.cell? ⟨wb, x * 14 + 1, none⟩ = some (.int .i64 (C x).h0) := fun e => e.cell r0 hwbW
                have y2 : ∀ e : ExtW U, e.v.cell? ⟨wb, x * 14 + 2, none⟩ = some (.int .i64 (C x).h1) := fun e => e.cell r1 hwbW
                have y3 : ∀ e : ExtW U, e.v.cell? ⟨wb, x * 14 + 3, none⟩ = some (.int .i64 (C x).h2) := fun e => e.cell r2 hwbW
                have y4 : ∀ e : ExtW U, e.v.cell? ⟨wb, x * 14 + 4, none⟩ = some (.int .i64 (C x).h3) := fun e => e.cell r3 hwbW
                have y5 : ∀ e : ExtW U, e.v.cell? ⟨wb, x * 14 + 5, none⟩ = some (.int .i64 (C x).h4) := fun e => e.cell r4 hwbW
                have y6 : ∀ e : ExtW U, e.v.cell? ⟨wb, x * 14 + 6, none⟩ = some (.int .i64 (C x).h5) := fun e => e.cell r5 hwbW
                have y7 : ∀ e : ExtW U, e.v.cell? ⟨wb, x * 14 + 7, none⟩ = some (.int .i64 (C x).h6) := fun e => e.cell r6 hwbW
                have y8 : ∀ e : ExtW U, e.v.cell? ⟨wb, x * 14 + 8, none⟩ = some (.int .i64 (C x).h7) := fun e => e.cell r7 hwbW
                have y9 : ∀ e : ExtW U, e.v.cell? ⟨wb, x * 14 + 9, none⟩ = some (.int .i64 (C x).h8) := fun e => e.cell r8 hwbW
                change ∀ e : ExtW U, e.v.cell? ⟨q, 0, none⟩ = some (.int .i64 (C x).h0) at z40
                change ∀ e : ExtW U, e.v.cell? ⟨q, 1, none⟩ = some (.int .i64 (C x).h1) at z41
                change ∀ e : ExtW U, e.v.cell? ⟨q, 2, none⟩ = some (.int .i64 (C x).h2) at z42
                change ∀ e : ExtW U, e.v.cell? ⟨q, 3, none⟩ = some (.int .i64 (C x).h3) at z43
                change ∀ e : ExtW U, e.v.cell? ⟨q, 4, none⟩ = some (.int .i64 (C x).h4) at z44
                clear HSR r0 r1 r2 r3 r4 r5 r6 r7 r8
                obtain ⟨g0, hg0⟩ : ∃ g, g = (C x).h0 := ⟨_, rfl⟩
                obtain ⟨g1, hg1⟩ : ∃ g, g = (C x).h1 := ⟨_, rfl⟩
                obtain ⟨g2, hg2⟩ : ∃ g, g = (C x).h2 := ⟨_, rfl⟩
                obtain ⟨g3, hg3⟩ : ∃ g, g = (C x).h3 := ⟨_, rfl⟩
                obtain ⟨g4, hg4⟩ : ∃ g, g = (C x).h4 := ⟨_, rfl⟩
                rw [← hg0] at y1 z40
                rw [← hg1] at y2 z41
                rw [← hg2] at y3 z42
                rw [← hg3] at y4 z43
                rw [← hg4] at y5 z44
                clear hg0 hg1 hg2 hg3 hg4
                have hfn : ∀ V : World, (binOp .neq 52 (.agg #[.int .i64 g0, .int .i64 g1, .int .i64 g2, .int .i64 g3, .int .i64 g4]) (.agg #[.int .i64 g0, .int .i64 g1, .int .i64 g2, .int .i64 g3, .int .i64 g4])).run Try.prog V = .ok (.bool false) V := fun V => by
                  rw [flow_neq]; unfold sameFlow; simp
                gi_wp2
                refine wpIn_round_ext (by kernel_rfl) (by kernel_rfl) (by kernel_rfl) ?_
                repeat (go_big_quiet_step (exact Calls.ext_of (rflow_ok _ _ _ _ _ _ _ _ _ _)))
                refine wpQuiet_nil ?_
                rintro _ ⟨ex, rfl⟩
                obtain ⟨ec, ef, ec1, ec2, ef2, ec5⟩ := HCE.out ex
                have hBX := HBW.out.trans (ex.h.mono (by omega))
                have hkx := keepsOthers_below ex.h
                clear z1 z2 z3 z40 z41 z42 z43 z44 y1 y2 y3 y4 y5 y6 y7 y8 y9 hfn
                gi_wp2
                exact ⟨(hkx.trans (KeepsOthers.setCell _ _ _)).from _, trivial, ⟨by rw [len_snoc', ← HNL2.out]; exact World.cell?_setCell_same' _ _ _ (by rw [ec]; rfl),
                  by rw [World.frozen?_setCell]; exact ef, HTK.out⟩,
                  hBX.setCell (p := ⟨W.heap.size + 1, 0, none⟩) (Nat.le_refl _) _⟩
              · have hb1 : (x == ux) = false := by simpa using hx
                have hb2 : (x != ux) = true := by simpa using hx
                have hb3 : ((x : Int) == (ux : Int)) = false := by simp; omega
                have hb4 : ((x : Int) != (ux : Int)) = true := by simp; omega
                gi_wp2
                refine wpIn_round_ext (by kernel_rfl) (by kernel_rfl) (by kernel_rfl) ?_
                repeat (go_big_quiet_step (exact Calls.ext_of (rflow_ok _ _ _ _ _ _ _ _ _ _)))
                refine wpQuiet_nil ?_
                rintro _ ⟨ex, rfl⟩
                obtain ⟨ec, ef, ec1, ec2, ef2, ec5⟩ := HCE.out ex
                have hkx := keepsOthers_below ex.h
                gi_wp2
                exact ⟨(hkx.trans (KeepsOthers.setCell _ _ _)).from _, rfl, HNT.out hx⟩
            · rintro D2 xs U hD2 rfl ⟨⟨hc, hf, hpre⟩, hBU⟩ hK2
              obtain ⟨QX, TB, hKU⟩ := HC1.out U hBU
              obtain ⟨e1, e2, e2f, e3⟩ := QX.plain
              have e5 := TB.cell 0
              have e5f := TB.frozen 0
              have qlt := QX.lt
              rw [HNL.out] at hc
              obtain ⟨NM, hNM⟩ : ∃ NM, NM = (uL S).length := ⟨_, rfl⟩
              rw [← hNM] at hc e3
              clear hpre QX TB hNM
              have hU := hBU.size
              gi_wp2
              all_goals (rw [roundsIn_succ]; gi_wp2; go_wp2_with (go_at_call 30; refine (works43_true _).mono ?_; rintro e w9 ⟨rfl, h9⟩; have q9 := (h9.cell (p := ⟨b0 + 1, 0, none⟩) (by simp; omega)).trans ((World.cell?_alloc_lt U _ ⟨b0 + 1, 0, none⟩ (by simp; omega)).trans e2); have q9f := (h9.frozen (p := ⟨b0 + 1, 0, none⟩) (by simp; omega)).trans ((frozen?_alloc_cells _ _ _ _).trans e2f)))
              all_goals
                have hD9 : w9.heap[D]? = some (.deferred (some [])) := (h9.block D (by simp; omega)).trans ((Below.heap_alloc U _ D (by omega)).trans hKU)
                have hD29 : w9.heap[D2]? = some (.deferred (some [])) := (h9.block D2 (by have := (Array.getElem?_eq_some_iff.1 hK2).1; simp; omega)).trans ((Below.heap_alloc U _ D2 ((Array.getElem?_eq_some_iff.1 hK2).1)).trans hK2)
                have k9 := KeepsOthers.setCell w9 ⟨b0 + 1, 0, none⟩ (.bool true)
                have hD9' := k9.same D _ hD9 rfl
                have hD29' := k9.same D2 _ hD29 rfl
                have hne : D ≠ D2 := by omega
                refine ⟨by simp, .inl ⟨_, _, rfl, run_takeDeferred hD29', ?_⟩⟩
                refine ⟨by simp, .inl ⟨_, _, rfl, run_takeDeferred ((World.putObj_heap_other hne).trans hD9'), ?_⟩⟩
                have h5 : (((w9.setCell ⟨b0 + 1, 0, none⟩ (.bool true)).putObj D2 (.deferred none)).putObj D (.deferred none)).cell? ⟨b0 + 1, 0, none⟩ = some (.bool true) :=
                  cell_kept (cell_kept (World.cell?_setCell_same' w9 ⟨b0 + 1, 0, none⟩ (.bool true) (by rw [q9]; rfl)) (grownBy_putObj' _ D2 (.deferred none)) (fun r e => by cases e; exact ⟨_, hD29', rfl⟩))
                    (grownBy_putObj' _ D (.deferred none)) (fun r e => by cases e; exact ⟨_, (World.putObj_heap_other hne).trans hD9', rfl⟩)
                refine ⟨.bool true, ?_, rfl, ?_⟩
                · simp [results, go_sem, h5]
                · have hbW : Below w.heap.size w W := BB2.out.trans ((b0'.trans (HBW.out.mono (by omega))).mono (by omega))
                  have hbU : Below w.heap.size w U := (hbW.trans (bV.mono (by omega))).trans (hBU.mono (by omega))
                  have hb : Below w.heap.size w ((w9.setCell ⟨b0 + 1, 0, none⟩ (.bool true))) := ((hbU.alloc (by omega) _).trans (h9.mono (by simp; omega))).setCell (p := ⟨b0 + 1, 0, none⟩) (by show w.heap.size ≤ b0 + 1; omega) _
                  have hz9 := hb.size
                  exact (hb.grown (grownBy_putObj' _ D2 (.deferred none)) hz9 (fun k e => by cases e; omega)).grown (grownBy_putObj' _ D (.deferred none)) (by rw [World.putObj_size]; exact hz9) (fun k e => by cases e; omega)
            · rintro D2 c pre U hD2 ⟨m2, hmN2, rfl⟩ ⟨rfl, h⟩ hK2
              exact absurd (usedL_take S m2 hmN2) h
end Go.Proofs.Ytejadoadpgcpjaa
