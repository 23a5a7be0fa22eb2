/- append of zeros (append(s, make([]byte, n)...)), and the data of ExpandBounds. -/
import Derived.Test.YtofaghpflmeblaaQ8
import Derived.Lib.AppendStr
namespace Go.Proofs.Ytofaghpflmeblaa
open Go.RowKit Go.WideShapes
set_option linter.unusedVariables false
attribute [local go_sem ↓] Go.wp_at_zero Go.wp_at_succ

theorem zeros_list (m : Nat) : (Builtin.zeroCells #[Value.int .u8 0] m).toList = List.replicate m (.int .u8 0) := by
  rw [List.eq_replicate_iff]
  refine ⟨by simp [Builtin.zeroCells], ?_⟩
  intro b hb
  simp [Builtin.zeroCells] at hb
  obtain ⟨i, _, rfl⟩ := hb
  simp [Nat.mod_one]
theorem run_append_zeros (base : Nat) (ty : TypeId) (w : World) (g n cap : Nat) (xs : List Value) (hown : w.ownsRow base 5 1 (.slice (some ⟨g, 0, none⟩) n cap) n xs) (m : Nat) (hm : 0 < m) (hnm : n + m ≤ 100000) (hbase : base ≤ w.heap.size) :
    ∃ v' w', (Builtin.append_ #[24, 3] ty #[.slice (some ⟨g, 0, none⟩) n cap, .int .i64 (m : Int)]).run Try.prog w = .ok v' w' ∧ w'.ownsRow base 5 1 v' (n + m) (xs ++ List.replicate m (.int .u8 0)) ∧ w.grownBy w' (some g) := by
  obtain ⟨i, hi, hz, hs, hb⟩ := info_parts Try.infoByte
  obtain ⟨hl, h | ⟨g', cap', cur, hv, hbg, hg, hnc, hcm, hcs, htake⟩⟩ := id hown
  · cases h.1
  · simp at hv
    obtain ⟨rfl, rfl⟩ := hv
    simp only [Nat.mul_one] at hl hcs htake
    have hw : IntKind.i64.wrap (m : Int) = (m : Int) := by rw [IntKind.wrap_i64]; omega
    have hlt : ¬ ((m : Int) < 0) := by omega
    have h48 : ¬ (281474976710656 < (m : Int)) := by omega
    have hm0 : m ≠ 0 := by omega
    have hzl : (Builtin.zeroCells #[Value.int .u8 0] m).size = m := by simp [Builtin.zeroCells]
    have hlen : n + m = (xs ++ List.replicate m (Value.int .u8 0)).length := by simp [hl]
    by_cases hroom : n + m ≤ cap
    · have hst := run_storeCells_at Try.prog g n 5 (List.replicate m (.int .u8 0)) 0 cur w hg (by simp; omega) (by intro v hv; obtain rfl := List.eq_of_mem_replicate hv; rfl)
      simp only [Nat.add_zero, List.length_replicate] at hst
      refine ⟨.slice (some ⟨g, 0, none⟩) (n + m) cap, w.setRow g (cur.toList.take n ++ List.replicate m (Value.int .u8 0) ++ cur.toList.drop (n + m)).toArray, ?_, ⟨by simp [hl], .inr ⟨g, cap, _, rfl, hbg, setRow_heap w g cur _ 5 _ hg, hroom, hcm, ?_, ?_⟩⟩, ⟨rfl, rfl, rfl, by simp, fun k _ hk => setRow_other w g k _ (fun e => hk (by simp [e]))⟩⟩
      · simp [Builtin.append_, run_underlying Try.underlying24, run_underlying Try.underlying3, sizeOf, typeInfo, zeroValue, hi, hz, hs, hb, asInt, asIntOf, hw, hlt, h48, hm0, hroom, Addr.add_lit, Value.cells, zeros_list, hst]
      · simp only [List.size_toArray, List.length_append, List.length_take, List.length_drop, Array.length_toList, List.length_replicate]
        omega
      · rw [htake, Nat.mul_one, hlen]
        exact List.take_left
    · have hge := grownCap_ge w (n + m) cap 5
      have hcm2 := grownCap_le_maxLen w (n + m) cap 5 (by unfold maxLen; omega)
      have holds : ∀ j u, xs[j]? = some u → w.cell? ((⟨g, 0, none⟩ : Addr).add j) = some u := hown.cells (g := g) rfl
      have hfo := run_firstCells_some (P := Try.prog) w.drew 1 n ⟨g, 0, none⟩ n cap xs (by simpa using hl) (by simpa using holds)
      have h63' : ¬ (9223372036854775807 < ((n : Int) + (m : Int))) := by omega
      have h48' : ¬ (281474976710656 < Builtin.nextslicecap (n + m) cap) := by have := growslice_fits (need := n + m) (old := cap) (bytes := 1) (by omega) (by omega); omega
      refine ⟨.slice (some ⟨w.heap.size, 0, none⟩) (n + m) (grownCap w (n + m) cap 5), w.drew.alloc (.cells (xs.toArray ++ Builtin.zeroCells #[Value.int .u8 0] m ++ Builtin.zeroCells #[Value.int .u8 0] (grownCap w (n + m) cap 5 - (n + m))) 5), ?_, ⟨by simp [hl], .inr ⟨w.heap.size, _, _, rfl, hbase, heap_alloc_new w.drew _, hge, hcm2, ?_, ?_⟩⟩, ⟨rfl, rfl, rfl, by simp, fun k hk _ => heap_alloc_old w.drew _ (by simpa using hk)⟩⟩
      · simp [Builtin.append_, run_underlying Try.underlying24, run_underlying Try.underlying3, sizeOf, typeInfo, zeroValue, hi, hz, hs, hb, asInt, asIntOf, hw, hlt, h48, hm0, hroom, h63', h48', Question.forced, hfo, newRow, grownCap, Value.cells]
      · simp only [Array.size_append, List.size_toArray, size_zeroCells, hl]
        simp
        omega
      · simp only [Array.toList_append, zeros_list, Nat.mul_one]
        rw [hlen]
        exact List.take_left
theorem wpList_append_zeros (w : World) {ops : Array Oper} {rest : List Oper} {o : Oper} {a : Act} {Q : Exit → Act → World → Prop} (hgd : o.guard = none) (s x : Operand)
    (ho : o.op = .call { callee := .builtin .append, args := #[s, x], argTypes := #[24, 3] }) (base : Nat)
    (g n cap : Nat) (xs : List Value) (hs : a.eval s = .slice (some ⟨g, 0, none⟩) n cap) (hown : w.ownsRow base 5 1 (.slice (some ⟨g, 0, none⟩) n cap) n xs) (m : Nat) (hx : a.eval x = .int .i64 (m : Int)) (hm : 0 < m) (hnm : n + m ≤ 100000) (hbase : base ≤ w.heap.size)
    (h : ∀ v' w', w'.ownsRow base 5 1 v' (n + m) (xs ++ List.replicate m (.int .u8 0)) → w.grownBy w' (some g) → wpList Try.prog ops Q rest (a.put o.dst v') w') : wpList Try.prog ops Q (o :: rest) a w := by
  refine wpList_plain hgd fun K hK => ?_
  obtain ⟨v', w', hr, h2, h3⟩ := run_append_zeros base o.type w g n cap xs hown m hm hnm hbase
  unfold Oper.wp execOp
  simp only [ho, resolve, invoke, builtin, Sem.run_bind, Sem.run_pure, Result.andThen_ok, List.map_toArray, List.map_cons, List.map_nil, hs, hx, hr]
  exact hK _ _ (h v' w' h2 h3)
/-- the bytes l with zeros behind them -/
def zb (l : List Int) (j : Nat) : Int := l.getD j 0
theorem zb_row {w : World} {base g cap m : Nat} (l : List Int) (h : w.ownsRow base 5 1 (.slice (some ⟨g, 0, none⟩) (l.length + m) cap) (l.length + m) (l.map (Value.int .u8) ++ List.replicate m (.int .u8 0))) : Row w w.heap.size (some ⟨g, 0, none⟩) (l.length + m) (fun j => .int .u8 (zb l j)) := by
  refine own_row h (fun j hj => ?_) (h.lt g rfl).2
  rw [List.getElem?_append]
  unfold zb
  split
  · rename_i hlt
    simp only [List.length_map] at hlt
    simp [List.getD, hlt]
  · rename_i hge
    simp only [List.length_map] at hge ⊢
    rw [List.getElem?_replicate_of_lt (by omega)]
    simp [List.getD, List.getElem?_eq_none (Nat.le_of_not_lt hge)]
def l20 : List Int := [0, 7, 81, 0, 2, 0, 0, 0, 3, 0, 0, 0, 4, 5, 6, 0, 7, 0, 0, 8]
def l6 : List Int := [64, 8, 1, 0, 0, 6]
def l3 : List Int := [128, 7, 1]
def l1 : List Int := [192]
def full20 : ByteArray := ⟨#[0, 7, 81, 0, 2, 0, 0, 0, 3, 0, 0, 0, 4, 5, 6, 0, 7, 0, 0, 8]⟩
def pk20 : ByteArray := ⟨#[81, 0, 2, 0, 0, 0, 3, 0, 0, 0, 4, 5, 6, 0, 7, 0, 0, 8, 0, 20]⟩
def cpk : ByteArray := ⟨#[128, 7, 3, 170]⟩
def xb1 : Nat → Ec := xS yxs0 full20.size (sz full20)
theorem xb1_ok : ∀ i, i < 16 → (xb1 i).Ok := xS_ok _ _ _ yxo0 (fun j _ => sz_byte _ j)
theorem xbE : xErr yxs0 full20.size (sz full20) = 0 := by decide +kernel
theorem xbQ : bytesOf (xLen yxs0 full20.size (sz full20)) (xY yxs0 full20.size (sz full20)) = pk20 := by decide +kernel
theorem xbF : bytesOf (xFb yxs0 full20.size (sz full20)) (fun _ => 160 + (xAt (sz full20) : Int)) = ⟨#[]⟩ := by decide +kernel
theorem xcE : xErr xb1 cpk.size (sz cpk) = 0 := by decide +kernel
theorem xcQ : bytesOf (xLen xb1 cpk.size (sz cpk)) (xY xb1 cpk.size (sz cpk)) = pstr 10 := by decide +kernel
theorem xcF : bytesOf (xFb xb1 cpk.size (sz cpk)) (fun _ => 160 + (xAt (sz cpk) : Int)) = ⟨#[]⟩ := by decide +kernel
theorem k0a : xErr xb1 9000 (zb l20) = 0 := by decide +kernel
theorem k0b : xErr xb1 9001 (zb l20) = 4 := by decide +kernel
theorem k1a : xErr xb1 8986 (zb l6) = 0 := by decide +kernel
theorem k1b : xErr xb1 8987 (zb l6) = 4 := by decide +kernel
theorem k2a : xErr xb1 8983 (zb l3) = 0 := by decide +kernel
theorem k2b : xErr xb1 8984 (zb l3) = 4 := by decide +kernel
theorem k3a : xErr xb1 9001 (zb l1) = 0 := by decide +kernel
theorem k3b : xErr xb1 9002 (zb l1) = 4 := by decide +kernel
theorem n0a : xLen xb1 9000 (zb l20) = 9000 := by decide +kernel
theorem n1a : xLen xb1 8986 (zb l6) = 9000 := by decide +kernel
theorem n2a : xLen xb1 8983 (zb l3) = 9000 := by decide +kernel
theorem n3a : xLen xb1 9001 (zb l1) = 9000 := by decide +kernel
theorem is20 (g : Nat) (w : World) (h : EB w g true yxs0) : Calls Try.prog 12 #[.pointer (some ⟨g, 0, none⟩), .string full20, .string pk20, .string (⟨#[]⟩ : ByteArray), .int .i64 0] w (IsEnd g xb1 w) := is_ok g yxs0 full20 _ _ _ w h yxo0 (by decide +kernel) xbE xbQ xbF
theorem isc (g : Nat) (S : Nat → Ec) (w : World) (h : EB w g true xb1) : Calls Try.prog 12 #[.pointer (some ⟨g, 0, none⟩), .string (⟨#[128, 7, 3, 170]⟩ : ByteArray), .string (pstr 10), .string (⟨#[]⟩ : ByteArray), .int .i64 0] w (IsEnd g (xS xb1 cpk.size (sz cpk)) w) := is_ok g xb1 cpk _ _ _ w h xb1_ok (by decide +kernel) xcE xcQ xcF
/-- Expand on a long input: accepted -/
theorem xlong_yes (g : Nat) (l : List Int) (m cap : Nat) (b : Nat) (w : World) (h : EB w g true xb1) (hb : b ≠ g) (hlc : l.length + m ≤ cap) (hlm : l.length + m ≤ 100000) (hz : ∀ j, 0 ≤ zb l j ∧ zb l j < 256) (hr : Row w w.heap.size (some ⟨b, 0, none⟩) (l.length + m) (fun j => .int .u8 (zb l j)))
    (hE : xErr xb1 (l.length + m) (zb l) = 0) (hL : xLen xb1 (l.length + m) (zb l) = 9000) :
    Calls Try.prog 14 #[.pointer (some ⟨g, 0, none⟩), .slice (some ⟨b, 0, none⟩) (l.length + m) cap] w fun e w' => ∃ B d C f, e = .returned (.tuple #[.slice B 9000 d, .slice C 0 f, .int .i64 0]) ∧ Keep1 g w w' ∧ g < w'.heap.size :=
  (expand_any g xb1 _ _ _ _ w h xb1_ok hlc (by unfold maxLen; omega) (fun j _ => hz j) hr (fun a e => by cases e; exact hb)).mono fun e w' ⟨B, d, C, f, he, _, _, _, _, _, _, hEB, hK⟩ => by
    rw [hE, hL, show xFb xb1 (l.length + m) (zb l) = 0 from by simp [xFb, hE]] at he
    exact ⟨B, d, C, f, he, hK, hEB.lt⟩
/-- Expand on a long input: refused -/
theorem xlong_no (g : Nat) (l : List Int) (m cap : Nat) (b : Nat) (w : World) (h : EB w g true xb1) (hb : b ≠ g) (hlc : l.length + m ≤ cap) (hlm : l.length + m ≤ 100000) (hz : ∀ j, 0 ≤ zb l j ∧ zb l j < 256) (hr : Row w w.heap.size (some ⟨b, 0, none⟩) (l.length + m) (fun j => .int .u8 (zb l j)))
    (hE : xErr xb1 (l.length + m) (zb l) = 4) :
    Calls Try.prog 14 #[.pointer (some ⟨g, 0, none⟩), .slice (some ⟨b, 0, none⟩) (l.length + m) cap] w fun e w' => ∃ B d C f, e = .returned (.tuple #[.slice B 0 d, .slice C 0 f, .int .i64 4]) ∧ EB w' g true xb1 ∧ Keep1 g w w' :=
  (expand_any g xb1 _ _ _ _ w h xb1_ok hlc (by unfold maxLen; omega) (fun j _ => hz j) hr (fun a e => by cases e; exact hb)).mono fun e w' ⟨B, d, C, f, he, _, _, _, _, _, _, hEB, hK⟩ => by
    rw [hE, show xFb xb1 (l.length + m) (zb l) = 0 from by simp [xFb, hE], show xLen xb1 (l.length + m) (zb l) = 0 from by simp [xLen, hE]] at he
    rw [show xS xb1 (l.length + m) (zb l) = xb1 from by simp [xS, hE]] at hEB
    exact ⟨B, d, C, f, he, hEB, hK⟩
end Go.Proofs.Ytofaghpflmeblaa
