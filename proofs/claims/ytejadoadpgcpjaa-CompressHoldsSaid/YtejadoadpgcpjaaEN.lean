/- field: each, GetAll; header: must, got, all. -/
import Derived.Test.YtejadoadpgcpjaaEM
import Derived.Defers
import Derived.Recover
namespace Go.Proofs.Ytejadoadpgcpjaa
open Go.RowKit

theorem each1_idle (eb fb rb ob : Nat) (w : World) (he : w.cell? ⟨eb, 0, none⟩ = some (.int .i64 0)) :
    CallsD Try.prog 102 #[.pointer (some ⟨eb, 0, none⟩), .pointer (some ⟨fb, 0, none⟩), .pointer (some ⟨rb, 0, none⟩), .pointer (some ⟨ob, 0, none⟩)] .returning w fun e u' w' => u' = .returning ∧ e = .returned (.tuple #[]) ∧ w' = w := by
  go_enter_d Try.func102, Try.ntmps102
  go_wp2
  go_end0
  exact ⟨rfl, rfl⟩

/-- the sum of the first j widths -/
def so (ws : Nat → Nat) : Nat → Nat
  | 0 => 0
  | j + 1 => so ws j + ws j
def valList (z : Nat → Int) (ws : Nat → Nat) (p m : Nat) : List Value := (List.range m).map (fun j => .int .u64 ((getv z (p + so ws j) (ws j) : Nat) : Int))
theorem valList_len (z : Nat → Int) (ws : Nat → Nat) (p m : Nat) : (valList z ws p m).length = m := by simp [valList]
theorem valList_succ (z : Nat → Int) (ws : Nat → Nat) (p m : Nat) : valList z ws p (m + 1) = valList z ws p m ++ [.int .u64 ((getv z (p + so ws m) (ws m) : Nat) : Int)] := by simp [valList, List.range_succ]
theorem valList_at (z : Nat → Int) (ws : Nat → Nat) (p m j : Nat) (h : j < m) : (valList z ws p m)[j]? = some (.int .u64 ((getv z (p + so ws j) (ws j) : Nat) : Int)) := by simp [valList, h]
theorem so_mono (ws : Nat → Nat) (a : Nat) : ∀ d, so ws a ≤ so ws (a + d)
  | 0 => Nat.le_refl _
  | d + 1 => Nat.le_trans (so_mono ws a d) (Nat.le_add_right _ _)
theorem infoU64 : (Try.prog.info? 102).map (fun i => (i.zero, i.size, i.bytes)) = some (some (.int .u64 0), 1, 8) := by kernel_rfl
theorem grownBy_of {a w : World} (h : Below a.heap.size a w) : a.grownBy w none := ⟨h.os, h.tape, h.output, h.size, fun i hi _ => h.block i hi⟩
theorem RS.grown {w w' : World} {g : Nat} {A : Option Addr} {len cap p : Nat} {z : Nat → Int} (h : RS w g A len cap z p) {row : Option Nat} (hg : w.grownBy w' row) (hgr : some g ≠ row) (hA : ∀ a, A = some a → some a.block ≠ row) : RS w' g A len cap z p :=
  ⟨h.1.grown hg hgr, fun hn => by
    obtain ⟨b, off, e, hb, hc⟩ := h.2 hn
    refine ⟨b, off, e, by have := hg.size; omega, fun j hj => ?_⟩
    exact (cell_of_block (p := ⟨b, off + j, none⟩) (hg.block b hb (hA _ e))).trans (hc j hj)⟩
def EachEnd (g : Nat) (z : Nat → Int) (ws : Nat → Nat) (p n : Nat) (w : World) (e : Ending) (w' : World) : Prop :=
  ∃ B c, e = .returned (.tuple #[.slice B n c, .int .i64 0]) ∧ Row w' w'.heap.size B n (fun j => .int .u64 ((getv z (p + so ws j) (ws j) : Nat) : Int)) ∧ w.grownBy w' (some g)

set_option maxRecDepth 100000 in
set_option maxHeartbeats 3200000 in
theorem each_ok (g : Nat) (A L : Option Addr) (len cap p n lc : Nat) (z : Nat → Int) (ws : Nat → Nat) (hl : len ≤ 100000) (hn : n ≤ 1000) (hws : ∀ j, j < n → ws j ≤ 32) (hp : p + so ws n ≤ 8 * len) (hz : ∀ j, j < len → 0 ≤ z j ∧ z j < 256) (hLg : ∀ a, L = some a → a.block ≠ g) (hAg : ∀ a, A = some a → a.block < g) (w : World) (h : RS w g A len cap z p) (hL : Row w w.heap.size L n (fun j => .int .i64 (ws j : Nat))) :
    Calls Try.prog 97 #[.pointer (some ⟨g, 0, none⟩), .slice L n lc, .func (.func 98) #[.pointer (some ⟨g, 0, none⟩)] #[]] w (EachEnd g z ws p n w) := by
  have HR := Lib.hid h
  have HL := Lib.hid hL
  have HZ := Lib.hid hz
  have HWS := Lib.hid hws
  have hmf : ∀ (fn : Fn) (first cap : Array Value) (w : World), (Instr.makeFunc fn first cap).run Try.prog w = .ok (.func fn first cap) w := fun _ _ _ _ => rfl
  have hgl := h.1.lt
  have hca : ∀ o1 o2 o3, (((w.alloc o1).alloc o2).alloc o3).cell? ⟨g, 1, none⟩ = some (.int .i64 (p : Int)) := fun o1 o2 o3 =>
    (World.cell?_alloc_lt _ _ ⟨g, 1, none⟩ (by simp; omega)).trans ((World.cell?_alloc_lt _ _ ⟨g, 1, none⟩ (by simp; omega)).trans ((World.cell?_alloc_lt _ _ ⟨g, 1, none⟩ hgl).trans (h.1.cell 1)))
  obtain ⟨i0, hi0, hz0, hz1, hz2⟩ := info_parts infoU64
  have HLG := Lib.hid hLg
  have HAG := Lib.hid hAg
  clear h hL hz hws hLg hAg
  go_enter_defers Try.func97, Try.ntmps97
  go_wp2
  clear hca
  obtain ⟨W0, hW0⟩ : ∃ W0, W0 = (((w.alloc (.cells #[.pointer (some ⟨g, 0, none⟩)] 96)).alloc (.cells #[.slice none 0 0] 100)).alloc (.cells #[.int .i64 0] 26)).alloc (.cells #[.int .i64 (p : Int)] 3) := ⟨_, rfl⟩
  have z0 : W0.heap.size = w.heap.size + 4 := by rw [hW0]; simp
  have b0 : Below w.heap.size w W0 := by rw [hW0]; exact ((((Below.refl _ w).alloc (Nat.le_refl _) _).alloc (by simp) _).alloc (by simp; omega) _).alloc (by simp; omega) _
  have O0 : Boxed W0 (w.heap.size + 1) 100 (.slice none 0 0) := by
    rw [hW0]
    have := Boxed.new (w.alloc (.cells #[.pointer (some ⟨g, 0, none⟩)] 96)) 100 (.slice none 0 0)
    rw [World.size_alloc] at this
    exact (this.alloc _).alloc _
  have E0 : Blk W0 (w.heap.size + 2) 26 #[.int .i64 0] := by
    rw [hW0]
    have := Blk.new ((w.alloc (.cells #[.pointer (some ⟨g, 0, none⟩)] 96)).alloc (.cells #[.slice none 0 0] 100)) 26 #[.int .i64 0]
    rw [World.size_alloc, World.size_alloc] at this
    exact this.alloc _
  have R0 : RS W0 g A len cap z p := HR.out.grown (grownBy_of b0) (by simp) (fun _ _ h => by cases h)
  rw [← hW0]
  have HO := Lib.hid O0
  have HE := Lib.hid E0
  have HR0 := Lib.hid R0
  have HB0 := Lib.hid b0
  clear hW0 O0 E0 R0 b0
  go_loopw [22] (fun v22 wr => ∃ k : Nat, k ≤ n ∧ v22 = .int .i64 k ∧ (∃ v, Boxed wr (w.heap.size + 1) 100 v ∧ wr.ownsRow (w.heap.size + 4) 102 1 v k (valList z ws p k)) ∧ Blk wr (w.heap.size + 2) 26 #[.int .i64 0] ∧ RS wr g A len cap z (p + so ws k) ∧ w.grownBy wr (some g) ∧ w.heap.size + 4 ≤ wr.heap.size) (fun v _ => n - (intOf v).toNat)
  case atStart => exact ⟨0, Nat.zero_le _, rfl, ⟨_, HO.out, World.ownsRow_nil _ _ _ _⟩, HE.out, HR0.out, ⟨HB0.out.os, HB0.out.tape, HB0.out.output, HB0.out.size, fun k h1 h2 => HB0.out.block k h1⟩, by omega⟩
  case round =>
    obtain ⟨k, hk, rfl, ⟨v, hO, hown⟩, hE, hR, hG, hS⟩ := hrel
    have HRk := Lib.hid hR
    have HG := Lib.hid hG
    obtain ⟨vA, vc, rfl, _, _, _, hvr⟩ := own_any (f := fun j => .int .u64 ((getv z (p + so ws j) (ws j) : Nat) : Int)) hown (fun j hj => valList_at _ _ _ _ _ hj)
    have hOc := hO.cell
    clear hR hG
    by_cases hlt : k < n
    · have hcl : ∃ lb lo, L = some ⟨lb, lo, none⟩ ∧ wr.cell? ⟨lb, lo + k, none⟩ = some (.int .i64 (ws k : Nat)) := by
        obtain ⟨lb, lo, e, hlb, hlc⟩ := HL.out (by omega)
        exact ⟨lb, lo, e, (cell_of_block (p := ⟨lb, lo + k, none⟩) (HG.out.block lb hlb (fun h => HLG.out _ e (by cases h; rfl)))).trans (hlc k hlt)⟩
      obtain ⟨lb, lo, rfl, hcl⟩ := hcl
      have hwk := HWS.out k hlt
      have hso : p + so ws k + ws k ≤ 8 * len := by
        have h1 := so_mono ws (k + 1) (n - (k + 1))
        rw [show k + 1 + (n - (k + 1)) = n by omega] at h1
        have h2 : so ws (k + 1) = so ws k + ws k := rfl
        omega
      have HGet := Lib.hid (get_ok g A len cap (p + so ws k) (ws k) z hl hwk hso HZ.out wr HRk.out)
      go_wp2_with (first
        | (go_at_call 98; refine (HGet.out).mono ?_; rintro e w2 ⟨rfl, hR2, hg2, hs2⟩; have hO2 : Boxed w2 (w.heap.size + 1) 100 (.slice vA k vc) := hO.kept hg2 (by simp; omega); have hE2 := hE.grown hg2 (by simp; omega); have hown2 := hown.kept hg2 (.inr (fun e => by have := (hown.lt g (by first | exact e | exact e.symm)).1; omega)); have hOc2 := hO2.cell; have HR2 := Lib.hid hR2; have HG2 := Lib.hid hg2; have HS2 := Lib.hid hs2; clear hR2 hg2 hs2 hOc)
        | (at_builtin; refine wpList_append_own _ rfl _ _ 100 rfl (w.heap.size + 4) 102 i0 (.int .u64 0) 1 8 Try.underlying100 hi0 hz0 hz1 hz2 rfl (by decide) _ _ _ rfl (hown2.alloc _) ⟨w2.heap.size, 0, none⟩ 1 1 [.int .u64 ((getv z (p + so ws k) (ws k) : Nat) : Int)] rfl rfl (cell_one_new _ _ _) (by simp [Value.oneCell']) (by unfold maxLen; omega) (by omega) (by have := HS2.out; simp; omega) ?_; intro v' w3 hown' hgrow _; obtain ⟨g', cap', rfl⟩ := ownsRow_succ hown'; obtain ⟨hv1, hv2, hr2, hk2, hb2⟩ := hO2.appended (by decide) (ownsRow_mono hown2 (show w.heap.size + 1 ≤ _ by omega)) (by have := HS2.out; omega) (Nat.le_refl _) (ownsRow_mono hown' (by omega)) hgrow; have hc1 := hv1.cell; have hf1 := hv1.frozen))
      have hown3 := hown'.kept (grownBy_setCell' w3 (w.heap.size + 1) (.slice (some ⟨g', 0, none⟩) (k + 1) cap')) (.inr (hv1.not_row (by decide) hown').symm)
      go_roundw
      case rel =>
        refine ⟨k + 1, by omega, by go_num, ⟨_, hv2, by rw [valList_succ]; exact hown3⟩, ?_, ?_, ?_, ?_⟩
        · have h1 : w3.heap[w.heap.size + 2]? = w2.heap[w.heap.size + 2]? := (hgrow.block (w.heap.size + 2) (by have := HS2.out; simp; omega) (fun e => by have := (hown2.lt _ e.symm).1; omega)).trans (Below.heap_alloc w2 _ _ (by have := HS2.out; omega))
          exact ((Below.heap_setCell w3 _ _ (w.heap.size + 2) (by simp)).trans h1).trans hE2
        · rw [show p + so ws (k + 1) = p + so ws k + ws k by show p + (so ws k + ws k) = _; omega]
          have hfar : ∀ b, b < w.heap.size → (w3.setCell ⟨w.heap.size + 1, 0, none⟩ (.slice (some ⟨g', 0, none⟩) (k + 1) cap')).heap[b]? = w2.heap[b]? := fun b hb => hb2.block b (by omega)
          exact ⟨(hfar g hgl).trans HR2.out.1, fun hn0 => by
            obtain ⟨b, off, e, hb, hc⟩ := HR2.out.2 hn0
            have hbg : b < g := HAG.out _ e
            exact ⟨b, off, e, by have := hb2.size; omega, fun j hj => (cell_of_block (p := ⟨b, off + j, none⟩) (hfar b (by omega))).trans (hc j hj)⟩⟩
        · have h0 : w.grownBy w2 (some g) := ⟨HG2.out.os.trans HG.out.os, HG2.out.tape.trans HG.out.tape, HG2.out.output.trans HG.out.output, Nat.le_trans HG.out.size HG2.out.size, fun b h1 h2 => (HG2.out.block b (by have := HG.out.size; omega) h2).trans (HG.out.block b h1 h2)⟩
          exact ⟨hb2.os.trans h0.os, hb2.tape.trans h0.tape, hb2.output.trans h0.output, Nat.le_trans h0.size hb2.size, fun b h1 h2 => (hb2.block b (by omega)).trans (h0.block b h1 h2)⟩
        · have := hb2.size; have := HS2.out; omega
      case measure => simp [intOf]; omega
    · obtain rfl : k = n := by omega
      have hEc := hE.cell 0
      have hEf := hE.frozen 0
      have hOf := hO.frozen
      go_wp2
      have hO2 : Blk ((wr.setCell ⟨w.heap.size + 1, 0, none⟩ (.slice vA k vc)).setCell ⟨w.heap.size + 1 + 1, 0, none⟩ (.int .i64 0)) (w.heap.size + 1) 100 #[.slice vA k vc] := (Blk.set_ (cs := #[.slice vA k vc]) hO 0 (.slice vA k vc)).far (by simp) _
      have hE2 : Blk ((wr.setCell ⟨w.heap.size + 1, 0, none⟩ (.slice vA k vc)).setCell ⟨w.heap.size + 1 + 1, 0, none⟩ (.int .i64 0)) (w.heap.size + 2) 26 #[.int .i64 0] := (hE.far (by simp) _).set_ 0 (.int .i64 0)
      have y0 := hO2.cell 0
      have y1 := hE2.cell 0
      refine leaves_cons (f := 102) (args := #[.pointer (some ⟨w.heap.size + 1 + 1, 0, none⟩), .pointer (some ⟨w.heap.size + 1 + 1 + 1, 0, none⟩), .pointer (some ⟨w.heap.size, 0, none⟩), .pointer (some ⟨w.heap.size + 1, 0, none⟩)]) (by simp) (by simp [go_sem]) ?_
      refine (each1_idle _ _ _ _ _ y1).mono ?_
      rintro e u' w'' ⟨rfl, rfl, rfl⟩
      refine ⟨.tuple #[.slice vA k vc, .int .i64 0], by simp [results, Try.results97, go_sem, y0, y1], vA, vc, rfl, ?_, ?_⟩
      · have r1 := hvr.apart (cs := #[.slice vA k vc]) hO (by intro i hi j; have h1 : i < 1 := hi; match i, h1 with | 0, _ => simp) (p := ⟨w.heap.size + 1, 0, none⟩) rfl (.slice vA k vc)
        exact r1.apart (hE.far (p := ⟨w.heap.size + 1, 0, none⟩) (by simp) (.slice vA k vc)) (by intro i hi j; have h1 : i < 1 := hi; match i, h1 with | 0, _ => simp) (p := ⟨w.heap.size + 2, 0, none⟩) rfl (.int .i64 0)
      · exact ⟨HG.out.os, HG.out.tape, HG.out.output, by simpa using HG.out.size, fun b h1 h2 => (Below.heap_setCell _ _ _ b (by simp; omega)).trans ((Below.heap_setCell _ _ _ b (by simp; omega)).trans (HG.out.block b h1 h2))⟩
end Go.Proofs.Ytejadoadpgcpjaa
