/- The walk of HeaderFields: the iterator over the fields, left early and used again. -/
import Derived.Test.YtejadoadpgcpjaaFW
namespace Go.Proofs.Ytejadoadpgcpjaa
open Go.RowKit Go.Shelf

attribute [local go_sem] Oper.semAt_some

/-- the name of field k -/
def nm (k : Nat) : ByteArray := ([⟨#[118, 101, 114, 115, 105, 111, 110]⟩, ⟨#[99, 108, 97, 115, 115]⟩, ⟨#[102, 108, 111, 119]⟩, ⟨#[115, 111, 117, 114, 99, 101]⟩, ⟨#[100, 101, 115, 116]⟩, ⟨#[112, 114, 111, 116, 111]⟩, ⟨#[104, 111, 112, 115]⟩, ⟨#[105, 100, 101, 110, 116]⟩, ⟨#[116, 105, 109, 101]⟩, ⟨#[108, 101, 110, 103, 116, 104]⟩] : List ByteArray).getD k ⟨#[]⟩
theorem pname_nm (k : Nat) (hk : k < 10) : pname k = .string (nm k) :=
  ten (p := fun k => pname k = .string (nm k)) rfl rfl rfl rfl rfl rfl rfl rfl rfl rfl k hk
theorem nm_ne (k x : Nat) (hk : k < 10) (h : x ≠ k) : nm x ≠ nm k := by
  have h10 : ∀ k, k < 10 → ∀ x, x < 10 → x ≠ k → nm x ≠ nm k := by decide +kernel
  have h0 : ∀ k, k < 10 → nm k ≠ ⟨#[]⟩ := by decide +kernel
  by_cases hx : x < 10
  · exact h10 k hk x hx h
  · have : nm x = ⟨#[]⟩ := by
      unfold nm
      rw [List.getD, List.getElem?_eq_none (by simp; omega)]; rfl
    rw [this]
    exact fun e => h0 k hk e.symm
def nms : Array Value := #[.string ⟨#[118, 101, 114, 115, 105, 111, 110]⟩, .string ⟨#[99, 108, 97, 115, 115]⟩, .string ⟨#[102, 108, 111, 119]⟩, .string ⟨#[115, 111, 117, 114, 99, 101]⟩, .string ⟨#[100, 101, 115, 116]⟩, .string ⟨#[112, 114, 111, 116, 111]⟩, .string ⟨#[104, 111, 112, 115]⟩, .string ⟨#[105, 100, 101, 110, 116]⟩, .string ⟨#[116, 105, 109, 101]⟩, .string ⟨#[108, 101, 110, 103, 116, 104]⟩]
theorem nms_at (k : Nat) (hk : k < 10) : nms[k]? = some (.string (nm k)) :=
  ten (p := fun k => nms[k]? = some (.string (nm k))) rfl rfl rfl rfl rfl rfl rfl rfl rfl rfl k hk
theorem names42_ok (w : World) :
    Calls Try.prog 25 #[] w fun e w' => e = .returned (.slice (some ⟨w.heap.size, 0, none⟩) 10 10) ∧ w.alloc (.cells nms 9) = w' := by
  go_enter Try.func25, Try.ntmps25
  go_wp2
  go_ret
  exact ⟨rfl, rfl⟩
set_option maxRecDepth 100000 in
set_option maxHeartbeats 2000000 in
theorem fields_stops2 (n : Nat) (w : World) (hn : 1 ≤ n) :
    SeqStopsK Fence.wide n Try.prog 61 #[] (fun k : Nat => #[.string (nm k), .int .i64 (pwd k : Nat)]) (fun _ _ => True) (fun xs => xs = List.range 10) (fun pre => ∃ m, m ≤ 10 ∧ pre = List.range m) 10 w := fun l J Jx W hW hJ hJx hY h0 => by
  have HY := Lib.hid hY
  have HJ := Lib.hid hJ
  clear hJ hJx hY hW
  refine callsIn_of_wp Try.func61 rfl trivial ?_ rfl
  simp only [Try.ntmps61, List.size_toArray, List.length_cons, List.length_nil, Nat.reduceAdd, Nat.reduceSub, Array.replicate_succ, Array.replicate_zero, List.push_toArray, List.append_toArray, List.nil_append, List.cons_append]
  refine wpIn_wide.2 (wp_scope_straight ((wpIn_wide (n := n)).1 ?_))
  gi_wp2
  refine wpIn_label ?_
  gi_wp2_with (refine ⟨trivial, ?_⟩; gi_at_call 53; refine (callsIn_wide.2 (parts_ok _)).mono ?_; rintro e w1 ⟨rfl, hB1, hb1⟩)
  have hJ1 : J [] w1 := HJ.out _ W w1 none h0 (grown_of_below hb1 none) (fun r h => by cases h)
  gi_loopw [5] (fun v wr => ∃ k : Nat, k ≤ 10 ∧ v = .int .i64 k ∧ J (List.range k) wr) (fun v _ => 10 - (intOf v).toNat)
  case atStart => exact ⟨0, by omega, rfl, hJ1⟩
  case round =>
    obtain ⟨k, hk, rfl, hJk⟩ := hrel
    by_cases hlt : k < 10
    · have hix : ∀ X : World, (Instr.index 106 (.agg (partsArr (W.heap.size + 1))) (.int .i64 k)).run Try.prog X = .ok (.agg #[pname k, .int .i64 (pwd k : Nat), pfn (W.heap.size + 1) k]) X := by
        exact ten (p := fun k : Nat => ∀ X : World, (Instr.index 106 (.agg (partsArr (W.heap.size + 1))) (.int .i64 k)).run Try.prog X = .ok (.agg #[pname k, .int .i64 (pwd k : Nat), pfn (W.heap.size + 1) k]) X) (fun _ => by kernel_rfl) (fun _ => by kernel_rfl) (fun _ => by kernel_rfl) (fun _ => by kernel_rfl) (fun _ => by kernel_rfl) (fun _ => by kernel_rfl) (fun _ => by kernel_rfl) (fun _ => by kernel_rfl) (fun _ => by kernel_rfl) (fun _ => by kernel_rfl) k hlt
      have hsn := pname_nm k hlt
      obtain ⟨sn, hsn2⟩ : ∃ sn, sn = nm k := ⟨_, rfl⟩
      rw [← hsn2] at hsn
      obtain ⟨F, caps, hF⟩ := pfn_func (W.heap.size + 1) k hlt
      rw [hsn, hF] at hix
      obtain ⟨W2, hW2⟩ : ∃ W2, W2 = wr.alloc (.cells #[.string sn, .int .i64 (pwd k : Nat), .func F #[] caps] 105) := ⟨_, rfl⟩
      have hJ2 : J (List.range k) W2 := by rw [hW2]; exact HJ.out _ wr _ none hJk (World.grownBy_alloc wr _ none) (fun r h => by cases h)
      have hY2 := HY.out (List.range k) k W2 hJ2 (by simpa using hlt)
      rw [← hsn2] at hY2
      obtain ⟨fn, tmps, assign, body, hy, hR⟩ := hY2
      have HRr := Lib.hid hR
      have HW2 := Lib.hid hW2
      rw [hW2] at hy
      clear hR hsn hsn2 hF hW2
      gi_wp2
      rw [← HW2.out]
      refine HRr.out.mono ?_
      rintro e w4 (⟨rfl, hJ4, _⟩ | ⟨rfl, hx4⟩)
      · gi_wp2
        go_roundw
        case rel => exact ⟨k + 1, by omega, by go_num, by rw [List.range_succ]; exact hJ4⟩
        case measure => simp [intOf]; omega
      · gi_wp2
        try rw [Exit.noGoto_normal]
        go_end0
        exact ⟨⟨_, rfl⟩, .inr ⟨List.range (k + 1), ⟨k + 1, by omega, rfl⟩, by rw [List.range_succ]; exact hx4⟩⟩
    · obtain rfl : k = 10 := by omega
      gi_wp2
      try rw [Exit.noGoto_normal]
      go_end0
      exact ⟨⟨_, rfl⟩, .inl ⟨_, rfl, hJk⟩⟩
theorem len_snoc (pre : List Nat) (x : Nat) : (((pre ++ [x]).length : Nat) : Int) = (pre.length : Int) + 1 := by simp
theorem range_snoc {pre : List Nat} (h : pre = List.range pre.length) : pre ++ [pre.length] = List.range (pre ++ [pre.length]).length := by
  rw [List.length_append, List.length_singleton, List.range_succ, ← h]
theorem not_range_snoc {pre : List Nat} {x : Nat} (h : x ≠ pre.length) : pre ++ [x] ≠ List.range (pre ++ [x]).length := by
  intro e
  rw [List.length_append, List.length_singleton, List.range_succ] at e
  have := List.append_inj_right' e rfl
  simp at this
  exact h this

theorem seq_not_nil (w : World) : (binOp .eql 46 (.func (.func 61) #[] #[]) .nilFunc).run Try.prog w = .ok (.bool false) w := by kernel_rfl
theorem bytes_ext {a b : ByteArray} (h : a.toList = b.toList) : a = b := by
  rw [ByteArray.toList_eq, ByteArray.toList_eq] at h
  obtain ⟨⟨x⟩⟩ := a
  obtain ⟨⟨y⟩⟩ := b
  have h2 : x = y := h
  rw [h2]
theorem blk_at (W : World) (t : TypeId) (cs : Array Value) (N : Nat) (hN : W.heap.size = N) : Blk (W.alloc (.cells cs t)) N t cs := by
  subst hN; exact Blk.new W t cs
/-- the cells of the law's own variables -/
structure FCells (w : World) (many : Int) (W : World) : Prop where
  many : Blk W w.heap.size 3 #[.int .i64 many]
  out : Blk W (w.heap.size + 1) 4 #[.bool false]
  names : Blk W (w.heap.size + 1 + 1) 9 nms
  widths : Blk W (w.heap.size + 1 + 1 + 1) 3 hwds
  nv : Blk W (w.heap.size + 1 + 1 + 1 + 1) 41 #[.slice (some ⟨w.heap.size + 1 + 1, 0, none⟩) 10 10]
  wv : Blk W (w.heap.size + 1 + 1 + 1 + 1 + 1) 43 #[.slice (some ⟨w.heap.size + 1 + 1 + 1, 0, none⟩) 10 10]
theorem FCells.plain {w W : World} {many : Int} (h : FCells w many W) : W.cell? ⟨w.heap.size, 0, none⟩ = some (.int .i64 many) ∧ W.cell? ⟨w.heap.size + 1, 0, none⟩ = some (.bool false) ∧ W.frozen? ⟨w.heap.size + 1, 0, none⟩ = false ∧
    W.cell? ⟨w.heap.size + 1 + 1 + 1 + 1, 0, none⟩ = some (.slice (some ⟨w.heap.size + 1 + 1, 0, none⟩) 10 10) ∧ W.cell? ⟨w.heap.size + 1 + 1 + 1 + 1 + 1, 0, none⟩ = some (.slice (some ⟨w.heap.size + 1 + 1 + 1, 0, none⟩) 10 10) :=
  ⟨h.many.cell 0, h.out.cell 0, h.out.frozen 0, h.nv.cell 0, h.wv.cell 0⟩
theorem FCells.next {w W U : World} {many : Int} {B : Nat} (h : FCells w many W) (hb : Below B W U) (hB : w.heap.size + 6 ≤ B) : FCells w many U :=
  ⟨h.many.below hb (by omega), h.out.below hb (by omega), h.names.below hb (by omega), h.widths.below hb (by omega), h.nv.below hb (by omega), h.wv.below hb (by omega)⟩

set_option maxRecDepth 100000 in
set_option maxHeartbeats 4000000 in
theorem fields_core (many : Int) (w : World) :
    Calls Try.prog 5 #[.int .i64 many] w fun e w' => e = .returned (.bool true) ∧ Below w.heap.size w w' := by
  have hnn := seq_not_nil
  refine (callsIn_wide (n := 8)).1 ?_
  refine callsIn_of_wp_marks Try.func5 rfl trivial ?_ rfl
  simp only [Try.ntmps5, List.size_toArray, List.length_cons, List.length_nil, Nat.reduceAdd, Nat.reduceSub, Array.replicate_succ, Array.replicate_zero, List.push_toArray, List.append_toArray, List.nil_append, List.cons_append]
  gi_wp2_with (first
    | (refine ⟨trivial, ?_⟩; gi_at_call 25; refine (callsIn_wide.2 (names42_ok _)).mono ?_; rintro e w1 ⟨rfl, rfl⟩)
    | (refine ⟨trivial, ?_⟩; gi_at_call 26; refine (callsIn_wide.2 (widths42_ok _)).mono ?_; rintro e w1 ⟨rfl, rfl⟩)
    | (refine ⟨trivial, ?_⟩; gi_at_call 27; refine (callsIn_wide.2 (fields_fn _)).mono ?_; rintro e w3 ⟨rfl, rfl⟩))
  obtain ⟨w2, hw2⟩ : ∃ w2, w2 = ((((((w.alloc (.cells #[.int .i64 many] 3)).alloc (.cells #[.bool false] 4)).alloc (.cells nms 9)).alloc (.cells hwds 3)).alloc (.cells #[.slice (some ⟨w.heap.size + 1 + 1, 0, none⟩) 10 10] 41)).alloc (.cells #[.slice (some ⟨w.heap.size + 1 + 1 + 1, 0, none⟩) 10 10] 43)) := ⟨_, rfl⟩
  have z2 : w.heap.size + 1 + 1 + 1 + 1 + 1 + 1 = w2.heap.size := by rw [hw2]; simp
  have q0 : Blk w2 (w.heap.size) 3 #[.int .i64 many] := by rw [hw2]; exact (((((blk_at w 3 #[.int .i64 many] (w.heap.size) (by simp)).alloc _).alloc _).alloc _).alloc _).alloc _
  have q1 : Blk w2 (w.heap.size + 1) 4 #[.bool false] := by rw [hw2]; exact ((((blk_at (w.alloc (.cells #[.int .i64 many] 3)) 4 #[.bool false] (w.heap.size + 1) (by simp)).alloc _).alloc _).alloc _).alloc _
  have qn : Blk w2 (w.heap.size + 1 + 1) 9 nms := by rw [hw2]; exact (((blk_at ((w.alloc (.cells #[.int .i64 many] 3)).alloc (.cells #[.bool false] 4)) 9 nms (w.heap.size + 1 + 1) (by simp)).alloc _).alloc _).alloc _
  have qw : Blk w2 (w.heap.size + 1 + 1 + 1) 3 hwds := by rw [hw2]; exact ((blk_at (((w.alloc (.cells #[.int .i64 many] 3)).alloc (.cells #[.bool false] 4)).alloc (.cells nms 9)) 3 hwds (w.heap.size + 1 + 1 + 1) (by simp)).alloc _).alloc _
  have q3 : Blk w2 (w.heap.size + 1 + 1 + 1 + 1) 41 #[.slice (some ⟨w.heap.size + 1 + 1, 0, none⟩) 10 10] := by rw [hw2]; exact (blk_at ((((w.alloc (.cells #[.int .i64 many] 3)).alloc (.cells #[.bool false] 4)).alloc (.cells nms 9)).alloc (.cells hwds 3)) 41 #[.slice (some ⟨w.heap.size + 1 + 1, 0, none⟩) 10 10] (w.heap.size + 1 + 1 + 1 + 1) (by simp)).alloc _
  have q4 : Blk w2 (w.heap.size + 1 + 1 + 1 + 1 + 1) 43 #[.slice (some ⟨w.heap.size + 1 + 1 + 1, 0, none⟩) 10 10] := by rw [hw2]; exact blk_at (((((w.alloc (.cells #[.int .i64 many] 3)).alloc (.cells #[.bool false] 4)).alloc (.cells nms 9)).alloc (.cells hwds 3)).alloc (.cells #[.slice (some ⟨w.heap.size + 1 + 1, 0, none⟩) 10 10] 41)) 43 #[.slice (some ⟨w.heap.size + 1 + 1 + 1, 0, none⟩) 10 10] (w.heap.size + 1 + 1 + 1 + 1 + 1) (by simp)
  have hW2 : Below w.heap.size w w2 := by rw [hw2]; exact (((((((Below.refl w.heap.size w).alloc (by simp; try omega) (.cells #[.int .i64 many] 3)).alloc (by simp; try omega) (.cells #[.bool false] 4)).alloc (by simp; try omega) (.cells nms 9)).alloc (by simp; try omega) (.cells hwds 3)).alloc (by simp; try omega) (.cells #[.slice (some ⟨w.heap.size + 1 + 1, 0, none⟩) 10 10] 41)).alloc (by simp; try omega) (.cells #[.slice (some ⟨w.heap.size + 1 + 1 + 1, 0, none⟩) 10 10] 43))
  rw [← hw2, z2]
  have Z2 := Lib.hid z2
  have hz2 : w.heap.size + 6 ≤ w2.heap.size := by omega
  clear hw2 z2
  refine wpIn_loop_rounds 3 ?_
  rw [roundsIn_succ]
  gi_wp2
  obtain ⟨W0, hW0⟩ : ∃ W0, W0 = (w2.alloc (.cells #[.int .i64 0] 3)).alloc (.cells #[.int .i64 0] 3) := ⟨_, rfl⟩
  have b0 : Below w2.heap.size w2 W0 := by rw [hW0]; exact ((Below.refl w2.heap.size w2).alloc (Nat.le_refl _) _).alloc (by simp) _
  have z0 : W0.heap.size = w2.heap.size + 2 := by rw [hW0]; simp
  have t0 : Blk W0 w2.heap.size 3 #[.int .i64 0] := by rw [hW0]; exact (Blk.new _ _ _).alloc _
  have n0 : Blk W0 (w2.heap.size + 1) 3 #[.int .i64 0] := by
    rw [hW0]
    have := Blk.new (w2.alloc (.cells #[.int .i64 0] 3)) 3 #[.int .i64 0]
    rwa [World.size_alloc] at this
  rw [← hW0]
  have HW0 := Lib.hid hW0
  clear hW0
  have z0' : w2.heap.size + 2 ≤ W0.heap.size := by omega
  have hc0 : ∀ (W : World), Below (w2.heap.size + 1) W0 W → FCells w many W ∧ Blk W w2.heap.size 3 #[.int .i64 0] := by
    intro W hb
    have hb2 : Below w2.heap.size w2 W := b0.trans (hb.mono (by omega))
    exact ⟨⟨q0.below hb2 (by omega), q1.below hb2 (by omega), qn.below hb2 (by omega), qw.below hb2 (by omega), q3.below hb2 (by omega), q4.below hb2 (by omega)⟩, t0.below hb (by omega)⟩
  have HC0 := Lib.hid hc0
  clear hc0
  refine wpIn_rangeFunc_ownF rfl (by decide) (gf := 61) (lb := #[]) rfl trivial (enters_of Try.func61 (by kernel_rfl) rfl)
    (fields_stops2 7 W0 (by decide)) (fun _ _ => trivial) (fun _ _ _ _ _ _ _ _ => trivial) (Below.refl _ _) (fun _ => rfl)
    (fun pre W => (W.cell? ⟨w2.heap.size + 1, 0, none⟩ = some (.int .i64 (pre.length : Nat)) ∧ W.frozen? ⟨w2.heap.size + 1, 0, none⟩ = false ∧ pre = List.range pre.length ∧ (pre.length = 0 ∨ ((pre.length : Nat) : Int) < many)) ∧ Below (w2.heap.size + 1) W0 W)
    (fun c pre W => ((c = .ret ∧ pre ≠ List.range pre.length) ∨ (c = .exit 2 ∧ W.cell? ⟨w2.heap.size + 1, 0, none⟩ = some (.int .i64 (pre.length : Nat)) ∧ many ≤ ((pre.length : Nat) : Int) ∧ 1 ≤ pre.length ∧ (pre.length = 1 ∨ ((pre.length : Nat) : Int) ≤ many) ∧ Below (w2.heap.size + 1) W0 W)))
    (OwnFrom.and (Own.from (fun s A B row hs hg hr => ⟨cell_kept hs.1 hg hr, (frozen_kept hs.1 hg hr).trans hs.2.1, hs.2.2⟩) _) (ownFrom_below (by omega) (by omega)))
    (fun c s A B row hs hg hr => ?ixown)
    ⟨⟨n0.cell 0, n0.frozen 0, rfl, .inl rfl⟩, Below.refl _ _⟩
    ?a1 ?assign ?body ?done ?stop
  case ixown =>
    rcases hs with hs | ⟨h1, h2, h3, h4, h5, h6⟩
    · exact .inl hs
    · exact .inr ⟨h1, cell_kept h2 hg (fun r e => (hr r e).2), h3, h4, h5, ownFrom_below (β := List Nat) (n₀ := w2.heap.size + 1) (w₀ := W0) (B := W0.heap.size) (by omega) (by omega) s A B row h6 hg hr⟩
  case assign =>
    intro l x W K hK
    gi_wp2
    exact hK
  case body =>
    rintro l pre x W ⟨⟨hc, hf, hpre, hm⟩, hBW⟩ hlen
    obtain ⟨FC, TB⟩ := HC0.out W hBW
    obtain ⟨e1, e2, e2f, e3, e4⟩ := FC.plain
    have e5 := TB.cell 0
    have hl0 := (FC.names.cell pre.length).trans (nms_at _ hlen)
    have hl1 := (FC.widths.cell pre.length).trans (hwds_at _ hlen)
    have HP := Lib.hid hpre
    have HM := Lib.hid hm
    have hd0 : (0 : Int) ≤ (pre.length : Int) := by omega
    have hd1 : (pre.length : Int) < 10 := by omega
    clear hpre hm FC TB
    by_cases hx : x = pre.length
    · subst hx
      obtain ⟨sn, hsn⟩ : ∃ sn, sn = nm pre.length := ⟨_, rfl⟩
      rw [← hsn] at hl0 ⊢
      have HSN := Lib.hid hsn
      clear hsn
      by_cases hmany : many ≤ ((pre.length + 1 : Nat) : Int)
      · gi_wp2
        exact ⟨KeepsOthers.setCell _ _ _, .inr ⟨rfl, by rw [len_snoc]; exact World.cell?_setCell_same' _ _ _ (by rw [hc]; rfl), by rw [len_snoc]; exact hmany, by simp,
          by rw [len_snoc]; rw [List.length_append, List.length_singleton]; rcases HM.out with h | h <;> omega,
          hBW.setCell (p := ⟨w2.heap.size + 1, 0, none⟩) (Nat.le_refl _) _⟩⟩
      · gi_wp2
        exact ⟨KeepsOthers.setCell _ _ _, trivial, ⟨by rw [len_snoc]; exact World.cell?_setCell_same' _ _ _ (by rw [hc]; rfl),
          by rw [World.frozen?_setCell]; exact hf, range_snoc HP.out, .inr (by rw [len_snoc]; omega)⟩,
          hBW.setCell (p := ⟨w2.heap.size + 1, 0, none⟩) (Nat.le_refl _) _⟩
    · have hne := nm_ne pre.length x hlen hx
      obtain ⟨sn, hsn⟩ : ∃ sn, sn = nm pre.length := ⟨_, rfl⟩
      obtain ⟨sx, hsx⟩ : ∃ sx, sx = nm x := ⟨_, rfl⟩
      rw [← hsn, ← hsx] at hne
      rw [← hsn] at hl0
      rw [← hsx]
      have hd2 : ¬ (sx.toList = sn.toList) := fun e => hne (bytes_ext e)
      have hd3 : (sx.toList == sn.toList) = false := by simpa using hd2
      have HSN := Lib.hid hsn
      have HSX := Lib.hid hsx
      clear hsn hsx
      gi_wp2
      exact ⟨KeepsOthers.setCell _ _ _, .inl ⟨rfl, not_range_snoc hx⟩⟩
  case' done =>
    rintro D xs W hD rfl ⟨⟨hc, hf, hpre, hm⟩, hBW⟩ hK
    obtain ⟨FC, TB⟩ := HC0.out W hBW
    obtain ⟨e1, e2, e2f, e3, e4⟩ := FC.plain
    have e5 := TB.cell 0
    have e5f := TB.frozen 0
    have HFC := Lib.hid FC
    rw [List.length_range] at hc hm
    clear hpre FC TB
    gi_wp2
    all_goals (rw [roundsIn_succ]; gi_wp2)
  case' stop =>
    rintro D c pre W hD ⟨m, hmN, rfl⟩ (⟨rfl, h⟩ | ⟨rfl, hc, hm1, hm2, hm3, hBW⟩) hK
    · exact absurd (by rw [List.length_range]) h
    rw [List.length_range] at hc hm1 hm2 hm3
    obtain ⟨FC, TB⟩ := HC0.out W hBW
    obtain ⟨e1, e2, e2f, e3, e4⟩ := FC.plain
    have e5 := TB.cell 0
    have e5f := TB.frozen 0
    have HFC := Lib.hid FC
    clear FC TB
    gi_wp2
    all_goals (rw [roundsIn_succ]; gi_wp2)
  all_goals
    have HBW := Lib.hid hBW
    clear hBW hc
    have hDW : D < W.heap.size := (Array.getElem?_eq_some_iff.1 hK).1
    have hw2W : w2.heap.size + 2 ≤ W.heap.size := by omega
    obtain ⟨V, hV⟩ : ∃ V, V = (W.alloc (.cells #[.int .i64 1] 3)).alloc (.cells #[.int .i64 0] 3) := ⟨_, rfl⟩
    have bV : Below W.heap.size W V := by rw [hV]; exact ((Below.refl W.heap.size W).alloc (Nat.le_refl _) _).alloc (by simp) _
    have zV : V.heap.size = W.heap.size + 2 := by rw [hV]; simp
    have tV : Blk V W.heap.size 3 #[.int .i64 1] := by rw [hV]; exact (Blk.new _ _ _).alloc _
    have nV : Blk V (W.heap.size + 1) 3 #[.int .i64 0] := by
      rw [hV]
      have := Blk.new (W.alloc (.cells #[.int .i64 1] 3)) 3 #[.int .i64 0]
      rwa [World.size_alloc] at this
    rw [← hV]
    have HV := Lib.hid hV
    clear hV
    have zV' : W.heap.size + 2 ≤ V.heap.size := by omega
    have hc1 : ∀ (U : World), Below (W.heap.size + 1) V U → FCells w many U ∧ Blk U W.heap.size 3 #[.int .i64 1] ∧ U.heap[D]? = some (.deferred (some [])) := by
      intro U hb
      have hb2 : Below W.heap.size W U := bV.trans (hb.mono (by omega))
      exact ⟨HFC.out.next hb2 (by omega), tV.below hb (by omega), (hb.block D (by omega)).trans ((bV.block D hDW).trans hK)⟩
    have HC1 := Lib.hid hc1
    clear hc1
    clear e1 e2 e2f e3 e4 e5 e5f
    refine wpIn_rangeFunc_ownF rfl (by decide) (gf := 61) (lb := #[]) rfl trivial (enters_of Try.func61 (by kernel_rfl) rfl)
      (fields_stops2 7 V (by decide)) (fun _ _ => trivial) (fun _ _ _ _ _ _ _ _ => trivial) (Below.refl _ _) (fun _ => rfl)
      (fun pre U => (U.cell? ⟨W.heap.size + 1, 0, none⟩ = some (.int .i64 (pre.length : Nat)) ∧ U.frozen? ⟨W.heap.size + 1, 0, none⟩ = false ∧ pre = List.range pre.length) ∧ Below (W.heap.size + 1) V U)
      (fun c pre U => c = .ret ∧ pre ≠ List.range pre.length)
      (OwnFrom.and (Own.from (fun s A B row hs hg hr => ⟨cell_kept hs.1 hg hr, (frozen_kept hs.1 hg hr).trans hs.2.1, hs.2.2⟩) _) (ownFrom_below (by omega) (by omega)))
      (fun c s A B row hs hg hr => hs)
      ⟨⟨nV.cell 0, nV.frozen 0, rfl⟩, Below.refl _ _⟩
      ?_ ?_ ?_ ?_ ?_
    rotate_left
    · intro l x U K hK
      gi_wp2
      exact hK
    · rintro l pre x U ⟨⟨hc, hf, hpre⟩, hBU⟩ hlen
      obtain ⟨FC, TB, hKU⟩ := HC1.out U hBU
      obtain ⟨e1, e2, e2f, e3, e4⟩ := FC.plain
      have e5 := TB.cell 0
      have hl0 := (FC.names.cell pre.length).trans (nms_at _ hlen)
      have hl1 := (FC.widths.cell pre.length).trans (hwds_at _ hlen)
      have HP := Lib.hid hpre
      have hd0 : (0 : Int) ≤ (pre.length : Int) := by omega
      have hd1 : (pre.length : Int) < 10 := by omega
      clear hpre FC TB
      by_cases hx : x = pre.length
      · subst hx
        obtain ⟨sn, hsn⟩ : ∃ sn, sn = nm pre.length := ⟨_, rfl⟩
        rw [← hsn] at hl0 ⊢
        have HSN := Lib.hid hsn
        clear hsn
        gi_wp2
        exact ⟨KeepsOthers.setCell _ _ _, trivial, ⟨by rw [len_snoc]; exact World.cell?_setCell_same' _ _ _ (by rw [hc]; rfl),
          by rw [World.frozen?_setCell]; exact hf, range_snoc HP.out⟩, hBU.setCell (p := ⟨W.heap.size + 1, 0, none⟩) (Nat.le_refl _) _⟩
      · have hne := nm_ne pre.length x hlen hx
        obtain ⟨sn, hsn⟩ : ∃ sn, sn = nm pre.length := ⟨_, rfl⟩
        obtain ⟨sx, hsx⟩ : ∃ sx, sx = nm x := ⟨_, rfl⟩
        rw [← hsn, ← hsx] at hne
        rw [← hsn] at hl0
        rw [← hsx]
        have hd2 : ¬ (sx.toList = sn.toList) := fun e => hne (bytes_ext e)
        have hd3 : (sx.toList == sn.toList) = false := by simpa using hd2
        have HSN := Lib.hid hsn
        have HSX := Lib.hid hsx
        clear hsn hsx
        gi_wp2
        exact ⟨KeepsOthers.setCell _ _ _, rfl, not_range_snoc hx⟩
    · rintro D2 xs U hD2 rfl ⟨⟨hc, hf, hpre⟩, hBU⟩ hK2
      obtain ⟨FC, TB, hKU⟩ := HC1.out U hBU
      obtain ⟨e1, e2, e2f, e3, e4⟩ := FC.plain
      have e5 := TB.cell 0
      have e5f := TB.frozen 0
      rw [List.length_range] at hc
      clear hpre FC TB
      have hU := hBU.size
      gi_wp2
      all_goals (rw [roundsIn_succ]; gi_wp2_with (refine ⟨trivial, ?_⟩; gi_at_call 15; refine (callsIn_wide.2 (works_true _)).mono ?_; rintro e w9 ⟨rfl, h9⟩; have q9 := (h9.cell (p := ⟨w.heap.size + 1, 0, none⟩) (by simp; omega)).trans ((World.cell?_alloc_lt U _ ⟨w.heap.size + 1, 0, none⟩ (by simp; omega)).trans e2); have q9f := (h9.frozen (p := ⟨w.heap.size + 1, 0, none⟩) (by simp; omega)).trans ((frozen?_alloc_cells _ _ _ _).trans e2f)))
      all_goals
        have hD9 : w9.heap[D]? = some (.deferred (some [])) := (h9.block D (by simp; have := hBU.size; omega)).trans ((Below.heap_alloc U _ D (by have := hBU.size; omega)).trans hKU)
        have hD29 : w9.heap[D2]? = some (.deferred (some [])) := (h9.block D2 (by have := (Array.getElem?_eq_some_iff.1 hK2).1; simp; omega)).trans ((Below.heap_alloc U _ D2 ((Array.getElem?_eq_some_iff.1 hK2).1)).trans hK2)
        have k9 := KeepsOthers.setCell w9 ⟨w.heap.size + 1, 0, none⟩ (.bool true)
        have hD9' := k9.same D _ hD9 rfl
        have hD29' := k9.same D2 _ hD29 rfl
        have hne : D ≠ D2 := by have := hBU.size; omega
        refine ⟨by simp, .inl ⟨_, _, rfl, run_takeDeferred hD29', ?_⟩⟩
        refine ⟨by simp, .inl ⟨_, _, rfl, run_takeDeferred ((World.putObj_heap_other hne).trans hD9'), ?_⟩⟩
        have h5 : (((w9.setCell ⟨w.heap.size + 1, 0, none⟩ (.bool true)).putObj D2 (.deferred none)).putObj D (.deferred none)).cell? ⟨w.heap.size + 1, 0, none⟩ = some (.bool true) :=
          cell_kept (cell_kept (World.cell?_setCell_same' w9 ⟨w.heap.size + 1, 0, none⟩ (.bool true) (by rw [q9]; rfl)) (grownBy_putObj' _ D2 (.deferred none)) (fun r e => by cases e; exact ⟨_, hD29', rfl⟩))
            (grownBy_putObj' _ D (.deferred none)) (fun r e => by cases e; exact ⟨_, (World.putObj_heap_other hne).trans hD9', rfl⟩)
        refine ⟨.bool true, ?_, rfl, ?_⟩
        · simp [results, go_sem, h5]
        · have hb : Below w.heap.size w ((w9.setCell ⟨w.heap.size + 1, 0, none⟩ (.bool true))) := (((((hW2.trans (b0.mono (by omega))).trans (HBW.out.mono (by omega))).trans (bV.mono (by omega))).trans (hBU.mono (by omega))).alloc (by omega) _ |>.trans (h9.mono (by simp; omega))).setCell (p := ⟨w.heap.size + 1, 0, none⟩) (by simp) _
          have hz9 := hb.size
          exact (hb.grown (grownBy_putObj' _ D2 (.deferred none)) hz9 (fun k e => by cases e; omega)).grown (grownBy_putObj' _ D (.deferred none)) (by rw [World.putObj_size]; exact hz9) (fun k e => by cases e; omega)
    · rintro D2 c pre U hD2 ⟨m2, hmN2, rfl⟩ ⟨rfl, h⟩ hK2
      exact absurd (by rw [List.length_range]) h
end Go.Proofs.Ytejadoadpgcpjaa
