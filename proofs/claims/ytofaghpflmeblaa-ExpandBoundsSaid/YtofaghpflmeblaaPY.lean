/- ExpandBounds: the walk. -/
import Derived.Test.YtofaghpflmeblaaPX
import Derived.Deep.RegionHeld3
namespace Go.Proofs.Ytofaghpflmeblaa
open Go.RowKit Go.WideShapes Go.Lib
set_option linter.unusedVariables false
attribute [local go_sem ↓] Go.wp_at_zero Go.wp_at_succ

theorem own_lit {w : World} {g base : Nat} {t : TypeId} {cs : Array Value} (n : Nat) (h : Blk w g t cs) (hn : cs.size = n) (hm : n ≤ maxLen) (hb : base ≤ g) : w.ownsRow base t 1 (.slice (some ⟨g, 0, none⟩) n n) n cs.toList :=
  ⟨by simp [hn], .inr ⟨g, n, cs, rfl, hb, h, Nat.le_refl _, hm, by simp [hn], by rw [List.take_of_length_le]; simp [hn]⟩⟩
theorem own_keep {w w' : World} {g base b n m c : Nat} {t : TypeId} {xs : List Value} (h : w.ownsRow base t 1 (.slice (some ⟨b, 0, none⟩) m c) n xs) (k : Keep1 g w w') (hne : b ≠ g) : w'.ownsRow base t 1 (.slice (some ⟨b, 0, none⟩) m c) n xs :=
  h.kept k (.inr (by simp [Value.ownBlock]; exact hne))
theorem own_belw {w w' : World} {base n B : Nat} {v : Value} {t : TypeId} {xs : List Value} (h : w.ownsRow base t 1 v n xs) (k : Below B w w') (hB : w.heap.size ≤ B) : w'.ownsRow base t 1 v n xs :=
  h.kept (row := none) ⟨k.os, k.tape, k.output, k.size, fun i hi _ => k.block i (by omega)⟩ (by cases hv : v.ownBlock <;> simp)
theorem below_grown {base b : Nat} {w w' : World} (h : w.grownBy w' (some b)) (hb : base ≤ b) (hs : base ≤ w.heap.size) : Below base w w' := (Below.refl base w).grown h hs fun k hk => by cases hk; exact hb
theorem str18 (q : ByteArray) (h : strCells q = (l20.drop 2).map (Value.int .u8)) : ([.int .u8 0, .int .u8 7] : List Value) ++ strCells q = l20.map (Value.int .u8) := by rw [h]; rfl
theorem cells18 : strCells ((pstr 7).extract 0 18) = (l20.drop 2).map (Value.int .u8) := by kernel_rfl
theorem cat18 : (pstr 7).extract 0 18 ++ ⟨#[0, 20]⟩ = pk20 := by decide +kernel
theorem size18 : ((pstr 7).extract 0 18).size = 18 := by decide +kernel
theorem size7 : (pstr 7).size = 21 := by decide +kernel
theorem bytes20 : bytesOf 20 (zb l20) = full20 := by decide +kernel
theorem own_row20 {w : World} {base g cap : Nat} (h : w.ownsRow base 5 1 (.slice (some ⟨g, 0, none⟩) 20 cap) 20 (l20.map (Value.int .u8))) : Row w w.heap.size (some ⟨g, 0, none⟩) 20 (fun j => .int .u8 (zb l20 j)) := by
  have := zb_row (w := w) (base := base) (g := g) (cap := cap) (m := 0) l20 (by rw [List.replicate_zero, List.append_nil]; exact h)
  exact this
theorem full_string {w : World} {base g cap : Nat} (h : w.ownsRow base 5 1 (.slice (some ⟨g, 0, none⟩) 20 cap) 20 (l20.map (Value.int .u8))) : (convert 24 9 (.slice (some ⟨g, 0, none⟩) 20 cap)).run Try.prog w = .ok (.string full20) w := by
  have := row_string 24 9 5 Try.underlying24 Try.underlying5 Try.underlying9 (own_row20 h) cap
  rw [bytes20] at this
  exact this
theorem zb_bound (l : List Int) (h : l.all (fun x => decide (0 ≤ x ∧ x < 256)) = true) (j : Nat) : 0 ≤ zb l j ∧ zb l j < 256 := by
  unfold zb List.getD
  cases e : l[j]? with
  | none => simp
  | some x => simpa using List.all_eq_true.1 h x (List.mem_of_getElem? e)
theorem k0z : ∀ j, 0 ≤ zb l20 j ∧ zb l20 j < 256 := zb_bound _ (by decide +kernel)
theorem k1z : ∀ j, 0 ≤ zb l6 j ∧ zb l6 j < 256 := zb_bound _ (by decide +kernel)
theorem k2z : ∀ j, 0 ≤ zb l3 j ∧ zb l3 j < 256 := zb_bound _ (by decide +kernel)
theorem k3z : ∀ j, 0 ≤ zb l1 j ∧ zb l1 j < 256 := zb_bound _ (by decide +kernel)

set_option maxRecDepth 100000 in
set_option maxHeartbeats 4000000 in
theorem bounds_kind0f (w : World) :
    Calls Try.prog 3 #[.int .i64 0, .bool false] w fun e w' => e = .returned (.bool true) ∧ Below w.heap.size w w' := by
  obtain ⟨i0, hi, hz0, hz1, hz2⟩ := info_parts Try.infoByte
  have C18 := cells18
  have S18 := size18
  have S7 := size7
  have T18 := cat18
  have H7 := Lib.hid (fun W => pk7x W)
  have H10 := Lib.hid (fun W => pk10x W)
  have IC := Lib.hid (fun g S W h => isc g S W h)
  obtain ⟨q7, hq7⟩ : ∃ q, q = pstr 7 := ⟨_, rfl⟩
  obtain ⟨q10, hq10⟩ : ∃ q, q = pstr 10 := ⟨_, rfl⟩
  rw [← hq7] at H7 C18 S18 S7 T18
  rw [← hq10] at H10 IC
  obtain ⟨q18, hq18⟩ : ∃ q, q = q7.extract 0 18 := ⟨_, rfl⟩
  rw [← hq18] at C18 S18 T18
  have X18 := hq18.symm
  have HC18 := Lib.hid (str18 q18 C18)
  have I20 := Lib.hid (fun g W h => is20 g W h)
  have FS := Lib.hid (fun (W : World) (base g cap : Nat) h => full_string (w := W) (base := base) (g := g) (cap := cap) h)
  obtain ⟨f20, hf20⟩ : ∃ q, q = full20 := ⟨_, rfl⟩
  obtain ⟨p20, hp20⟩ : ∃ q, q = pk20 := ⟨_, rfl⟩
  rw [← hf20] at FS I20
  rw [← hp20] at T18 I20
  replace S18 := Lib.hid S18
  clear hq7 hq10 hq18 C18 hf20 hp20
  go_enter Try.func3, Try.ntmps3
  go_wp2_with (first
    | (go_at_call 10; ((with_reducible refine (enew_ok2 _).mono ?_); rintro e w0 ⟨rfl, hK0, hB0⟩; have K0 := Lib.hid (show EB w0 w.heap.size true yxs0 from hK0); have B0 := Lib.hid hB0; clear hK0 hB0))
    | (go_at_call 11; ((with_reducible refine (H7.out _).mono ?_); rintro e w1 ⟨rfl, hB1⟩; have K1 := Lib.hid ((K0.out.alloc (.cells #[.int .u8 0, .int .u8 7] 5)).below hB1 (by have := K0.out.lt; simp; omega)); have O1 := Lib.hid (own_lit 2 ((Blk.new w0 5 #[.int .u8 0, .int .u8 7]).below hB1 (by simp)) rfl (by decide) (Nat.le_refl _)); have B1 := Lib.hid (below_step (below_new B0.out (.cells #[.int .u8 0, .int .u8 7] 5)) hB1); have Z1 := Lib.hid hB1.size; clear hB1))
    | (at_builtin; refine wpList_append_own_string _ rfl _ _ 24 9 rfl w0.heap.size 5 i0 Try.underlying24 Try.underlying9 hi hz0 hz1 hz2 _ 2 _ rfl O1.out q18 rfl (by rw [S18.out]; decide) (by rw [S18.out]; decide) (by have := Z1.out; simp at this; omega) ?_; intro v' w2 hown2 hg2 _; rw [S18.out] at hown2; rw [HC18.out] at hown2; obtain ⟨gf, cf, hv', hgf1, hgf2, hcf⟩ := own_room hown2 (by decide); subst hv'; have O2 := Lib.hid hown2; have G2 := below_grown (base := w0.heap.size) hg2 (Nat.le_refl _) (by have := Z1.out; simp at this; omega); have K2 := Lib.hid (K1.out.below G2 K0.out.lt); have B2 := Lib.hid (B1.out.trans (G2.mono (Nat.le_of_lt K0.out.lt))); clear hown2 hg2 G2)
    | fail)
  have s18 := S18.out
  go_region_held3 (fun w' => (convert 24 9 (.slice (some ⟨gf, 0, none⟩) 20 cf)).run Try.prog w' = .ok (.string f20) w') (first | exact FS.out _ _ _ _ O2.out | exact FS.out _ _ _ _ O3.out | exact FS.out _ _ _ _ O4.out) (first
    | (go_at_call 11; ((with_reducible refine (H7.out _).mono ?_); rintro e w3 ⟨rfl, hB3'⟩; have hB3 : Below w2.heap.size w2 w3 := ⟨hB3'.os, hB3'.tape, hB3'.output, hB3'.size, hB3'.block⟩; have K3 := Lib.hid (K2.out.below hB3 K2.out.lt); have O3 := Lib.hid (own_belw O2.out hB3 (Nat.le_refl _)); have B3 := Lib.hid (below_step B2.out hB3); clear hB3 hB3'))
    | (go_at_call 12; (refine (I20.out w.heap.size _ (show EB _ w.heap.size true yxs0 from K3.out)).mono ?_); rintro e w4 ⟨rfl, hK4, hE4'⟩; have hE4 : Keep1 w.heap.size w3 w4 := ⟨hE4'.os, hE4'.tape, hE4'.output, hE4'.size, hE4'.block⟩; have K4 := Lib.hid hK4; have E4 := Lib.hid hE4; have O4 := Lib.hid (own_keep O3.out hE4 (by have := K0.out.lt; omega)); clear hK4 hE4 hE4'))
  have B4 : Below w.heap.size w w4 := below_keep B3.out E4.out (Nat.le_refl _) B3.out.size
  have Z4 : w0.heap.size ≤ w4.heap.size := by have := O4.out.lt gf rfl; omega
  go_wp2_with (first
    | (at_builtin; refine wpList_append_zeros _ rfl _ _ rfl w0.heap.size gf 20 cf _ rfl O4.out 8980 rfl (by decide) (by decide) Z4 ?_; intro v' w5 own5' hg5; have own5 : w5.ownsRow w0.heap.size 5 1 v' (l20.length + 8980) (l20.map (Value.int .u8) ++ List.replicate 8980 (.int .u8 0)) := own5'; obtain ⟨gb, cb, hv', hgb, _, hcb⟩ := own_room own5 (by decide); have hv : v' = .slice (some ⟨gb, 0, none⟩) 9000 cb := hv'; subst hv; clear hv' own5'; have G5 := below_grown (base := w0.heap.size) hg5 (O4.out.lt gf rfl).1 Z4; have K5 := Lib.hid (K4.out.below ⟨G5.os, G5.tape, G5.output, G5.size, G5.block⟩ K0.out.lt); have B5 := Lib.hid (B4.trans (Below.mono ⟨G5.os, G5.tape, G5.output, G5.size, G5.block⟩ (Nat.le_of_lt K0.out.lt))); have HX := Lib.hid (show Calls Try.prog 14 #[.pointer (some ⟨w.heap.size, 0, none⟩), .slice (some ⟨gb, 0, none⟩) 9000 cb] w5 _ from xlong_yes w.heap.size l20 8980 cb gb w5 K5.out (by have := K0.out.lt; omega) hcb (by decide) k0z (zb_row l20 (cap := cb) own5) k0a n0a); clear own5 hcb hgb G5 hg5)
    | (go_at_call 14; refine HX.out.mono ?_; rintro e w6 ⟨B, d, C, f, rfl, hE6, _⟩; have B6 := Lib.hid (below_keep B5.out hE6 (Nat.le_refl _) B5.out.size); clear hE6)
    | (go_at_call 15; refine (num44_ok _ _).mono ?_; rintro e w7 ⟨rfl, rfl⟩)
    | (go_at_call 13; ((with_reducible refine (works44_true _).mono ?_); rintro e w9 ⟨rfl, hB9⟩)))
  go_ret
  exact ⟨rfl, B6.out.trans (hB9.mono B6.out.size)⟩

set_option maxRecDepth 100000 in
set_option maxHeartbeats 4000000 in
theorem bounds_kind0t (w : World) :
    Calls Try.prog 3 #[.int .i64 0, .bool true] w fun e w' => e = .returned (.bool true) ∧ Below w.heap.size w w' := by
  obtain ⟨i0, hi, hz0, hz1, hz2⟩ := info_parts Try.infoByte
  have C18 := cells18
  have S18 := size18
  have S7 := size7
  have T18 := cat18
  have H7 := Lib.hid (fun W => pk7x W)
  have H10 := Lib.hid (fun W => pk10x W)
  have IC := Lib.hid (fun g S W h => isc g S W h)
  obtain ⟨q7, hq7⟩ : ∃ q, q = pstr 7 := ⟨_, rfl⟩
  obtain ⟨q10, hq10⟩ : ∃ q, q = pstr 10 := ⟨_, rfl⟩
  rw [← hq7] at H7 C18 S18 S7 T18
  rw [← hq10] at H10 IC
  obtain ⟨q18, hq18⟩ : ∃ q, q = q7.extract 0 18 := ⟨_, rfl⟩
  rw [← hq18] at C18 S18 T18
  have X18 := hq18.symm
  have HC18 := Lib.hid (str18 q18 C18)
  have I20 := Lib.hid (fun g W h => is20 g W h)
  have FS := Lib.hid (fun (W : World) (base g cap : Nat) h => full_string (w := W) (base := base) (g := g) (cap := cap) h)
  obtain ⟨f20, hf20⟩ : ∃ q, q = full20 := ⟨_, rfl⟩
  obtain ⟨p20, hp20⟩ : ∃ q, q = pk20 := ⟨_, rfl⟩
  rw [← hf20] at FS I20
  rw [← hp20] at T18 I20
  replace S18 := Lib.hid S18
  clear hq7 hq10 hq18 C18 hf20 hp20
  go_enter Try.func3, Try.ntmps3
  go_wp2_with (first
    | (go_at_call 10; ((with_reducible refine (enew_ok2 _).mono ?_); rintro e w0 ⟨rfl, hK0, hB0⟩; have K0 := Lib.hid (show EB w0 w.heap.size true yxs0 from hK0); have B0 := Lib.hid hB0; clear hK0 hB0))
    | (go_at_call 11; ((with_reducible refine (H7.out _).mono ?_); rintro e w1 ⟨rfl, hB1⟩; have K1 := Lib.hid ((K0.out.alloc (.cells #[.int .u8 0, .int .u8 7] 5)).below hB1 (by have := K0.out.lt; simp; omega)); have O1 := Lib.hid (own_lit 2 ((Blk.new w0 5 #[.int .u8 0, .int .u8 7]).below hB1 (by simp)) rfl (by decide) (Nat.le_refl _)); have B1 := Lib.hid (below_step (below_new B0.out (.cells #[.int .u8 0, .int .u8 7] 5)) hB1); have Z1 := Lib.hid hB1.size; clear hB1))
    | (at_builtin; refine wpList_append_own_string _ rfl _ _ 24 9 rfl w0.heap.size 5 i0 Try.underlying24 Try.underlying9 hi hz0 hz1 hz2 _ 2 _ rfl O1.out q18 rfl (by rw [S18.out]; decide) (by rw [S18.out]; decide) (by have := Z1.out; simp at this; omega) ?_; intro v' w2 hown2 hg2 _; rw [S18.out] at hown2; rw [HC18.out] at hown2; obtain ⟨gf, cf, hv', hgf1, hgf2, hcf⟩ := own_room hown2 (by decide); subst hv'; have O2 := Lib.hid hown2; have G2 := below_grown (base := w0.heap.size) hg2 (Nat.le_refl _) (by have := Z1.out; simp at this; omega); have K2 := Lib.hid (K1.out.below G2 K0.out.lt); have B2 := Lib.hid (B1.out.trans (G2.mono (Nat.le_of_lt K0.out.lt))); clear hown2 hg2 G2)
    | fail)
  have s18 := S18.out
  go_region_held3 (fun w' => (convert 24 9 (.slice (some ⟨gf, 0, none⟩) 20 cf)).run Try.prog w' = .ok (.string f20) w') (first | exact FS.out _ _ _ _ O2.out | exact FS.out _ _ _ _ O3.out | exact FS.out _ _ _ _ O4.out) (first
    | (go_at_call 11; ((with_reducible refine (H7.out _).mono ?_); rintro e w3 ⟨rfl, hB3'⟩; have hB3 : Below w2.heap.size w2 w3 := ⟨hB3'.os, hB3'.tape, hB3'.output, hB3'.size, hB3'.block⟩; have K3 := Lib.hid (K2.out.below hB3 K2.out.lt); have O3 := Lib.hid (own_belw O2.out hB3 (Nat.le_refl _)); have B3 := Lib.hid (below_step B2.out hB3); clear hB3 hB3'))
    | (go_at_call 12; (refine (I20.out w.heap.size _ (show EB _ w.heap.size true yxs0 from K3.out)).mono ?_); rintro e w4 ⟨rfl, hK4, hE4'⟩; have hE4 : Keep1 w.heap.size w3 w4 := ⟨hE4'.os, hE4'.tape, hE4'.output, hE4'.size, hE4'.block⟩; have K4 := Lib.hid hK4; have E4 := Lib.hid hE4; have O4 := Lib.hid (own_keep O3.out hE4 (by have := K0.out.lt; omega)); clear hK4 hE4 hE4'))
  have B4 : Below w.heap.size w w4 := below_keep B3.out E4.out (Nat.le_refl _) B3.out.size
  have Z4 : w0.heap.size ≤ w4.heap.size := by have := O4.out.lt gf rfl; omega
  go_wp2_with (first
    | (at_builtin; refine wpList_append_zeros _ rfl _ _ rfl w0.heap.size gf 20 cf _ rfl O4.out 8981 rfl (by decide) (by decide) Z4 ?_; intro v' w5 own5' hg5; have own5 : w5.ownsRow w0.heap.size 5 1 v' (l20.length + 8981) (l20.map (Value.int .u8) ++ List.replicate 8981 (.int .u8 0)) := own5'; obtain ⟨gb, cb, hv', hgb, _, hcb⟩ := own_room own5 (by decide); have hv : v' = .slice (some ⟨gb, 0, none⟩) 9001 cb := hv'; subst hv; clear hv' own5'; have G5 := below_grown (base := w0.heap.size) hg5 (O4.out.lt gf rfl).1 Z4; have K5 := Lib.hid (K4.out.below ⟨G5.os, G5.tape, G5.output, G5.size, G5.block⟩ K0.out.lt); have B5 := Lib.hid (B4.trans (Below.mono ⟨G5.os, G5.tape, G5.output, G5.size, G5.block⟩ (Nat.le_of_lt K0.out.lt))); have HX := Lib.hid (show Calls Try.prog 14 #[.pointer (some ⟨w.heap.size, 0, none⟩), .slice (some ⟨gb, 0, none⟩) 9001 cb] w5 _ from xlong_no w.heap.size l20 8981 cb gb w5 K5.out (by have := K0.out.lt; omega) hcb (by decide) k0z (zb_row l20 (cap := cb) own5) k0b); clear own5 hcb hgb G5 hg5)
    | (go_at_call 14; refine HX.out.mono ?_; rintro e w6 ⟨B, d, C, f, rfl, hK6, hE6⟩; have K6 := Lib.hid hK6; have B6 := Lib.hid (below_keep B5.out hE6 (Nat.le_refl _) B5.out.size); clear hK6 hE6)
    | (go_at_call 15; refine (num44_ok _ _).mono ?_; rintro e w7 ⟨rfl, rfl⟩)
    | (go_at_call 11; ((with_reducible refine (H10.out _).mono ?_); rintro e w7 ⟨rfl, hB7⟩; have K7 := Lib.hid (K6.out.below hB7 K6.out.lt); have B7 := Lib.hid (B6.out.trans (hB7.mono B6.out.size)); clear hB7))
    | (go_at_call 12; ((with_reducible refine (IC.out w.heap.size yxs0 w7 K7.out).mono ?_); rintro e w8 ⟨rfl, _, hE8⟩; have B8 := Lib.hid (below_keep B7.out hE8 (Nat.le_refl _) B7.out.size); clear hE8))
    | (go_at_call 13; ((with_reducible refine (works44_true _).mono ?_); rintro e w9 ⟨rfl, hB9⟩)))
  go_ret
  exact ⟨rfl, B8.out.trans (hB9.mono B8.out.size)⟩

set_option maxRecDepth 100000 in
set_option maxHeartbeats 4000000 in
theorem bounds_kind1f (w : World) :
    Calls Try.prog 3 #[.int .i64 1, .bool false] w fun e w' => e = .returned (.bool true) ∧ Below w.heap.size w w' := by
  obtain ⟨i0, hi, hz0, hz1, hz2⟩ := info_parts Try.infoByte
  have C18 := cells18
  have S18 := size18
  have S7 := size7
  have T18 := cat18
  have H7 := Lib.hid (fun W => pk7x W)
  have H10 := Lib.hid (fun W => pk10x W)
  have IC := Lib.hid (fun g S W h => isc g S W h)
  obtain ⟨q7, hq7⟩ : ∃ q, q = pstr 7 := ⟨_, rfl⟩
  obtain ⟨q10, hq10⟩ : ∃ q, q = pstr 10 := ⟨_, rfl⟩
  rw [← hq7] at H7 C18 S18 S7 T18
  rw [← hq10] at H10 IC
  obtain ⟨q18, hq18⟩ : ∃ q, q = q7.extract 0 18 := ⟨_, rfl⟩
  rw [← hq18] at C18 S18 T18
  have X18 := hq18.symm
  have HC18 := Lib.hid (str18 q18 C18)
  have I20 := Lib.hid (fun g W h => is20 g W h)
  have FS := Lib.hid (fun (W : World) (base g cap : Nat) h => full_string (w := W) (base := base) (g := g) (cap := cap) h)
  obtain ⟨f20, hf20⟩ : ∃ q, q = full20 := ⟨_, rfl⟩
  obtain ⟨p20, hp20⟩ : ∃ q, q = pk20 := ⟨_, rfl⟩
  rw [← hf20] at FS I20
  rw [← hp20] at T18 I20
  replace S18 := Lib.hid S18
  clear hq7 hq10 hq18 C18 hf20 hp20
  go_enter Try.func3, Try.ntmps3
  go_wp2_with (first
    | (go_at_call 10; ((with_reducible refine (enew_ok2 _).mono ?_); rintro e w0 ⟨rfl, hK0, hB0⟩; have K0 := Lib.hid (show EB w0 w.heap.size true yxs0 from hK0); have B0 := Lib.hid hB0; clear hK0 hB0))
    | (go_at_call 11; ((with_reducible refine (H7.out _).mono ?_); rintro e w1 ⟨rfl, hB1⟩; have K1 := Lib.hid ((K0.out.alloc (.cells #[.int .u8 0, .int .u8 7] 5)).below hB1 (by have := K0.out.lt; simp; omega)); have O1 := Lib.hid (own_lit 2 ((Blk.new w0 5 #[.int .u8 0, .int .u8 7]).below hB1 (by simp)) rfl (by decide) (Nat.le_refl _)); have B1 := Lib.hid (below_step (below_new B0.out (.cells #[.int .u8 0, .int .u8 7] 5)) hB1); have Z1 := Lib.hid hB1.size; clear hB1))
    | (at_builtin; refine wpList_append_own_string _ rfl _ _ 24 9 rfl w0.heap.size 5 i0 Try.underlying24 Try.underlying9 hi hz0 hz1 hz2 _ 2 _ rfl O1.out q18 rfl (by rw [S18.out]; decide) (by rw [S18.out]; decide) (by have := Z1.out; simp at this; omega) ?_; intro v' w2 hown2 hg2 _; rw [S18.out] at hown2; rw [HC18.out] at hown2; obtain ⟨gf, cf, hv', hgf1, hgf2, hcf⟩ := own_room hown2 (by decide); subst hv'; have O2 := Lib.hid hown2; have G2 := below_grown (base := w0.heap.size) hg2 (Nat.le_refl _) (by have := Z1.out; simp at this; omega); have K2 := Lib.hid (K1.out.below G2 K0.out.lt); have B2 := Lib.hid (B1.out.trans (G2.mono (Nat.le_of_lt K0.out.lt))); clear hown2 hg2 G2)
    | fail)
  have s18 := S18.out
  go_region_held3 (fun w' => (convert 24 9 (.slice (some ⟨gf, 0, none⟩) 20 cf)).run Try.prog w' = .ok (.string f20) w') (first | exact FS.out _ _ _ _ O2.out | exact FS.out _ _ _ _ O3.out | exact FS.out _ _ _ _ O4.out) (first
    | (go_at_call 11; ((with_reducible refine (H7.out _).mono ?_); rintro e w3 ⟨rfl, hB3'⟩; have hB3 : Below w2.heap.size w2 w3 := ⟨hB3'.os, hB3'.tape, hB3'.output, hB3'.size, hB3'.block⟩; have K3 := Lib.hid (K2.out.below hB3 K2.out.lt); have O3 := Lib.hid (own_belw O2.out hB3 (Nat.le_refl _)); have B3 := Lib.hid (below_step B2.out hB3); clear hB3 hB3'))
    | (go_at_call 12; (refine (I20.out w.heap.size _ (show EB _ w.heap.size true yxs0 from K3.out)).mono ?_); rintro e w4 ⟨rfl, hK4, hE4'⟩; have hE4 : Keep1 w.heap.size w3 w4 := ⟨hE4'.os, hE4'.tape, hE4'.output, hE4'.size, hE4'.block⟩; have K4 := Lib.hid hK4; have E4 := Lib.hid hE4; have O4 := Lib.hid (own_keep O3.out hE4 (by have := K0.out.lt; omega)); clear hK4 hE4 hE4'))
  have B4 : Below w.heap.size w w4 := below_keep B3.out E4.out (Nat.le_refl _) B3.out.size
  have Z4 : w0.heap.size ≤ w4.heap.size := by have := O4.out.lt gf rfl; omega
  go_wp2_with (first
    | (at_builtin; refine wpList_append_zeros _ rfl _ _ rfl w0.heap.size w4.heap.size 6 6 _ rfl (own_lit 6 (Blk.new w4 5 #[.int .u8 64, .int .u8 8, .int .u8 1, .int .u8 0, .int .u8 0, .int .u8 6]) rfl (by decide) Z4) 8980 rfl (by decide) (by decide) (by simp; omega) ?_; intro v' w5 own5' hg5; have own5 : w5.ownsRow w0.heap.size 5 1 v' (l6.length + 8980) (l6.map (Value.int .u8) ++ List.replicate 8980 (.int .u8 0)) := own5'; obtain ⟨gb, cb, hv', hgb, _, hcb⟩ := own_room own5 (by decide); have hv : v' = .slice (some ⟨gb, 0, none⟩) 8986 cb := hv'; subst hv; clear hv' own5'; have G5 := below_grown (base := w0.heap.size) hg5 Z4 (by simp; omega); have K5 := Lib.hid ((K4.out.alloc (.cells #[.int .u8 64, .int .u8 8, .int .u8 1, .int .u8 0, .int .u8 0, .int .u8 6] 5)).below ⟨G5.os, G5.tape, G5.output, G5.size, G5.block⟩ K0.out.lt); have B5 := Lib.hid ((B4.alloc B4.size (.cells #[.int .u8 64, .int .u8 8, .int .u8 1, .int .u8 0, .int .u8 0, .int .u8 6] 5)).trans (Below.mono ⟨G5.os, G5.tape, G5.output, G5.size, G5.block⟩ (Nat.le_of_lt K0.out.lt))); have HX := Lib.hid (show Calls Try.prog 14 #[.pointer (some ⟨w.heap.size, 0, none⟩), .slice (some ⟨gb, 0, none⟩) 8986 cb] w5 _ from xlong_yes w.heap.size l6 8980 cb gb w5 K5.out (by have := K0.out.lt; omega) hcb (by decide) k1z (zb_row l6 (cap := cb) own5) k1a n1a); clear own5 hcb hgb G5 hg5)
    | (go_at_call 14; refine HX.out.mono ?_; rintro e w6 ⟨B, d, C, f, rfl, hE6, _⟩; have B6 := Lib.hid (below_keep B5.out hE6 (Nat.le_refl _) B5.out.size); clear hE6)
    | (go_at_call 15; refine (num44_ok _ _).mono ?_; rintro e w7 ⟨rfl, rfl⟩)
    | (go_at_call 13; ((with_reducible refine (works44_true _).mono ?_); rintro e w9 ⟨rfl, hB9⟩)))
  go_ret
  exact ⟨rfl, B6.out.trans (hB9.mono B6.out.size)⟩

set_option maxRecDepth 100000 in
set_option maxHeartbeats 4000000 in
theorem bounds_kind1t (w : World) :
    Calls Try.prog 3 #[.int .i64 1, .bool true] w fun e w' => e = .returned (.bool true) ∧ Below w.heap.size w w' := by
  obtain ⟨i0, hi, hz0, hz1, hz2⟩ := info_parts Try.infoByte
  have C18 := cells18
  have S18 := size18
  have S7 := size7
  have T18 := cat18
  have H7 := Lib.hid (fun W => pk7x W)
  have H10 := Lib.hid (fun W => pk10x W)
  have IC := Lib.hid (fun g S W h => isc g S W h)
  obtain ⟨q7, hq7⟩ : ∃ q, q = pstr 7 := ⟨_, rfl⟩
  obtain ⟨q10, hq10⟩ : ∃ q, q = pstr 10 := ⟨_, rfl⟩
  rw [← hq7] at H7 C18 S18 S7 T18
  rw [← hq10] at H10 IC
  obtain ⟨q18, hq18⟩ : ∃ q, q = q7.extract 0 18 := ⟨_, rfl⟩
  rw [← hq18] at C18 S18 T18
  have X18 := hq18.symm
  have HC18 := Lib.hid (str18 q18 C18)
  have I20 := Lib.hid (fun g W h => is20 g W h)
  have FS := Lib.hid (fun (W : World) (base g cap : Nat) h => full_string (w := W) (base := base) (g := g) (cap := cap) h)
  obtain ⟨f20, hf20⟩ : ∃ q, q = full20 := ⟨_, rfl⟩
  obtain ⟨p20, hp20⟩ : ∃ q, q = pk20 := ⟨_, rfl⟩
  rw [← hf20] at FS I20
  rw [← hp20] at T18 I20
  replace S18 := Lib.hid S18
  clear hq7 hq10 hq18 C18 hf20 hp20
  go_enter Try.func3, Try.ntmps3
  go_wp2_with (first
    | (go_at_call 10; ((with_reducible refine (enew_ok2 _).mono ?_); rintro e w0 ⟨rfl, hK0, hB0⟩; have K0 := Lib.hid (show EB w0 w.heap.size true yxs0 from hK0); have B0 := Lib.hid hB0; clear hK0 hB0))
    | (go_at_call 11; ((with_reducible refine (H7.out _).mono ?_); rintro e w1 ⟨rfl, hB1⟩; have K1 := Lib.hid ((K0.out.alloc (.cells #[.int .u8 0, .int .u8 7] 5)).below hB1 (by have := K0.out.lt; simp; omega)); have O1 := Lib.hid (own_lit 2 ((Blk.new w0 5 #[.int .u8 0, .int .u8 7]).below hB1 (by simp)) rfl (by decide) (Nat.le_refl _)); have B1 := Lib.hid (below_step (below_new B0.out (.cells #[.int .u8 0, .int .u8 7] 5)) hB1); have Z1 := Lib.hid hB1.size; clear hB1))
    | (at_builtin; refine wpList_append_own_string _ rfl _ _ 24 9 rfl w0.heap.size 5 i0 Try.underlying24 Try.underlying9 hi hz0 hz1 hz2 _ 2 _ rfl O1.out q18 rfl (by rw [S18.out]; decide) (by rw [S18.out]; decide) (by have := Z1.out; simp at this; omega) ?_; intro v' w2 hown2 hg2 _; rw [S18.out] at hown2; rw [HC18.out] at hown2; obtain ⟨gf, cf, hv', hgf1, hgf2, hcf⟩ := own_room hown2 (by decide); subst hv'; have O2 := Lib.hid hown2; have G2 := below_grown (base := w0.heap.size) hg2 (Nat.le_refl _) (by have := Z1.out; simp at this; omega); have K2 := Lib.hid (K1.out.below G2 K0.out.lt); have B2 := Lib.hid (B1.out.trans (G2.mono (Nat.le_of_lt K0.out.lt))); clear hown2 hg2 G2)
    | fail)
  have s18 := S18.out
  go_region_held3 (fun w' => (convert 24 9 (.slice (some ⟨gf, 0, none⟩) 20 cf)).run Try.prog w' = .ok (.string f20) w') (first | exact FS.out _ _ _ _ O2.out | exact FS.out _ _ _ _ O3.out | exact FS.out _ _ _ _ O4.out) (first
    | (go_at_call 11; ((with_reducible refine (H7.out _).mono ?_); rintro e w3 ⟨rfl, hB3'⟩; have hB3 : Below w2.heap.size w2 w3 := ⟨hB3'.os, hB3'.tape, hB3'.output, hB3'.size, hB3'.block⟩; have K3 := Lib.hid (K2.out.below hB3 K2.out.lt); have O3 := Lib.hid (own_belw O2.out hB3 (Nat.le_refl _)); have B3 := Lib.hid (below_step B2.out hB3); clear hB3 hB3'))
    | (go_at_call 12; (refine (I20.out w.heap.size _ (show EB _ w.heap.size true yxs0 from K3.out)).mono ?_); rintro e w4 ⟨rfl, hK4, hE4'⟩; have hE4 : Keep1 w.heap.size w3 w4 := ⟨hE4'.os, hE4'.tape, hE4'.output, hE4'.size, hE4'.block⟩; have K4 := Lib.hid hK4; have E4 := Lib.hid hE4; have O4 := Lib.hid (own_keep O3.out hE4 (by have := K0.out.lt; omega)); clear hK4 hE4 hE4'))
  have B4 : Below w.heap.size w w4 := below_keep B3.out E4.out (Nat.le_refl _) B3.out.size
  have Z4 : w0.heap.size ≤ w4.heap.size := by have := O4.out.lt gf rfl; omega
  go_wp2_with (first
    | (at_builtin; refine wpList_append_zeros _ rfl _ _ rfl w0.heap.size w4.heap.size 6 6 _ rfl (own_lit 6 (Blk.new w4 5 #[.int .u8 64, .int .u8 8, .int .u8 1, .int .u8 0, .int .u8 0, .int .u8 6]) rfl (by decide) Z4) 8981 rfl (by decide) (by decide) (by simp; omega) ?_; intro v' w5 own5' hg5; have own5 : w5.ownsRow w0.heap.size 5 1 v' (l6.length + 8981) (l6.map (Value.int .u8) ++ List.replicate 8981 (.int .u8 0)) := own5'; obtain ⟨gb, cb, hv', hgb, _, hcb⟩ := own_room own5 (by decide); have hv : v' = .slice (some ⟨gb, 0, none⟩) 8987 cb := hv'; subst hv; clear hv' own5'; have G5 := below_grown (base := w0.heap.size) hg5 Z4 (by simp; omega); have K5 := Lib.hid ((K4.out.alloc (.cells #[.int .u8 64, .int .u8 8, .int .u8 1, .int .u8 0, .int .u8 0, .int .u8 6] 5)).below ⟨G5.os, G5.tape, G5.output, G5.size, G5.block⟩ K0.out.lt); have B5 := Lib.hid ((B4.alloc B4.size (.cells #[.int .u8 64, .int .u8 8, .int .u8 1, .int .u8 0, .int .u8 0, .int .u8 6] 5)).trans (Below.mono ⟨G5.os, G5.tape, G5.output, G5.size, G5.block⟩ (Nat.le_of_lt K0.out.lt))); have HX := Lib.hid (show Calls Try.prog 14 #[.pointer (some ⟨w.heap.size, 0, none⟩), .slice (some ⟨gb, 0, none⟩) 8987 cb] w5 _ from xlong_no w.heap.size l6 8981 cb gb w5 K5.out (by have := K0.out.lt; omega) hcb (by decide) k1z (zb_row l6 (cap := cb) own5) k1b); clear own5 hcb hgb G5 hg5)
    | (go_at_call 14; refine HX.out.mono ?_; rintro e w6 ⟨B, d, C, f, rfl, hK6, hE6⟩; have K6 := Lib.hid hK6; have B6 := Lib.hid (below_keep B5.out hE6 (Nat.le_refl _) B5.out.size); clear hK6 hE6)
    | (go_at_call 15; refine (num44_ok _ _).mono ?_; rintro e w7 ⟨rfl, rfl⟩)
    | (go_at_call 11; ((with_reducible refine (H10.out _).mono ?_); rintro e w7 ⟨rfl, hB7⟩; have K7 := Lib.hid (K6.out.below hB7 K6.out.lt); have B7 := Lib.hid (B6.out.trans (hB7.mono B6.out.size)); clear hB7))
    | (go_at_call 12; ((with_reducible refine (IC.out w.heap.size yxs0 w7 K7.out).mono ?_); rintro e w8 ⟨rfl, _, hE8⟩; have B8 := Lib.hid (below_keep B7.out hE8 (Nat.le_refl _) B7.out.size); clear hE8))
    | (go_at_call 13; ((with_reducible refine (works44_true _).mono ?_); rintro e w9 ⟨rfl, hB9⟩)))
  go_ret
  exact ⟨rfl, B8.out.trans (hB9.mono B8.out.size)⟩

set_option maxRecDepth 100000 in
set_option maxHeartbeats 4000000 in
theorem bounds_kind2f (w : World) :
    Calls Try.prog 3 #[.int .i64 2, .bool false] w fun e w' => e = .returned (.bool true) ∧ Below w.heap.size w w' := by
  obtain ⟨i0, hi, hz0, hz1, hz2⟩ := info_parts Try.infoByte
  have C18 := cells18
  have S18 := size18
  have S7 := size7
  have T18 := cat18
  have H7 := Lib.hid (fun W => pk7x W)
  have H10 := Lib.hid (fun W => pk10x W)
  have IC := Lib.hid (fun g S W h => isc g S W h)
  obtain ⟨q7, hq7⟩ : ∃ q, q = pstr 7 := ⟨_, rfl⟩
  obtain ⟨q10, hq10⟩ : ∃ q, q = pstr 10 := ⟨_, rfl⟩
  rw [← hq7] at H7 C18 S18 S7 T18
  rw [← hq10] at H10 IC
  obtain ⟨q18, hq18⟩ : ∃ q, q = q7.extract 0 18 := ⟨_, rfl⟩
  rw [← hq18] at C18 S18 T18
  have X18 := hq18.symm
  have HC18 := Lib.hid (str18 q18 C18)
  have I20 := Lib.hid (fun g W h => is20 g W h)
  have FS := Lib.hid (fun (W : World) (base g cap : Nat) h => full_string (w := W) (base := base) (g := g) (cap := cap) h)
  obtain ⟨f20, hf20⟩ : ∃ q, q = full20 := ⟨_, rfl⟩
  obtain ⟨p20, hp20⟩ : ∃ q, q = pk20 := ⟨_, rfl⟩
  rw [← hf20] at FS I20
  rw [← hp20] at T18 I20
  replace S18 := Lib.hid S18
  clear hq7 hq10 hq18 C18 hf20 hp20
  go_enter Try.func3, Try.ntmps3
  go_wp2_with (first
    | (go_at_call 10; ((with_reducible refine (enew_ok2 _).mono ?_); rintro e w0 ⟨rfl, hK0, hB0⟩; have K0 := Lib.hid (show EB w0 w.heap.size true yxs0 from hK0); have B0 := Lib.hid hB0; clear hK0 hB0))
    | (go_at_call 11; ((with_reducible refine (H7.out _).mono ?_); rintro e w1 ⟨rfl, hB1⟩; have K1 := Lib.hid ((K0.out.alloc (.cells #[.int .u8 0, .int .u8 7] 5)).below hB1 (by have := K0.out.lt; simp; omega)); have O1 := Lib.hid (own_lit 2 ((Blk.new w0 5 #[.int .u8 0, .int .u8 7]).below hB1 (by simp)) rfl (by decide) (Nat.le_refl _)); have B1 := Lib.hid (below_step (below_new B0.out (.cells #[.int .u8 0, .int .u8 7] 5)) hB1); have Z1 := Lib.hid hB1.size; clear hB1))
    | (at_builtin; refine wpList_append_own_string _ rfl _ _ 24 9 rfl w0.heap.size 5 i0 Try.underlying24 Try.underlying9 hi hz0 hz1 hz2 _ 2 _ rfl O1.out q18 rfl (by rw [S18.out]; decide) (by rw [S18.out]; decide) (by have := Z1.out; simp at this; omega) ?_; intro v' w2 hown2 hg2 _; rw [S18.out] at hown2; rw [HC18.out] at hown2; obtain ⟨gf, cf, hv', hgf1, hgf2, hcf⟩ := own_room hown2 (by decide); subst hv'; have O2 := Lib.hid hown2; have G2 := below_grown (base := w0.heap.size) hg2 (Nat.le_refl _) (by have := Z1.out; simp at this; omega); have K2 := Lib.hid (K1.out.below G2 K0.out.lt); have B2 := Lib.hid (B1.out.trans (G2.mono (Nat.le_of_lt K0.out.lt))); clear hown2 hg2 G2)
    | fail)
  have s18 := S18.out
  go_region_held3 (fun w' => (convert 24 9 (.slice (some ⟨gf, 0, none⟩) 20 cf)).run Try.prog w' = .ok (.string f20) w') (first | exact FS.out _ _ _ _ O2.out | exact FS.out _ _ _ _ O3.out | exact FS.out _ _ _ _ O4.out) (first
    | (go_at_call 11; ((with_reducible refine (H7.out _).mono ?_); rintro e w3 ⟨rfl, hB3'⟩; have hB3 : Below w2.heap.size w2 w3 := ⟨hB3'.os, hB3'.tape, hB3'.output, hB3'.size, hB3'.block⟩; have K3 := Lib.hid (K2.out.below hB3 K2.out.lt); have O3 := Lib.hid (own_belw O2.out hB3 (Nat.le_refl _)); have B3 := Lib.hid (below_step B2.out hB3); clear hB3 hB3'))
    | (go_at_call 12; (refine (I20.out w.heap.size _ (show EB _ w.heap.size true yxs0 from K3.out)).mono ?_); rintro e w4 ⟨rfl, hK4, hE4'⟩; have hE4 : Keep1 w.heap.size w3 w4 := ⟨hE4'.os, hE4'.tape, hE4'.output, hE4'.size, hE4'.block⟩; have K4 := Lib.hid hK4; have E4 := Lib.hid hE4; have O4 := Lib.hid (own_keep O3.out hE4 (by have := K0.out.lt; omega)); clear hK4 hE4 hE4'))
  have B4 : Below w.heap.size w w4 := below_keep B3.out E4.out (Nat.le_refl _) B3.out.size
  have Z4 : w0.heap.size ≤ w4.heap.size := by have := O4.out.lt gf rfl; omega
  go_wp2_with (first
    | (at_builtin; refine wpList_append_zeros _ rfl _ _ rfl w0.heap.size w4.heap.size 3 3 _ rfl (own_lit 3 (Blk.new w4 5 #[.int .u8 128, .int .u8 7, .int .u8 1]) rfl (by decide) Z4) 8980 rfl (by decide) (by decide) (by simp; omega) ?_; intro v' w5 own5' hg5; have own5 : w5.ownsRow w0.heap.size 5 1 v' (l3.length + 8980) (l3.map (Value.int .u8) ++ List.replicate 8980 (.int .u8 0)) := own5'; obtain ⟨gb, cb, hv', hgb, _, hcb⟩ := own_room own5 (by decide); have hv : v' = .slice (some ⟨gb, 0, none⟩) 8983 cb := hv'; subst hv; clear hv' own5'; have G5 := below_grown (base := w0.heap.size) hg5 Z4 (by simp; omega); have K5 := Lib.hid ((K4.out.alloc (.cells #[.int .u8 128, .int .u8 7, .int .u8 1] 5)).below ⟨G5.os, G5.tape, G5.output, G5.size, G5.block⟩ K0.out.lt); have B5 := Lib.hid ((B4.alloc B4.size (.cells #[.int .u8 128, .int .u8 7, .int .u8 1] 5)).trans (Below.mono ⟨G5.os, G5.tape, G5.output, G5.size, G5.block⟩ (Nat.le_of_lt K0.out.lt))); have HX := Lib.hid (show Calls Try.prog 14 #[.pointer (some ⟨w.heap.size, 0, none⟩), .slice (some ⟨gb, 0, none⟩) 8983 cb] w5 _ from xlong_yes w.heap.size l3 8980 cb gb w5 K5.out (by have := K0.out.lt; omega) hcb (by decide) k2z (zb_row l3 (cap := cb) own5) k2a n2a); clear own5 hcb hgb G5 hg5)
    | (go_at_call 14; refine HX.out.mono ?_; rintro e w6 ⟨B, d, C, f, rfl, hE6, _⟩; have B6 := Lib.hid (below_keep B5.out hE6 (Nat.le_refl _) B5.out.size); clear hE6)
    | (go_at_call 15; refine (num44_ok _ _).mono ?_; rintro e w7 ⟨rfl, rfl⟩)
    | (go_at_call 13; ((with_reducible refine (works44_true _).mono ?_); rintro e w9 ⟨rfl, hB9⟩)))
  go_ret
  exact ⟨rfl, B6.out.trans (hB9.mono B6.out.size)⟩

set_option maxRecDepth 100000 in
set_option maxHeartbeats 4000000 in
theorem bounds_kind2t (w : World) :
    Calls Try.prog 3 #[.int .i64 2, .bool true] w fun e w' => e = .returned (.bool true) ∧ Below w.heap.size w w' := by
  obtain ⟨i0, hi, hz0, hz1, hz2⟩ := info_parts Try.infoByte
  have C18 := cells18
  have S18 := size18
  have S7 := size7
  have T18 := cat18
  have H7 := Lib.hid (fun W => pk7x W)
  have H10 := Lib.hid (fun W => pk10x W)
  have IC := Lib.hid (fun g S W h => isc g S W h)
  obtain ⟨q7, hq7⟩ : ∃ q, q = pstr 7 := ⟨_, rfl⟩
  obtain ⟨q10, hq10⟩ : ∃ q, q = pstr 10 := ⟨_, rfl⟩
  rw [← hq7] at H7 C18 S18 S7 T18
  rw [← hq10] at H10 IC
  obtain ⟨q18, hq18⟩ : ∃ q, q = q7.extract 0 18 := ⟨_, rfl⟩
  rw [← hq18] at C18 S18 T18
  have X18 := hq18.symm
  have HC18 := Lib.hid (str18 q18 C18)
  have I20 := Lib.hid (fun g W h => is20 g W h)
  have FS := Lib.hid (fun (W : World) (base g cap : Nat) h => full_string (w := W) (base := base) (g := g) (cap := cap) h)
  obtain ⟨f20, hf20⟩ : ∃ q, q = full20 := ⟨_, rfl⟩
  obtain ⟨p20, hp20⟩ : ∃ q, q = pk20 := ⟨_, rfl⟩
  rw [← hf20] at FS I20
  rw [← hp20] at T18 I20
  replace S18 := Lib.hid S18
  clear hq7 hq10 hq18 C18 hf20 hp20
  go_enter Try.func3, Try.ntmps3
  go_wp2_with (first
    | (go_at_call 10; ((with_reducible refine (enew_ok2 _).mono ?_); rintro e w0 ⟨rfl, hK0, hB0⟩; have K0 := Lib.hid (show EB w0 w.heap.size true yxs0 from hK0); have B0 := Lib.hid hB0; clear hK0 hB0))
    | (go_at_call 11; ((with_reducible refine (H7.out _).mono ?_); rintro e w1 ⟨rfl, hB1⟩; have K1 := Lib.hid ((K0.out.alloc (.cells #[.int .u8 0, .int .u8 7] 5)).below hB1 (by have := K0.out.lt; simp; omega)); have O1 := Lib.hid (own_lit 2 ((Blk.new w0 5 #[.int .u8 0, .int .u8 7]).below hB1 (by simp)) rfl (by decide) (Nat.le_refl _)); have B1 := Lib.hid (below_step (below_new B0.out (.cells #[.int .u8 0, .int .u8 7] 5)) hB1); have Z1 := Lib.hid hB1.size; clear hB1))
    | (at_builtin; refine wpList_append_own_string _ rfl _ _ 24 9 rfl w0.heap.size 5 i0 Try.underlying24 Try.underlying9 hi hz0 hz1 hz2 _ 2 _ rfl O1.out q18 rfl (by rw [S18.out]; decide) (by rw [S18.out]; decide) (by have := Z1.out; simp at this; omega) ?_; intro v' w2 hown2 hg2 _; rw [S18.out] at hown2; rw [HC18.out] at hown2; obtain ⟨gf, cf, hv', hgf1, hgf2, hcf⟩ := own_room hown2 (by decide); subst hv'; have O2 := Lib.hid hown2; have G2 := below_grown (base := w0.heap.size) hg2 (Nat.le_refl _) (by have := Z1.out; simp at this; omega); have K2 := Lib.hid (K1.out.below G2 K0.out.lt); have B2 := Lib.hid (B1.out.trans (G2.mono (Nat.le_of_lt K0.out.lt))); clear hown2 hg2 G2)
    | fail)
  have s18 := S18.out
  go_region_held3 (fun w' => (convert 24 9 (.slice (some ⟨gf, 0, none⟩) 20 cf)).run Try.prog w' = .ok (.string f20) w') (first | exact FS.out _ _ _ _ O2.out | exact FS.out _ _ _ _ O3.out | exact FS.out _ _ _ _ O4.out) (first
    | (go_at_call 11; ((with_reducible refine (H7.out _).mono ?_); rintro e w3 ⟨rfl, hB3'⟩; have hB3 : Below w2.heap.size w2 w3 := ⟨hB3'.os, hB3'.tape, hB3'.output, hB3'.size, hB3'.block⟩; have K3 := Lib.hid (K2.out.below hB3 K2.out.lt); have O3 := Lib.hid (own_belw O2.out hB3 (Nat.le_refl _)); have B3 := Lib.hid (below_step B2.out hB3); clear hB3 hB3'))
    | (go_at_call 12; (refine (I20.out w.heap.size _ (show EB _ w.heap.size true yxs0 from K3.out)).mono ?_); rintro e w4 ⟨rfl, hK4, hE4'⟩; have hE4 : Keep1 w.heap.size w3 w4 := ⟨hE4'.os, hE4'.tape, hE4'.output, hE4'.size, hE4'.block⟩; have K4 := Lib.hid hK4; have E4 := Lib.hid hE4; have O4 := Lib.hid (own_keep O3.out hE4 (by have := K0.out.lt; omega)); clear hK4 hE4 hE4'))
  have B4 : Below w.heap.size w w4 := below_keep B3.out E4.out (Nat.le_refl _) B3.out.size
  have Z4 : w0.heap.size ≤ w4.heap.size := by have := O4.out.lt gf rfl; omega
  go_wp2_with (first
    | (at_builtin; refine wpList_append_zeros _ rfl _ _ rfl w0.heap.size w4.heap.size 3 3 _ rfl (own_lit 3 (Blk.new w4 5 #[.int .u8 128, .int .u8 7, .int .u8 1]) rfl (by decide) Z4) 8981 rfl (by decide) (by decide) (by simp; omega) ?_; intro v' w5 own5' hg5; have own5 : w5.ownsRow w0.heap.size 5 1 v' (l3.length + 8981) (l3.map (Value.int .u8) ++ List.replicate 8981 (.int .u8 0)) := own5'; obtain ⟨gb, cb, hv', hgb, _, hcb⟩ := own_room own5 (by decide); have hv : v' = .slice (some ⟨gb, 0, none⟩) 8984 cb := hv'; subst hv; clear hv' own5'; have G5 := below_grown (base := w0.heap.size) hg5 Z4 (by simp; omega); have K5 := Lib.hid ((K4.out.alloc (.cells #[.int .u8 128, .int .u8 7, .int .u8 1] 5)).below ⟨G5.os, G5.tape, G5.output, G5.size, G5.block⟩ K0.out.lt); have B5 := Lib.hid ((B4.alloc B4.size (.cells #[.int .u8 128, .int .u8 7, .int .u8 1] 5)).trans (Below.mono ⟨G5.os, G5.tape, G5.output, G5.size, G5.block⟩ (Nat.le_of_lt K0.out.lt))); have HX := Lib.hid (show Calls Try.prog 14 #[.pointer (some ⟨w.heap.size, 0, none⟩), .slice (some ⟨gb, 0, none⟩) 8984 cb] w5 _ from xlong_no w.heap.size l3 8981 cb gb w5 K5.out (by have := K0.out.lt; omega) hcb (by decide) k2z (zb_row l3 (cap := cb) own5) k2b); clear own5 hcb hgb G5 hg5)
    | (go_at_call 14; refine HX.out.mono ?_; rintro e w6 ⟨B, d, C, f, rfl, hK6, hE6⟩; have K6 := Lib.hid hK6; have B6 := Lib.hid (below_keep B5.out hE6 (Nat.le_refl _) B5.out.size); clear hK6 hE6)
    | (go_at_call 15; refine (num44_ok _ _).mono ?_; rintro e w7 ⟨rfl, rfl⟩)
    | (go_at_call 11; ((with_reducible refine (H10.out _).mono ?_); rintro e w7 ⟨rfl, hB7⟩; have K7 := Lib.hid (K6.out.below hB7 K6.out.lt); have B7 := Lib.hid (B6.out.trans (hB7.mono B6.out.size)); clear hB7))
    | (go_at_call 12; ((with_reducible refine (IC.out w.heap.size yxs0 w7 K7.out).mono ?_); rintro e w8 ⟨rfl, _, hE8⟩; have B8 := Lib.hid (below_keep B7.out hE8 (Nat.le_refl _) B7.out.size); clear hE8))
    | (go_at_call 13; ((with_reducible refine (works44_true _).mono ?_); rintro e w9 ⟨rfl, hB9⟩)))
  go_ret
  exact ⟨rfl, B8.out.trans (hB9.mono B8.out.size)⟩

set_option maxRecDepth 100000 in
set_option maxHeartbeats 4000000 in
theorem bounds_kind3f (w : World) :
    Calls Try.prog 3 #[.int .i64 3, .bool false] w fun e w' => e = .returned (.bool true) ∧ Below w.heap.size w w' := by
  obtain ⟨i0, hi, hz0, hz1, hz2⟩ := info_parts Try.infoByte
  have C18 := cells18
  have S18 := size18
  have S7 := size7
  have T18 := cat18
  have H7 := Lib.hid (fun W => pk7x W)
  have H10 := Lib.hid (fun W => pk10x W)
  have IC := Lib.hid (fun g S W h => isc g S W h)
  obtain ⟨q7, hq7⟩ : ∃ q, q = pstr 7 := ⟨_, rfl⟩
  obtain ⟨q10, hq10⟩ : ∃ q, q = pstr 10 := ⟨_, rfl⟩
  rw [← hq7] at H7 C18 S18 S7 T18
  rw [← hq10] at H10 IC
  obtain ⟨q18, hq18⟩ : ∃ q, q = q7.extract 0 18 := ⟨_, rfl⟩
  rw [← hq18] at C18 S18 T18
  have X18 := hq18.symm
  have HC18 := Lib.hid (str18 q18 C18)
  have I20 := Lib.hid (fun g W h => is20 g W h)
  have FS := Lib.hid (fun (W : World) (base g cap : Nat) h => full_string (w := W) (base := base) (g := g) (cap := cap) h)
  obtain ⟨f20, hf20⟩ : ∃ q, q = full20 := ⟨_, rfl⟩
  obtain ⟨p20, hp20⟩ : ∃ q, q = pk20 := ⟨_, rfl⟩
  rw [← hf20] at FS I20
  rw [← hp20] at T18 I20
  replace S18 := Lib.hid S18
  clear hq7 hq10 hq18 C18 hf20 hp20
  go_enter Try.func3, Try.ntmps3
  go_wp2_with (first
    | (go_at_call 10; ((with_reducible refine (enew_ok2 _).mono ?_); rintro e w0 ⟨rfl, hK0, hB0⟩; have K0 := Lib.hid (show EB w0 w.heap.size true yxs0 from hK0); have B0 := Lib.hid hB0; clear hK0 hB0))
    | (go_at_call 11; ((with_reducible refine (H7.out _).mono ?_); rintro e w1 ⟨rfl, hB1⟩; have K1 := Lib.hid ((K0.out.alloc (.cells #[.int .u8 0, .int .u8 7] 5)).below hB1 (by have := K0.out.lt; simp; omega)); have O1 := Lib.hid (own_lit 2 ((Blk.new w0 5 #[.int .u8 0, .int .u8 7]).below hB1 (by simp)) rfl (by decide) (Nat.le_refl _)); have B1 := Lib.hid (below_step (below_new B0.out (.cells #[.int .u8 0, .int .u8 7] 5)) hB1); have Z1 := Lib.hid hB1.size; clear hB1))
    | (at_builtin; refine wpList_append_own_string _ rfl _ _ 24 9 rfl w0.heap.size 5 i0 Try.underlying24 Try.underlying9 hi hz0 hz1 hz2 _ 2 _ rfl O1.out q18 rfl (by rw [S18.out]; decide) (by rw [S18.out]; decide) (by have := Z1.out; simp at this; omega) ?_; intro v' w2 hown2 hg2 _; rw [S18.out] at hown2; rw [HC18.out] at hown2; obtain ⟨gf, cf, hv', hgf1, hgf2, hcf⟩ := own_room hown2 (by decide); subst hv'; have O2 := Lib.hid hown2; have G2 := below_grown (base := w0.heap.size) hg2 (Nat.le_refl _) (by have := Z1.out; simp at this; omega); have K2 := Lib.hid (K1.out.below G2 K0.out.lt); have B2 := Lib.hid (B1.out.trans (G2.mono (Nat.le_of_lt K0.out.lt))); clear hown2 hg2 G2)
    | fail)
  have s18 := S18.out
  go_region_held3 (fun w' => (convert 24 9 (.slice (some ⟨gf, 0, none⟩) 20 cf)).run Try.prog w' = .ok (.string f20) w') (first | exact FS.out _ _ _ _ O2.out | exact FS.out _ _ _ _ O3.out | exact FS.out _ _ _ _ O4.out) (first
    | (go_at_call 11; ((with_reducible refine (H7.out _).mono ?_); rintro e w3 ⟨rfl, hB3'⟩; have hB3 : Below w2.heap.size w2 w3 := ⟨hB3'.os, hB3'.tape, hB3'.output, hB3'.size, hB3'.block⟩; have K3 := Lib.hid (K2.out.below hB3 K2.out.lt); have O3 := Lib.hid (own_belw O2.out hB3 (Nat.le_refl _)); have B3 := Lib.hid (below_step B2.out hB3); clear hB3 hB3'))
    | (go_at_call 12; (refine (I20.out w.heap.size _ (show EB _ w.heap.size true yxs0 from K3.out)).mono ?_); rintro e w4 ⟨rfl, hK4, hE4'⟩; have hE4 : Keep1 w.heap.size w3 w4 := ⟨hE4'.os, hE4'.tape, hE4'.output, hE4'.size, hE4'.block⟩; have K4 := Lib.hid hK4; have E4 := Lib.hid hE4; have O4 := Lib.hid (own_keep O3.out hE4 (by have := K0.out.lt; omega)); clear hK4 hE4 hE4'))
  have B4 : Below w.heap.size w w4 := below_keep B3.out E4.out (Nat.le_refl _) B3.out.size
  have Z4 : w0.heap.size ≤ w4.heap.size := by have := O4.out.lt gf rfl; omega
  go_wp2_with (first
    | (at_builtin; refine wpList_append_zeros _ rfl _ _ rfl w0.heap.size w4.heap.size 1 1 _ rfl (own_lit 1 (Blk.new w4 5 #[.int .u8 192]) rfl (by decide) Z4) 9000 rfl (by decide) (by decide) (by simp; omega) ?_; intro v' w5 own5' hg5; have own5 : w5.ownsRow w0.heap.size 5 1 v' (l1.length + 9000) (l1.map (Value.int .u8) ++ List.replicate 9000 (.int .u8 0)) := own5'; obtain ⟨gb, cb, hv', hgb, _, hcb⟩ := own_room own5 (by decide); have hv : v' = .slice (some ⟨gb, 0, none⟩) 9001 cb := hv'; subst hv; clear hv' own5'; have G5 := below_grown (base := w0.heap.size) hg5 Z4 (by simp; omega); have K5 := Lib.hid ((K4.out.alloc (.cells #[.int .u8 192] 5)).below ⟨G5.os, G5.tape, G5.output, G5.size, G5.block⟩ K0.out.lt); have B5 := Lib.hid ((B4.alloc B4.size (.cells #[.int .u8 192] 5)).trans (Below.mono ⟨G5.os, G5.tape, G5.output, G5.size, G5.block⟩ (Nat.le_of_lt K0.out.lt))); have HX := Lib.hid (show Calls Try.prog 14 #[.pointer (some ⟨w.heap.size, 0, none⟩), .slice (some ⟨gb, 0, none⟩) 9001 cb] w5 _ from xlong_yes w.heap.size l1 9000 cb gb w5 K5.out (by have := K0.out.lt; omega) hcb (by decide) k3z (zb_row l1 (cap := cb) own5) k3a n3a); clear own5 hcb hgb G5 hg5)
    | (go_at_call 14; refine HX.out.mono ?_; rintro e w6 ⟨B, d, C, f, rfl, hE6, _⟩; have B6 := Lib.hid (below_keep B5.out hE6 (Nat.le_refl _) B5.out.size); clear hE6)
    | (go_at_call 15; refine (num44_ok _ _).mono ?_; rintro e w7 ⟨rfl, rfl⟩)
    | (go_at_call 13; ((with_reducible refine (works44_true _).mono ?_); rintro e w9 ⟨rfl, hB9⟩)))
  go_ret
  exact ⟨rfl, B6.out.trans (hB9.mono B6.out.size)⟩

set_option maxRecDepth 100000 in
set_option maxHeartbeats 4000000 in
theorem bounds_kind3t (w : World) :
    Calls Try.prog 3 #[.int .i64 3, .bool true] w fun e w' => e = .returned (.bool true) ∧ Below w.heap.size w w' := by
  obtain ⟨i0, hi, hz0, hz1, hz2⟩ := info_parts Try.infoByte
  have C18 := cells18
  have S18 := size18
  have S7 := size7
  have T18 := cat18
  have H7 := Lib.hid (fun W => pk7x W)
  have H10 := Lib.hid (fun W => pk10x W)
  have IC := Lib.hid (fun g S W h => isc g S W h)
  obtain ⟨q7, hq7⟩ : ∃ q, q = pstr 7 := ⟨_, rfl⟩
  obtain ⟨q10, hq10⟩ : ∃ q, q = pstr 10 := ⟨_, rfl⟩
  rw [← hq7] at H7 C18 S18 S7 T18
  rw [← hq10] at H10 IC
  obtain ⟨q18, hq18⟩ : ∃ q, q = q7.extract 0 18 := ⟨_, rfl⟩
  rw [← hq18] at C18 S18 T18
  have X18 := hq18.symm
  have HC18 := Lib.hid (str18 q18 C18)
  have I20 := Lib.hid (fun g W h => is20 g W h)
  have FS := Lib.hid (fun (W : World) (base g cap : Nat) h => full_string (w := W) (base := base) (g := g) (cap := cap) h)
  obtain ⟨f20, hf20⟩ : ∃ q, q = full20 := ⟨_, rfl⟩
  obtain ⟨p20, hp20⟩ : ∃ q, q = pk20 := ⟨_, rfl⟩
  rw [← hf20] at FS I20
  rw [← hp20] at T18 I20
  replace S18 := Lib.hid S18
  clear hq7 hq10 hq18 C18 hf20 hp20
  go_enter Try.func3, Try.ntmps3
  go_wp2_with (first
    | (go_at_call 10; ((with_reducible refine (enew_ok2 _).mono ?_); rintro e w0 ⟨rfl, hK0, hB0⟩; have K0 := Lib.hid (show EB w0 w.heap.size true yxs0 from hK0); have B0 := Lib.hid hB0; clear hK0 hB0))
    | (go_at_call 11; ((with_reducible refine (H7.out _).mono ?_); rintro e w1 ⟨rfl, hB1⟩; have K1 := Lib.hid ((K0.out.alloc (.cells #[.int .u8 0, .int .u8 7] 5)).below hB1 (by have := K0.out.lt; simp; omega)); have O1 := Lib.hid (own_lit 2 ((Blk.new w0 5 #[.int .u8 0, .int .u8 7]).below hB1 (by simp)) rfl (by decide) (Nat.le_refl _)); have B1 := Lib.hid (below_step (below_new B0.out (.cells #[.int .u8 0, .int .u8 7] 5)) hB1); have Z1 := Lib.hid hB1.size; clear hB1))
    | (at_builtin; refine wpList_append_own_string _ rfl _ _ 24 9 rfl w0.heap.size 5 i0 Try.underlying24 Try.underlying9 hi hz0 hz1 hz2 _ 2 _ rfl O1.out q18 rfl (by rw [S18.out]; decide) (by rw [S18.out]; decide) (by have := Z1.out; simp at this; omega) ?_; intro v' w2 hown2 hg2 _; rw [S18.out] at hown2; rw [HC18.out] at hown2; obtain ⟨gf, cf, hv', hgf1, hgf2, hcf⟩ := own_room hown2 (by decide); subst hv'; have O2 := Lib.hid hown2; have G2 := below_grown (base := w0.heap.size) hg2 (Nat.le_refl _) (by have := Z1.out; simp at this; omega); have K2 := Lib.hid (K1.out.below G2 K0.out.lt); have B2 := Lib.hid (B1.out.trans (G2.mono (Nat.le_of_lt K0.out.lt))); clear hown2 hg2 G2)
    | fail)
  have s18 := S18.out
  go_region_held3 (fun w' => (convert 24 9 (.slice (some ⟨gf, 0, none⟩) 20 cf)).run Try.prog w' = .ok (.string f20) w') (first | exact FS.out _ _ _ _ O2.out | exact FS.out _ _ _ _ O3.out | exact FS.out _ _ _ _ O4.out) (first
    | (go_at_call 11; ((with_reducible refine (H7.out _).mono ?_); rintro e w3 ⟨rfl, hB3'⟩; have hB3 : Below w2.heap.size w2 w3 := ⟨hB3'.os, hB3'.tape, hB3'.output, hB3'.size, hB3'.block⟩; have K3 := Lib.hid (K2.out.below hB3 K2.out.lt); have O3 := Lib.hid (own_belw O2.out hB3 (Nat.le_refl _)); have B3 := Lib.hid (below_step B2.out hB3); clear hB3 hB3'))
    | (go_at_call 12; (refine (I20.out w.heap.size _ (show EB _ w.heap.size true yxs0 from K3.out)).mono ?_); rintro e w4 ⟨rfl, hK4, hE4'⟩; have hE4 : Keep1 w.heap.size w3 w4 := ⟨hE4'.os, hE4'.tape, hE4'.output, hE4'.size, hE4'.block⟩; have K4 := Lib.hid hK4; have E4 := Lib.hid hE4; have O4 := Lib.hid (own_keep O3.out hE4 (by have := K0.out.lt; omega)); clear hK4 hE4 hE4'))
  have B4 : Below w.heap.size w w4 := below_keep B3.out E4.out (Nat.le_refl _) B3.out.size
  have Z4 : w0.heap.size ≤ w4.heap.size := by have := O4.out.lt gf rfl; omega
  go_wp2_with (first
    | (at_builtin; refine wpList_append_zeros _ rfl _ _ rfl w0.heap.size w4.heap.size 1 1 _ rfl (own_lit 1 (Blk.new w4 5 #[.int .u8 192]) rfl (by decide) Z4) 9001 rfl (by decide) (by decide) (by simp; omega) ?_; intro v' w5 own5' hg5; have own5 : w5.ownsRow w0.heap.size 5 1 v' (l1.length + 9001) (l1.map (Value.int .u8) ++ List.replicate 9001 (.int .u8 0)) := own5'; obtain ⟨gb, cb, hv', hgb, _, hcb⟩ := own_room own5 (by decide); have hv : v' = .slice (some ⟨gb, 0, none⟩) 9002 cb := hv'; subst hv; clear hv' own5'; have G5 := below_grown (base := w0.heap.size) hg5 Z4 (by simp; omega); have K5 := Lib.hid ((K4.out.alloc (.cells #[.int .u8 192] 5)).below ⟨G5.os, G5.tape, G5.output, G5.size, G5.block⟩ K0.out.lt); have B5 := Lib.hid ((B4.alloc B4.size (.cells #[.int .u8 192] 5)).trans (Below.mono ⟨G5.os, G5.tape, G5.output, G5.size, G5.block⟩ (Nat.le_of_lt K0.out.lt))); have HX := Lib.hid (show Calls Try.prog 14 #[.pointer (some ⟨w.heap.size, 0, none⟩), .slice (some ⟨gb, 0, none⟩) 9002 cb] w5 _ from xlong_no w.heap.size l1 9001 cb gb w5 K5.out (by have := K0.out.lt; omega) hcb (by decide) k3z (zb_row l1 (cap := cb) own5) k3b); clear own5 hcb hgb G5 hg5)
    | (go_at_call 14; refine HX.out.mono ?_; rintro e w6 ⟨B, d, C, f, rfl, hK6, hE6⟩; have K6 := Lib.hid hK6; have B6 := Lib.hid (below_keep B5.out hE6 (Nat.le_refl _) B5.out.size); clear hK6 hE6)
    | (go_at_call 15; refine (num44_ok _ _).mono ?_; rintro e w7 ⟨rfl, rfl⟩)
    | (go_at_call 11; ((with_reducible refine (H10.out _).mono ?_); rintro e w7 ⟨rfl, hB7⟩; have K7 := Lib.hid (K6.out.below hB7 K6.out.lt); have B7 := Lib.hid (B6.out.trans (hB7.mono B6.out.size)); clear hB7))
    | (go_at_call 12; ((with_reducible refine (IC.out w.heap.size yxs0 w7 K7.out).mono ?_); rintro e w8 ⟨rfl, _, hE8⟩; have B8 := Lib.hid (below_keep B7.out hE8 (Nat.le_refl _) B7.out.size); clear hE8))
    | (go_at_call 13; ((with_reducible refine (works44_true _).mono ?_); rintro e w9 ⟨rfl, hB9⟩)))
  go_ret
  exact ⟨rfl, B8.out.trans (hB9.mono B8.out.size)⟩

set_option maxRecDepth 100000 in
set_option maxHeartbeats 4000000 in
theorem bounds_kind4f (kind : Int) (h0 : (kind == 0) = false) (h1 : (kind == 1) = false) (h2 : (kind == 2) = false) (h3 : (kind == 3) = false) (w : World) :
    Calls Try.prog 3 #[.int .i64 kind, .bool false] w fun e w' => e = .returned (.bool true) ∧ Below w.heap.size w w' := by
  obtain ⟨i0, hi, hz0, hz1, hz2⟩ := info_parts Try.infoByte
  have C18 := cells18
  have S18 := size18
  have S7 := size7
  have T18 := cat18
  have H7 := Lib.hid (fun W => pk7x W)
  have H10 := Lib.hid (fun W => pk10x W)
  have IC := Lib.hid (fun g S W h => isc g S W h)
  obtain ⟨q7, hq7⟩ : ∃ q, q = pstr 7 := ⟨_, rfl⟩
  obtain ⟨q10, hq10⟩ : ∃ q, q = pstr 10 := ⟨_, rfl⟩
  rw [← hq7] at H7 C18 S18 S7 T18
  rw [← hq10] at H10 IC
  obtain ⟨q18, hq18⟩ : ∃ q, q = q7.extract 0 18 := ⟨_, rfl⟩
  rw [← hq18] at C18 S18 T18
  have X18 := hq18.symm
  have HC18 := Lib.hid (str18 q18 C18)
  have I20 := Lib.hid (fun g W h => is20 g W h)
  have FS := Lib.hid (fun (W : World) (base g cap : Nat) h => full_string (w := W) (base := base) (g := g) (cap := cap) h)
  obtain ⟨f20, hf20⟩ : ∃ q, q = full20 := ⟨_, rfl⟩
  obtain ⟨p20, hp20⟩ : ∃ q, q = pk20 := ⟨_, rfl⟩
  rw [← hf20] at FS I20
  rw [← hp20] at T18 I20
  replace S18 := Lib.hid S18
  clear hq7 hq10 hq18 C18 hf20 hp20
  go_enter Try.func3, Try.ntmps3
  go_wp2_with (first
    | (go_at_call 10; ((with_reducible refine (enew_ok2 _).mono ?_); rintro e w0 ⟨rfl, hK0, hB0⟩; have K0 := Lib.hid (show EB w0 w.heap.size true yxs0 from hK0); have B0 := Lib.hid hB0; clear hK0 hB0))
    | (go_at_call 11; ((with_reducible refine (H7.out _).mono ?_); rintro e w1 ⟨rfl, hB1⟩; have K1 := Lib.hid ((K0.out.alloc (.cells #[.int .u8 0, .int .u8 7] 5)).below hB1 (by have := K0.out.lt; simp; omega)); have O1 := Lib.hid (own_lit 2 ((Blk.new w0 5 #[.int .u8 0, .int .u8 7]).below hB1 (by simp)) rfl (by decide) (Nat.le_refl _)); have B1 := Lib.hid (below_step (below_new B0.out (.cells #[.int .u8 0, .int .u8 7] 5)) hB1); have Z1 := Lib.hid hB1.size; clear hB1))
    | (at_builtin; refine wpList_append_own_string _ rfl _ _ 24 9 rfl w0.heap.size 5 i0 Try.underlying24 Try.underlying9 hi hz0 hz1 hz2 _ 2 _ rfl O1.out q18 rfl (by rw [S18.out]; decide) (by rw [S18.out]; decide) (by have := Z1.out; simp at this; omega) ?_; intro v' w2 hown2 hg2 _; rw [S18.out] at hown2; rw [HC18.out] at hown2; obtain ⟨gf, cf, hv', hgf1, hgf2, hcf⟩ := own_room hown2 (by decide); subst hv'; have O2 := Lib.hid hown2; have G2 := below_grown (base := w0.heap.size) hg2 (Nat.le_refl _) (by have := Z1.out; simp at this; omega); have K2 := Lib.hid (K1.out.below G2 K0.out.lt); have B2 := Lib.hid (B1.out.trans (G2.mono (Nat.le_of_lt K0.out.lt))); clear hown2 hg2 G2)
    | fail)
  have s18 := S18.out
  go_region_held3 (fun w' => (convert 24 9 (.slice (some ⟨gf, 0, none⟩) 20 cf)).run Try.prog w' = .ok (.string f20) w') (first | exact FS.out _ _ _ _ O2.out | exact FS.out _ _ _ _ O3.out | exact FS.out _ _ _ _ O4.out) (first
    | (go_at_call 11; ((with_reducible refine (H7.out _).mono ?_); rintro e w3 ⟨rfl, hB3'⟩; have hB3 : Below w2.heap.size w2 w3 := ⟨hB3'.os, hB3'.tape, hB3'.output, hB3'.size, hB3'.block⟩; have K3 := Lib.hid (K2.out.below hB3 K2.out.lt); have O3 := Lib.hid (own_belw O2.out hB3 (Nat.le_refl _)); have B3 := Lib.hid (below_step B2.out hB3); clear hB3 hB3'))
    | (go_at_call 12; (refine (I20.out w.heap.size _ (show EB _ w.heap.size true yxs0 from K3.out)).mono ?_); rintro e w4 ⟨rfl, hK4, hE4'⟩; have hE4 : Keep1 w.heap.size w3 w4 := ⟨hE4'.os, hE4'.tape, hE4'.output, hE4'.size, hE4'.block⟩; have K4 := Lib.hid hK4; have E4 := Lib.hid hE4; have O4 := Lib.hid (own_keep O3.out hE4 (by have := K0.out.lt; omega)); clear hK4 hE4 hE4'))
  have B4 : Below w.heap.size w w4 := below_keep B3.out E4.out (Nat.le_refl _) B3.out.size
  have Z4 : w0.heap.size ≤ w4.heap.size := by have := O4.out.lt gf rfl; omega
  go_wp2_with (go_at_call 13; ((with_reducible refine (works44_true _).mono ?_); rintro e w9 ⟨rfl, hB9⟩))
  go_ret
  exact ⟨rfl, B4.trans (hB9.mono B4.size)⟩

set_option maxRecDepth 100000 in
set_option maxHeartbeats 4000000 in
theorem bounds_kind4t (kind : Int) (h0 : (kind == 0) = false) (h1 : (kind == 1) = false) (h2 : (kind == 2) = false) (h3 : (kind == 3) = false) (w : World) :
    Calls Try.prog 3 #[.int .i64 kind, .bool true] w fun e w' => e = .returned (.bool true) ∧ Below w.heap.size w w' := by
  obtain ⟨i0, hi, hz0, hz1, hz2⟩ := info_parts Try.infoByte
  have C18 := cells18
  have S18 := size18
  have S7 := size7
  have T18 := cat18
  have H7 := Lib.hid (fun W => pk7x W)
  have H10 := Lib.hid (fun W => pk10x W)
  have IC := Lib.hid (fun g S W h => isc g S W h)
  obtain ⟨q7, hq7⟩ : ∃ q, q = pstr 7 := ⟨_, rfl⟩
  obtain ⟨q10, hq10⟩ : ∃ q, q = pstr 10 := ⟨_, rfl⟩
  rw [← hq7] at H7 C18 S18 S7 T18
  rw [← hq10] at H10 IC
  obtain ⟨q18, hq18⟩ : ∃ q, q = q7.extract 0 18 := ⟨_, rfl⟩
  rw [← hq18] at C18 S18 T18
  have X18 := hq18.symm
  have HC18 := Lib.hid (str18 q18 C18)
  have I20 := Lib.hid (fun g W h => is20 g W h)
  have FS := Lib.hid (fun (W : World) (base g cap : Nat) h => full_string (w := W) (base := base) (g := g) (cap := cap) h)
  obtain ⟨f20, hf20⟩ : ∃ q, q = full20 := ⟨_, rfl⟩
  obtain ⟨p20, hp20⟩ : ∃ q, q = pk20 := ⟨_, rfl⟩
  rw [← hf20] at FS I20
  rw [← hp20] at T18 I20
  replace S18 := Lib.hid S18
  clear hq7 hq10 hq18 C18 hf20 hp20
  go_enter Try.func3, Try.ntmps3
  go_wp2_with (first
    | (go_at_call 10; ((with_reducible refine (enew_ok2 _).mono ?_); rintro e w0 ⟨rfl, hK0, hB0⟩; have K0 := Lib.hid (show EB w0 w.heap.size true yxs0 from hK0); have B0 := Lib.hid hB0; clear hK0 hB0))
    | (go_at_call 11; ((with_reducible refine (H7.out _).mono ?_); rintro e w1 ⟨rfl, hB1⟩; have K1 := Lib.hid ((K0.out.alloc (.cells #[.int .u8 0, .int .u8 7] 5)).below hB1 (by have := K0.out.lt; simp; omega)); have O1 := Lib.hid (own_lit 2 ((Blk.new w0 5 #[.int .u8 0, .int .u8 7]).below hB1 (by simp)) rfl (by decide) (Nat.le_refl _)); have B1 := Lib.hid (below_step (below_new B0.out (.cells #[.int .u8 0, .int .u8 7] 5)) hB1); have Z1 := Lib.hid hB1.size; clear hB1))
    | (at_builtin; refine wpList_append_own_string _ rfl _ _ 24 9 rfl w0.heap.size 5 i0 Try.underlying24 Try.underlying9 hi hz0 hz1 hz2 _ 2 _ rfl O1.out q18 rfl (by rw [S18.out]; decide) (by rw [S18.out]; decide) (by have := Z1.out; simp at this; omega) ?_; intro v' w2 hown2 hg2 _; rw [S18.out] at hown2; rw [HC18.out] at hown2; obtain ⟨gf, cf, hv', hgf1, hgf2, hcf⟩ := own_room hown2 (by decide); subst hv'; have O2 := Lib.hid hown2; have G2 := below_grown (base := w0.heap.size) hg2 (Nat.le_refl _) (by have := Z1.out; simp at this; omega); have K2 := Lib.hid (K1.out.below G2 K0.out.lt); have B2 := Lib.hid (B1.out.trans (G2.mono (Nat.le_of_lt K0.out.lt))); clear hown2 hg2 G2)
    | fail)
  have s18 := S18.out
  go_region_held3 (fun w' => (convert 24 9 (.slice (some ⟨gf, 0, none⟩) 20 cf)).run Try.prog w' = .ok (.string f20) w') (first | exact FS.out _ _ _ _ O2.out | exact FS.out _ _ _ _ O3.out | exact FS.out _ _ _ _ O4.out) (first
    | (go_at_call 11; ((with_reducible refine (H7.out _).mono ?_); rintro e w3 ⟨rfl, hB3'⟩; have hB3 : Below w2.heap.size w2 w3 := ⟨hB3'.os, hB3'.tape, hB3'.output, hB3'.size, hB3'.block⟩; have K3 := Lib.hid (K2.out.below hB3 K2.out.lt); have O3 := Lib.hid (own_belw O2.out hB3 (Nat.le_refl _)); have B3 := Lib.hid (below_step B2.out hB3); clear hB3 hB3'))
    | (go_at_call 12; (refine (I20.out w.heap.size _ (show EB _ w.heap.size true yxs0 from K3.out)).mono ?_); rintro e w4 ⟨rfl, hK4, hE4'⟩; have hE4 : Keep1 w.heap.size w3 w4 := ⟨hE4'.os, hE4'.tape, hE4'.output, hE4'.size, hE4'.block⟩; have K4 := Lib.hid hK4; have E4 := Lib.hid hE4; have O4 := Lib.hid (own_keep O3.out hE4 (by have := K0.out.lt; omega)); clear hK4 hE4 hE4'))
  have B4 : Below w.heap.size w w4 := below_keep B3.out E4.out (Nat.le_refl _) B3.out.size
  have Z4 : w0.heap.size ≤ w4.heap.size := by have := O4.out.lt gf rfl; omega
  go_wp2_with (go_at_call 13; ((with_reducible refine (works44_true _).mono ?_); rintro e w9 ⟨rfl, hB9⟩))
  go_ret
  exact ⟨rfl, B4.trans (hB9.mono B4.size)⟩

theorem bounds44_walk (kind : Int) (past : Bool) (w : World) : Calls Try.prog 3 #[.int .i64 kind, .bool past] w fun e w' => e = .returned (.bool true) ∧ Below w.heap.size w w' := by
  by_cases h0 : kind = 0
  · subst h0; cases past; exact bounds_kind0f w; exact bounds_kind0t w
  by_cases h1 : kind = 1
  · subst h1; cases past; exact bounds_kind1f w; exact bounds_kind1t w
  by_cases h2 : kind = 2
  · subst h2; cases past; exact bounds_kind2f w; exact bounds_kind2t w
  by_cases h3 : kind = 3
  · subst h3; cases past; exact bounds_kind3f w; exact bounds_kind3t w
  have e0 : (kind == 0) = false := by simpa using h0
  have e1 : (kind == 1) = false := by simpa using h1
  have e2 : (kind == 2) = false := by simpa using h2
  have e3 : (kind == 3) = false := by simpa using h3
  cases past
  · exact bounds_kind4f kind e0 e1 e2 e3 w
  · exact bounds_kind4t kind e0 e1 e2 e3 w
end Go.Proofs.Ytofaghpflmeblaa
