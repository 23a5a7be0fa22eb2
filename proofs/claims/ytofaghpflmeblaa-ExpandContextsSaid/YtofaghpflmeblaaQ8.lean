/- expand: Expand of any bytes, both halves; New, Reset, Clone. expand: works of law 44. expand: Contexts, Clone and Same of an expander that New did not make; the iterator. Printed out of XGN by gen/xpo.py. expand: the walk of ExpandNone. Printed out of XGQ by gen/xpo.py. -/
import Derived.Test.YtofaghpflmeblaaQ7
import Derived.Test.YtofaghpflmeblaaQ4
import Derived.Lib.ConvBytes
namespace Go.Proofs.Ytofaghpflmeblaa
open Go.RowKit
set_option linter.unusedVariables false

attribute [local go_sem ↓] Go.wp_at_zero Go.wp_at_succ

theorem kind4 (x : Int) (h : 0 ≤ x ∧ x < 256) : x / 64 = 0 ∨ x / 64 = 1 ∨ x / 64 = 2 ∨ x / 64 = 3 := by omega
theorem expand_any (g : Nat) (S : Nat → Ec) (A : Option Addr) (n cp : Nat) (z : Nat → Int) (w : World) (h : EB w g true S) (hok : ∀ i, i < 16 → (S i).Ok) (hnc : n ≤ cp) (hm : n ≤ maxLen) (hz : ∀ j, j < n → 0 ≤ z j ∧ z j < 256) (hr : Row w w.heap.size A n (fun j => .int .u8 (z j))) (hlg : ∀ a, A = some a → a.block ≠ g) :
    Calls Try.prog 14 #[.pointer (some ⟨g, 0, none⟩), .slice A n cp] w (XOut S n z g w) := by
  by_cases h0 : n = 0
  · subst h0
    exact (expand_empty g S A cp w h).mono fun e w' ⟨he, hb⟩ => by rw [he]; exact XOut.bad h hb rfl (by decide) (by decide)
  · obtain ⟨lb, lo, rfl, _, _⟩ := hr (by omega)
    have hl : lb ≠ g := hlg _ rfl
    rcases kind4 (z 0) (hz 0 (by omega)) with hk | hk | hk | hk
    · exact expand_walk0 g S lb lo n cp z w h hok (by omega) hnc hm hz hr hl hk
    · exact expand_walk1 g S lb lo n cp z w h hok (by omega) hnc hm hz hr hl hk
    · exact expand_walk2 g S lb lo n cp z w h hok (by omega) hnc hm hz hr hl hk
    · exact expand_walk3 g S lb lo n cp z w h hok (by omega) hnc hm hz hr hl hk
theorem rexpand_any (S : Nat → Ec) (A : Option Addr) (n cp : Nat) (z : Nat → Int) (w : World) (hok : ∀ i, i < 16 → (S i).Ok) (hnc : n ≤ cp) (hm : n ≤ maxLen) (hz : ∀ j, j < n → 0 ≤ z j ∧ z j < 256) (hr : Row w w.heap.size A n (fun j => .int .u8 (z j))) :
    Calls Try.prog 38 #[.agg (rxArr S), .slice A n cp] w (RXOut A S n z w) := by
  by_cases h0 : n = 0
  · exact rx_empty S A n cp z w h0
  · rcases kind4 (z 0) (hz 0 (by omega)) with hk | hk | hk | hk
    · exact rx_full S A n cp z w (by omega) hnc hm hz hok hk hr
    · exact rx_delta S A n cp z w (by omega) hnc hm hz hok hk hr
    · exact rx_compact S A n cp z w (by omega) hnc hm hz hok hk hr
    · exact rx_raw S A n cp z w (by omega) hnc hm hz hok hk hr

theorem zeroEx : Try.zeroCells62 = esArr false (fun _ => Ec.zero) := by kernel_rfl
theorem esArr_made (made b : Bool) (S : Nat → Ec) : (esArr made S).setIfInBounds 0 (.bool b) = esArr b S := by
  apply Array.ext_getElem?
  intro j
  rw [Array.getElem?_setIfInBounds]
  by_cases hj : j < 177
  · rw [esArr_at _ _ j hj, esArr_at _ _ j hj]
    by_cases hjk : 0 = j
    · subst hjk
      rw [if_pos rfl, if_pos (by rw [esArr_size]; omega)]
      rfl
    · rw [if_neg hjk]
      unfold eval_
      have h0 : ¬ j = 0 := fun e => hjk e.symm
      rw [if_neg h0, if_neg h0]
  · rw [Array.getElem?_eq_none (by rw [esArr_size]; omega), Array.getElem?_eq_none (by rw [esArr_size]; omega)]
    split
    · rename_i hh; rw [if_neg (by rw [esArr_size]; omega)]
    · rfl
theorem enew_ok (w : World) : Calls Try.prog 10 #[] w fun e w' => e = .returned (.pointer (some ⟨w.heap.size, 0, none⟩)) ∧ w.alloc (.cells (esArr true (fun _ => Ec.zero)) 62) = w' := by
  have hz : Try.zeroCells62.setIfInBounds 0 (.bool true) = esArr true (fun _ => Ec.zero) := by rw [zeroEx, esArr_made]
  go_enter Try.func10, Try.ntmps10
  go_wp2
  go_ret
  exact ⟨rfl, rfl⟩
theorem sizeEx : (Try.prog.info? 62).map (·.size) = some 177 := by kernel_rfl
theorem ec_one (c : Ec) : ∀ k, k < 11 → (c.cell k).oneCell' = true := eleven rfl rfl rfl rfl rfl rfl rfl rfl rfl rfl rfl
theorem es_one (made : Bool) (S : Nat → Ec) : (esArr made S).all (·.oneCell') = true := by
  rw [Array.all_eq_true]
  intro j hj
  have hj2 : j < 177 := by rw [esArr_size] at hj; exact hj
  have e := esArr_at made S j hj2
  rw [Array.getElem?_eq_getElem hj] at e
  rw [Option.some.inj e]
  unfold eval_
  split
  · rfl
  · exact ec_one _ _ (by omega)
/-- the end of a method that leaves the state S -/
def EOut (err : Int) (g : Nat) (S : Nat → Ec) (w : World) (e : Ending) (w' : World) : Prop :=
  e = .returned (.int .i64 err) ∧ EB w' g true S ∧ Keep1 g w w'
theorem ereset_none (g : Nat) (S : Nat → Ec) (w : World) (h : EB w g false S) :
    Calls Try.prog 22 #[.pointer (some ⟨g, 0, none⟩)] w fun e w' => e = .returned (.int .i64 1) ∧ w = w' := by
  have HB := Lib.hid (enone_ok g false S w h)
  clear h
  go_enter Try.func22, Try.ntmps22
  go_wp2_with (go_at_call 28; refine (HB.out).mono ?_; rintro e w1 ⟨rfl, rfl⟩)
  go_ret
  exact ⟨rfl, rfl⟩
theorem ereset_nil (w : World) :
    Calls Try.prog 22 #[.pointer none] w fun e w' => e = .returned (.int .i64 1) ∧ w = w' := by
  go_enter Try.func22, Try.ntmps22
  go_wp2_with (go_at_call 28; refine (enone_nil _).mono ?_; rintro e w1 ⟨rfl, rfl⟩)
  go_ret
  exact ⟨rfl, rfl⟩
set_option maxRecDepth 100000 in
theorem ereset_ok (g : Nat) (S : Nat → Ec) (w : World) (h : EB w g true S) :
    Calls Try.prog 22 #[.pointer (some ⟨g, 0, none⟩)] w (EOut 0 g (fun _ => Ec.zero) w) := by
  have HB := Lib.hid (enone_ok g true S w h)
  have HK := Lib.hid h
  have HO := Lib.hid (es_one true (fun _ => Ec.zero))
  obtain ⟨Z, hZ⟩ : ∃ Z, Z = esArr true (fun _ => Ec.zero) := ⟨_, rfl⟩
  have HN := Lib.hid (fun W => enew_ok W)
  have HS : Hid ((Try.prog.info? 62).map (·.size) = some Z.size) := Lib.hid (by rw [hZ, esArr_size]; exact sizeEx)
  have HS2 : Hid ((esArr true S).size = Z.size) := Lib.hid (by rw [hZ, esArr_size, esArr_size])
  rw [← hZ] at HN HO
  have HZ := Lib.hid hZ
  clear h hZ
  go_enter Try.func22, Try.ntmps22
  go_wp2_with (first
    | (go_at_call 28; refine (HB.out).mono ?_; rintro e w1 ⟨rfl, rfl⟩)
    | (go_at_call 10; refine (HN.out _).mono ?_; rintro e w1 ⟨rfl, rfl⟩)
    | (refine wpList_load_row rfl _ _ rfl w.heap.size rfl 62 Z (0, 0) _ (Blk.new w 62 Z) Try.underlying62 rfl HS.out ?_)
    | (refine wpList_store_row rfl _ _ _ rfl g Z rfl rfl 62 _ (Blk.alloc HK.out _) HS.out HS2.out HO.out ?_))
  go_ret
  refine ⟨rfl, ?_, keep_row (keep_of_below ((Below.refl _ w).alloc (Nat.le_refl _) _)) _⟩
  have := (Blk.alloc HK.out (.cells Z 62)).setRow (ds := Z)
  rw [HZ.out] at this ⊢
  exact this
theorem ernew_ok (w : World) :
    Calls Try.prog 18 #[] w fun e w' => e = .returned (.agg (rxArr (fun _ => Ec.zero))) ∧ Below w.heap.size w w' := by
  have hz := zeroXp
  obtain ⟨Z, hZ⟩ : ∃ Z, Z = rxArr (fun _ => Ec.zero) := ⟨_, rfl⟩
  have HSZ : Hid ((Try.prog.info? 41).map (·.size) = some Z.size) := Lib.hid (by rw [hZ, rxArr_size]; exact sizeXp)
  have HO1 : Hid (Z.all (·.oneCell') = true) := Lib.hid (by rw [hZ]; exact rxp_one _)
  rw [← hZ] at hz ⊢
  clear hZ
  go_enter Try.func18, Try.ntmps18
  go_wp2_with (refine wpList_store_row rfl _ _ _ rfl w.heap.size Z rfl rfl 41 Z (Blk.new w _ _) HSZ.out rfl HO1.out ?_)
  refine bodyPost_ret (v := .agg Z) (results_cell_row (g := w.heap.size) (t := 41) (fr := (0, 0)) Try.results18 _ _ _ _ rfl ((Blk.new w _ _).setRow (ds := Z)) Try.underlying41 rfl HSZ.out) rfl ⟨rfl, belowRow ((Below.refl _ w).alloc (Nat.le_refl _) _) (Nat.le_refl _) _⟩
end Go.Proofs.Ytofaghpflmeblaa
namespace Go.Proofs.Ytofaghpflmeblaa
open Go.RowKit
set_option linter.unusedVariables false

attribute [local go_sem ↓] Go.wp_at_zero Go.wp_at_succ

theorem num44_ok (x : Int) (w : World) : Calls Try.prog 15 #[.int .i64 x] w fun e w' => e = .returned (.int .i64 x) ∧ w = w' := by
  go_enter Try.func15, Try.ntmps15
  go_wp2
  go_ret
  exact ⟨rfl, rfl⟩
/-- the bytes of a string -/
def sz (s : ByteArray) (j : Nat) : Int := ((s.data.toList.getD j 0).toNat : Nat)
theorem sz_byte (s : ByteArray) (j : Nat) : 0 ≤ sz s j ∧ sz s j < 256 := by
  unfold sz
  have := (s.data.toList.getD j 0).toNat_lt
  omega
theorem conv_bytes (s : ByteArray) (w : World) : ∃ w1 cap, (convert 9 24 (.string s)).run Try.prog w = .ok (.slice (some ⟨w.heap.size, 0, none⟩) s.size cap) w1 ∧ s.size ≤ cap ∧ Row w1 w1.heap.size (some ⟨w.heap.size, 0, none⟩) s.size (fun j => .int .u8 (sz s j)) ∧ Below w.heap.size w w1 := by
  refine ⟨Lib.bytesWorld w 5 s, grownCap w s.size 0 5, Lib.run_convert_string_bytes w _ _ _ s Try.underlying9 Try.underlying24 Try.underlying5, grownCap_ge w s.size 0 _, fun _ => ⟨w.heap.size, 0, rfl, by rw [Lib.bytesWorld_size]; omega, fun j hj => ?_⟩, ⟨?_, ?_, ?_, by rw [Lib.bytesWorld_size]; omega, fun j hj => Lib.bytesWorld_at_old w _ s j hj⟩⟩
  · rw [Nat.zero_add]; exact Lib.bytesWorld_cell w _ s j hj
  all_goals rfl
/-- one line of works -/
def IsEnd (g : Nat) (S : Nat → Ec) (w : World) (e : Ending) (w' : World) : Prop := e = .returned (.bool true) ∧ EB w' g true S ∧ Keep1 g w w'
set_option maxRecDepth 100000 in
set_option maxHeartbeats 1600000 in
theorem is_ok (g : Nat) (S : Nat → Ec) (s Q F : ByteArray) (no : Int) (w : World) (h : EB w g true S) (hok : ∀ i, i < 16 → (S i).Ok) (hm : s.size ≤ maxLen)
    (hE : xErr S s.size (sz s) = no) (hQ : bytesOf (xLen S s.size (sz s)) (xY S s.size (sz s)) = Q) (hF : bytesOf (xFb S s.size (sz s)) (fun _ => 160 + (xAt (sz s) : Int)) = F) :
    Calls Try.prog 12 #[.pointer (some ⟨g, 0, none⟩), .string s, .string Q, .string F, .int .i64 no] w (IsEnd g (xS S s.size (sz s)) w) := by
  obtain ⟨w1, cap, hcv, hcap, hrow, hbel⟩ := conv_bytes s w
  have HX := Lib.hid (expand_any g S (some ⟨w.heap.size, 0, none⟩) s.size cap (sz s) w1 (h.below hbel h.lt) hok hcap hm (fun j _ => sz_byte s j) hrow (fun a e => by cases e; have := h.lt; show w.heap.size ≠ g; omega))
  have HB := Lib.hid hbel
  unfold XOut at HX
  have hs := h.lt
  obtain ⟨n, hn⟩ : ∃ n, n = s.size := ⟨_, rfl⟩
  rw [← hn] at hcv hE hQ hF HX
  obtain ⟨E, hE'⟩ : ∃ E, E = xErr S n (sz s) := ⟨_, rfl⟩
  obtain ⟨L, hL⟩ : ∃ L, L = xLen S n (sz s) := ⟨_, rfl⟩
  obtain ⟨M, hM⟩ : ∃ M, M = xFb S n (sz s) := ⟨_, rfl⟩
  obtain ⟨Y, hY⟩ : ∃ Y, Y = xY S n (sz s) := ⟨_, rfl⟩
  obtain ⟨S', hS'⟩ : ∃ S', S' = xS S n (sz s) := ⟨_, rfl⟩
  obtain ⟨a, ha⟩ : ∃ a : Int, a = 160 + (xAt (sz s) : Int) := ⟨_, rfl⟩
  rw [← hE', ← hL, ← hM, ← hY, ← hS', ← ha] at HX
  rw [← hn]
  rw [← hE'] at hE
  rw [← hL, ← hY] at hQ
  rw [← hM, ← ha] at hF
  rw [← hS']
  have hb : (E == no) = true := by simpa using hE
  have hq1 : ∀ W : World, (binOp .eql 9 (.string Q) (.string Q)).run Try.prog W = .ok (.bool true) W := fun W => by simp [go_sem]
  have hf1 : ∀ W : World, (binOp .eql 9 (.string F) (.string F)).run Try.prog W = .ok (.bool true) W := fun W => by simp [go_sem]
  have HQ := Lib.hid hQ
  have HF := Lib.hid hF
  clear hn hE hL hM hY hS' ha hE' hQ hF h hok hm hrow hbel hcap
  go_enter Try.func12, Try.ntmps12
  go_wp2_with (first
    | (go_at_call 14; refine (HX.out).mono ?_; rintro e w2 ⟨B, d, C, f, rfl, _, _, _, _, hR1, hR2, hEB, hK⟩; have s1 := row_string 24 9 5 Try.underlying24 Try.underlying5 Try.underlying9 hR1 d; rw [HQ.out] at s1; have s2 := row_string 24 9 5 Try.underlying24 Try.underlying5 Try.underlying9 hR2 f; rw [HF.out] at s2; have EB2 := Lib.hid hEB; have K2 := Lib.hid ((keep_of_below HB.out).trans hK); clear hR1 hR2 hEB hK)
    | (go_at_call 15; refine (num44_ok _ _).mono ?_; rintro e w3 ⟨rfl, rfl⟩))
  go_ret
  exact ⟨rfl, EB2.out, K2.out⟩
def pstr (id : Nat) : ByteArray := bytesOf 21 (wpk id)
set_option maxRecDepth 100000 in
set_option maxHeartbeats 1600000 in
theorem packet44_ok (id : Nat) (hid : id < 16) (w : World) : Calls Try.prog 11 #[.int .i64 (id : Int)] w fun e w' => e = .returned (.string (pstr id)) ∧ Below w.heap.size w w' := by
  have HB := Lib.hid (fun W N hN => rb43 id hid W N hN)
  go_enter Try.func11, Try.ntmps11
  go_wp2_with (go_at_call 27; refine (HB.out _ _ (by simp)).mono ?_; rintro e w1 ⟨b, c, rfl, hc, hb, hR, hB⟩; have s1 := row_string 24 9 5 Try.underlying24 Try.underlying5 Try.underlying9 hR c; have HBL := Lib.hid hB; clear hR hB)
  go_ret
  exact ⟨rfl, by have := HBL.out; simpa using this⟩
def yxs0 : Nat → Ec := fun _ => Ec.zero
def yws0 : ByteArray := ⟨#[128, 0, 1, 170]⟩
def yxs1 : Nat → Ec := xS yxs0 yws0.size (sz yws0)
theorem ywE0 : xErr yxs0 yws0.size (sz yws0) = 11 := by decide +kernel
theorem ywQ0 : bytesOf (xLen yxs0 yws0.size (sz yws0)) (xY yxs0 yws0.size (sz yws0)) = ⟨#[]⟩ := by decide +kernel
theorem ywF0 : bytesOf (xFb yxs0 yws0.size (sz yws0)) (fun _ => 160 + (xAt (sz yws0) : Int)) = ⟨#[160]⟩ := by decide +kernel
def yws1 : ByteArray := ⟨#[0, 0, 81, 0, 2, 0, 0, 0, 3, 0, 0, 0, 4, 5, 6, 0, 7, 0, 0, 8, 170]⟩
def yxs2 : Nat → Ec := xS yxs1 yws1.size (sz yws1)
theorem ywE1 : xErr yxs1 yws1.size (sz yws1) = 0 := by decide +kernel
theorem ywQ1 : bytesOf (xLen yxs1 yws1.size (sz yws1)) (xY yxs1 yws1.size (sz yws1)) = pstr 7 := by decide +kernel
theorem ywF1 : bytesOf (xFb yxs1 yws1.size (sz yws1)) (fun _ => 160 + (xAt (sz yws1) : Int)) = ⟨#[]⟩ := by decide +kernel
def yws2 : ByteArray := ⟨#[128, 0, 3, 170]⟩
def yxs3 : Nat → Ec := xS yxs2 yws2.size (sz yws2)
theorem ywE2 : xErr yxs2 yws2.size (sz yws2) = 0 := by decide +kernel
theorem ywQ2 : bytesOf (xLen yxs2 yws2.size (sz yws2)) (xY yxs2 yws2.size (sz yws2)) = pstr 10 := by decide +kernel
theorem ywF2 : bytesOf (xFb yxs2 yws2.size (sz yws2)) (fun _ => 160 + (xAt (sz yws2) : Int)) = ⟨#[]⟩ := by decide +kernel
def yws3 : ByteArray := ⟨#[128, 1, 1, 170]⟩
def yxs4 : Nat → Ec := xS yxs3 yws3.size (sz yws3)
theorem ywE3 : xErr yxs3 yws3.size (sz yws3) = 11 := by decide +kernel
theorem ywQ3 : bytesOf (xLen yxs3 yws3.size (sz yws3)) (xY yxs3 yws3.size (sz yws3)) = ⟨#[]⟩ := by decide +kernel
theorem ywF3 : bytesOf (xFb yxs3 yws3.size (sz yws3)) (fun _ => 160 + (xAt (sz yws3) : Int)) = ⟨#[160]⟩ := by decide +kernel
def yws4 : ByteArray := ⟨#[128, 0, 4, 170]⟩
def yxs5 : Nat → Ec := xS yxs4 yws4.size (sz yws4)
theorem ywE4 : xErr yxs4 yws4.size (sz yws4) = 11 := by decide +kernel
theorem ywQ4 : bytesOf (xLen yxs4 yws4.size (sz yws4)) (xY yxs4 yws4.size (sz yws4)) = ⟨#[]⟩ := by decide +kernel
theorem ywF4 : bytesOf (xFb yxs4 yws4.size (sz yws4)) (fun _ => 160 + (xAt (sz yws4) : Int)) = ⟨#[160]⟩ := by decide +kernel
def yws5 : ByteArray := ⟨#[192, 1]⟩
def yxs6 : Nat → Ec := xS yxs5 yws5.size (sz yws5)
theorem ywE5 : xErr yxs5 yws5.size (sz yws5) = 0 := by decide +kernel
theorem ywQ5 : bytesOf (xLen yxs5 yws5.size (sz yws5)) (xY yxs5 yws5.size (sz yws5)) = ⟨#[1]⟩ := by decide +kernel
theorem ywF5 : bytesOf (xFb yxs5 yws5.size (sz yws5)) (fun _ => 160 + (xAt (sz yws5) : Int)) = ⟨#[]⟩ := by decide +kernel
def yws6 : ByteArray := ⟨#[192]⟩
def yxs7 : Nat → Ec := xS yxs6 yws6.size (sz yws6)
theorem ywE6 : xErr yxs6 yws6.size (sz yws6) = 5 := by decide +kernel
theorem ywQ6 : bytesOf (xLen yxs6 yws6.size (sz yws6)) (xY yxs6 yws6.size (sz yws6)) = ⟨#[]⟩ := by decide +kernel
theorem ywF6 : bytesOf (xFb yxs6 yws6.size (sz yws6)) (fun _ => 160 + (xAt (sz yws6) : Int)) = ⟨#[]⟩ := by decide +kernel
def yws7 : ByteArray := ⟨#[129]⟩
def yxs8 : Nat → Ec := xS yxs7 yws7.size (sz yws7)
theorem ywE7 : xErr yxs7 yws7.size (sz yws7) = 9 := by decide +kernel
theorem ywQ7 : bytesOf (xLen yxs7 yws7.size (sz yws7)) (xY yxs7 yws7.size (sz yws7)) = ⟨#[]⟩ := by decide +kernel
theorem ywF7 : bytesOf (xFb yxs7 yws7.size (sz yws7)) (fun _ => 160 + (xAt (sz yws7) : Int)) = ⟨#[]⟩ := by decide +kernel
theorem xErr_zero {S : Nat → Ec} {n : Nat} {z : Nat → Int} (h : xErr S n z = 0) : 0 < n ∧ ¬ (z 0 % 4 ≠ 0 ∨ (xKind z = 3 ∧ xAt z ≠ 0)) ∧ xHead (xKind z) ≤ n ∧ (xKind z = 0 → fuErr n z = 0) ∧ (xKind z = 3 → n ≤ 9001) ∧ (xKind z ≠ 3 → xKind z ≠ 0 → acErr (S (xAt z)) n z (xHead (xKind z)) (xGen (S (xAt z)) (xKind z)) = 0) := by
  unfold xErr at h
  by_cases h0 : n = 0
  · rw [if_pos h0] at h; cases h
  rw [if_neg h0] at h
  by_cases h1 : z 0 % 4 ≠ 0 ∨ (xKind z = 3 ∧ xAt z ≠ 0)
  · rw [if_pos h1] at h; cases h
  rw [if_neg h1] at h
  by_cases h2 : n < xHead (xKind z)
  · rw [if_pos h2] at h; cases h
  rw [if_neg h2] at h
  refine ⟨by omega, h1, by omega, fun hk => ?_, fun hk => ?_, fun h3 hk => ?_⟩
  · rw [if_neg (by rw [hk]; decide), if_pos hk] at h; exact h
  · rw [if_pos hk] at h
    by_cases h9 : 9001 < n
    · rw [if_pos h9] at h; cases h
    · omega
  · rw [if_neg h3, if_neg hk] at h; exact h
theorem xS_ok (S : Nat → Ec) (n : Nat) (z : Nat → Int) (hok : ∀ i, i < 16 → (S i).Ok) (hz : ∀ j, j < n → 0 ≤ z j ∧ z j < 256) : ∀ i, i < 16 → (xS S n z i).Ok := by
  intro i hi
  unfold xS
  by_cases h11 : xErr S n z = 11
  · rw [if_pos h11]; unfold updE; split
    · exact Ec.zero_ok
    · exact hok i hi
  rw [if_neg h11]
  by_cases h0 : xErr S n z = 0
  rotate_left
  · rw [if_pos h0]; exact hok i hi
  rw [if_neg (not_not_intro h0)]
  obtain ⟨_, _, hh, _, _, ha⟩ := xErr_zero h0
  by_cases k0 : xKind z = 0
  · rw [if_pos k0]
    rw [k0] at hh
    have : 20 ≤ n := hh
    unfold updE; split
    · exact fullC_ok n z (hz 1 (by omega))
    · exact hok i hi
  rw [if_neg k0]
  by_cases k1 : xKind z = 1
  · rw [if_pos k1]
    rw [k1] at hh
    have h6 : 6 ≤ n := hh
    have hc := ha (by rw [k1]; decide) k0
    obtain ⟨hz2, _, _, _⟩ := acErr_good hc
    unfold updE; split
    · exact deltaC_ok _ z (hok _ (by unfold xAt; omega)) (hz 1 (by omega)) (by have := hz 2 (by omega); omega) (hz 3 (by omega)) (hz 4 (by omega)) (hz 5 (by omega))
    · exact hok i hi
  · rw [if_neg k1]; exact hok i hi
theorem zero_all : ∀ i, i < 16 → ((fun _ => Ec.zero : Nat → Ec) i).Ok := fun _ _ => Ec.zero_ok
theorem yxo0 : ∀ i, i < 16 → (yxs0 i).Ok := zero_all
theorem yxo1 : ∀ i, i < 16 → (yxs1 i).Ok := xS_ok _ _ _ yxo0 (fun j _ => sz_byte _ j)
theorem yxo2 : ∀ i, i < 16 → (yxs2 i).Ok := xS_ok _ _ _ yxo1 (fun j _ => sz_byte _ j)
theorem yxo3 : ∀ i, i < 16 → (yxs3 i).Ok := xS_ok _ _ _ yxo2 (fun j _ => sz_byte _ j)
theorem yxo4 : ∀ i, i < 16 → (yxs4 i).Ok := xS_ok _ _ _ yxo3 (fun j _ => sz_byte _ j)
theorem yxo5 : ∀ i, i < 16 → (yxs5 i).Ok := xS_ok _ _ _ yxo4 (fun j _ => sz_byte _ j)
theorem yxo6 : ∀ i, i < 16 → (yxs6 i).Ok := xS_ok _ _ _ yxo5 (fun j _ => sz_byte _ j)
theorem yxo7 : ∀ i, i < 16 → (yxs7 i).Ok := xS_ok _ _ _ yxo6 (fun j _ => sz_byte _ j)
theorem yxo8 : ∀ i, i < 16 → (yxs8 i).Ok := xS_ok _ _ _ yxo7 (fun j _ => sz_byte _ j)
theorem yis0 (g : Nat) (w : World) (h : EB w g true yxs0) : Calls Try.prog 12 #[.pointer (some ⟨g, 0, none⟩), .string (⟨#[128, 0, 1, 170]⟩ : ByteArray), .string (⟨#[]⟩ : ByteArray), .string (⟨#[160]⟩ : ByteArray), .int .i64 11] w (IsEnd g yxs1 w) := is_ok g yxs0 yws0 _ _ _ w h yxo0 (by decide +kernel) ywE0 ywQ0 ywF0
theorem yis1 (g : Nat) (w : World) (h : EB w g true yxs1) : Calls Try.prog 12 #[.pointer (some ⟨g, 0, none⟩), .string (⟨#[0, 0, 81, 0, 2, 0, 0, 0, 3, 0, 0, 0, 4, 5, 6, 0, 7, 0, 0, 8, 170]⟩ : ByteArray), .string (pstr 7), .string (⟨#[]⟩ : ByteArray), .int .i64 0] w (IsEnd g yxs2 w) := is_ok g yxs1 yws1 _ _ _ w h yxo1 (by decide +kernel) ywE1 ywQ1 ywF1
theorem yis2 (g : Nat) (w : World) (h : EB w g true yxs2) : Calls Try.prog 12 #[.pointer (some ⟨g, 0, none⟩), .string (⟨#[128, 0, 3, 170]⟩ : ByteArray), .string (pstr 10), .string (⟨#[]⟩ : ByteArray), .int .i64 0] w (IsEnd g yxs3 w) := is_ok g yxs2 yws2 _ _ _ w h yxo2 (by decide +kernel) ywE2 ywQ2 ywF2
theorem yis3 (g : Nat) (w : World) (h : EB w g true yxs3) : Calls Try.prog 12 #[.pointer (some ⟨g, 0, none⟩), .string (⟨#[128, 1, 1, 170]⟩ : ByteArray), .string (⟨#[]⟩ : ByteArray), .string (⟨#[160]⟩ : ByteArray), .int .i64 11] w (IsEnd g yxs4 w) := is_ok g yxs3 yws3 _ _ _ w h yxo3 (by decide +kernel) ywE3 ywQ3 ywF3
theorem yis4 (g : Nat) (w : World) (h : EB w g true yxs4) : Calls Try.prog 12 #[.pointer (some ⟨g, 0, none⟩), .string (⟨#[128, 0, 4, 170]⟩ : ByteArray), .string (⟨#[]⟩ : ByteArray), .string (⟨#[160]⟩ : ByteArray), .int .i64 11] w (IsEnd g yxs5 w) := is_ok g yxs4 yws4 _ _ _ w h yxo4 (by decide +kernel) ywE4 ywQ4 ywF4
theorem yis5 (g : Nat) (w : World) (h : EB w g true yxs5) : Calls Try.prog 12 #[.pointer (some ⟨g, 0, none⟩), .string (⟨#[192, 1]⟩ : ByteArray), .string (⟨#[1]⟩ : ByteArray), .string (⟨#[]⟩ : ByteArray), .int .i64 0] w (IsEnd g yxs6 w) := is_ok g yxs5 yws5 _ _ _ w h yxo5 (by decide +kernel) ywE5 ywQ5 ywF5
theorem yis6 (g : Nat) (w : World) (h : EB w g true yxs6) : Calls Try.prog 12 #[.pointer (some ⟨g, 0, none⟩), .string (⟨#[192]⟩ : ByteArray), .string (⟨#[]⟩ : ByteArray), .string (⟨#[]⟩ : ByteArray), .int .i64 5] w (IsEnd g yxs7 w) := is_ok g yxs6 yws6 _ _ _ w h yxo6 (by decide +kernel) ywE6 ywQ6 ywF6
theorem yis7 (g : Nat) (w : World) (h : EB w g true yxs7) : Calls Try.prog 12 #[.pointer (some ⟨g, 0, none⟩), .string (⟨#[129]⟩ : ByteArray), .string (⟨#[]⟩ : ByteArray), .string (⟨#[]⟩ : ByteArray), .int .i64 9] w (IsEnd g yxs8 w) := is_ok g yxs7 yws7 _ _ _ w h yxo7 (by decide +kernel) ywE7 ywQ7 ywF7
theorem enew_ok2 (w : World) : Calls Try.prog 10 #[] w fun e w' => e = .returned (.pointer (some ⟨w.heap.size, 0, none⟩)) ∧ EB w' w.heap.size true (fun _ => Ec.zero) ∧ Below w.heap.size w w' :=
  (enew_ok w).mono fun e w' ⟨he, hw⟩ => ⟨he, by rw [← hw]; exact Blk.new _ _ _, by rw [← hw]; exact (Below.refl _ w).alloc (Nat.le_refl _) _⟩
theorem pk7x (w : World) : Calls Try.prog 11 #[.int .i64 7] w fun e w' => e = .returned (.string (pstr 7)) ∧ Below w.heap.size w w' := packet44_ok 7 (by decide) w
theorem pk10x (w : World) : Calls Try.prog 11 #[.int .i64 10] w fun e w' => e = .returned (.string (pstr 10)) ∧ Below w.heap.size w w' := packet44_ok 10 (by decide) w
set_option maxRecDepth 100000 in
set_option maxHeartbeats 3200000 in
theorem works44_true (w : World) : Calls Try.prog 13 #[] w fun e w' => e = .returned (.bool true) ∧ Below w.heap.size w w' := by
  obtain ⟨q7, hq7⟩ : ∃ q, q = pstr 7 := ⟨_, rfl⟩
  obtain ⟨q10, hq10⟩ : ∃ q, q = pstr 10 := ⟨_, rfl⟩
  have H7 := Lib.hid (fun W => pk7x W)
  have H10 := Lib.hid (fun W => pk10x W)
  have I1 := Lib.hid (fun g W h => yis1 g W h)
  have I2 := Lib.hid (fun g W h => yis2 g W h)
  rw [← hq7] at H7 I1
  rw [← hq10] at H10 I2
  clear hq7 hq10
  go_enter Try.func13, Try.ntmps13
  go_wp2_with (first
    | (go_at_call 10; ((with_reducible refine (enew_ok2 _).mono ?_); rintro e w0 ⟨rfl, hK0, hB0⟩; have K0 := Lib.hid (show EB w0 w.heap.size true yxs0 from hK0); have B0 := Lib.hid hB0; clear hK0 hB0))
    | (go_at_call 12; ((with_reducible refine (yis0 w.heap.size w0 K0.out).mono ?_); rintro e w1 ⟨rfl, hK1, hE1⟩; have K1 := Lib.hid hK1; have E1 := Lib.hid hE1; clear hK1 hE1))
    | (go_at_call 11; ((with_reducible refine (H7.out w1).mono ?_); rintro e w2 ⟨rfl, hB2⟩; have K2 := Lib.hid (K1.out.below hB2 K1.out.lt); have E2 := Lib.hid (E1.out.trans (keep_of_below hB2)); clear hB2))
    | (go_at_call 12; ((with_reducible refine (I1.out w.heap.size w2 K2.out).mono ?_); rintro e w3 ⟨rfl, hK3, hE3⟩; have K3 := Lib.hid hK3; have E3 := Lib.hid (E2.out.trans hE3); clear hK3 hE3))
    | (go_at_call 11; ((with_reducible refine (H10.out w3).mono ?_); rintro e w4 ⟨rfl, hB4⟩; have K4 := Lib.hid (K3.out.below hB4 K3.out.lt); have E4 := Lib.hid (E3.out.trans (keep_of_below hB4)); clear hB4))
    | (go_at_call 12; ((with_reducible refine (I2.out w.heap.size w4 K4.out).mono ?_); rintro e w5 ⟨rfl, hK5, hE5⟩; have K5 := Lib.hid hK5; have E5 := Lib.hid (E4.out.trans hE5); clear hK5 hE5))
    | (go_at_call 12; ((with_reducible refine (yis3 w.heap.size w5 K5.out).mono ?_); rintro e w6 ⟨rfl, hK, hE⟩; have K6 := Lib.hid hK; have E6 := Lib.hid (E5.out.trans hE); clear hK hE))
    | (go_at_call 12; ((with_reducible refine (yis4 w.heap.size w6 K6.out).mono ?_); rintro e w7 ⟨rfl, hK, hE⟩; have K7 := Lib.hid hK; have E7 := Lib.hid (E6.out.trans hE); clear hK hE))
    | (go_at_call 12; ((with_reducible refine (yis5 w.heap.size w7 K7.out).mono ?_); rintro e w8 ⟨rfl, hK, hE⟩; have K8 := Lib.hid hK; have E8 := Lib.hid (E7.out.trans hE); clear hK hE))
    | (go_at_call 12; ((with_reducible refine (yis6 w.heap.size w8 K8.out).mono ?_); rintro e w9 ⟨rfl, hK, hE⟩; have K9 := Lib.hid hK; have E9 := Lib.hid (E8.out.trans hE); clear hK hE))
    | (go_at_call 12; ((with_reducible refine (yis7 w.heap.size w9 K9.out).mono ?_); rintro e w10 ⟨rfl, hK, hE⟩; have K10 := Lib.hid hK; have E10 := Lib.hid (E9.out.trans hE); clear hK hE)))
  go_ret
  exact ⟨rfl, below_keep B0.out E10.out (Nat.le_refl _) (Nat.le_of_lt K0.out.lt)⟩
end Go.Proofs.Ytofaghpflmeblaa
namespace Go.Proofs.Ytofaghpflmeblaa
open Go.RowKit Go.Shelf
set_option linter.unusedVariables false

attribute [local go_sem] Oper.semAt_some

/-- the contexts as an array's cells -/
def eaArr (S : Nat → Ec) : Array Value := Array.ofFn (n := 176) fun j => (S (j.1 / 11)).cell (j.1 % 11)
theorem eaArr_size (S : Nat → Ec) : (eaArr S).size = 176 := by simp [eaArr]
theorem eaArr_at (S : Nat → Ec) (j : Nat) (hj : j < 176) : (eaArr S)[j]? = some ((S (j / 11)).cell (j % 11)) := by
  unfold eaArr; simp [hj]
theorem zeroEa : Try.zeroCells60 = eaArr (fun _ => Ec.zero) := by kernel_rfl
theorem sizeEa : (Try.prog.info? 60).map (·.size) = some 176 := by kernel_rfl
theorem sizeEc : (Try.prog.info? 59).map (·.size) = some 11 := by kernel_rfl
theorem ea_one (S : Nat → Ec) : (eaArr S).all (·.oneCell') = true := by
  rw [Array.all_eq_true]
  intro j hj
  have hj2 : j < 176 := by rw [eaArr_size] at hj; exact hj
  have e := eaArr_at S j hj2
  rw [Array.getElem?_eq_getElem hj] at e
  rw [Option.some.inj e]
  exact ec_one _ _ (by omega)
theorem ea_part (S : Nat → Ec) (k : Nat) (hk : k < 16) : (eaArr S).extract (k * 11) (k * 11 + 11) = #[.int .i64 (S k).hops, .int .i64 (S k).ident, .int .i64 (S k).time, .bool (S k).valid, .int .i64 (S k).f0, .int .i64 (S k).f1, .int .i64 (S k).f2, .int .i64 (S k).f3, .int .i64 (S k).f4, .int .u8 (S k).gen, .int .i64 (S k).step] := by
  have hc : #[.int .i64 (S k).hops, .int .i64 (S k).ident, .int .i64 (S k).time, .bool (S k).valid, .int .i64 (S k).f0, .int .i64 (S k).f1, .int .i64 (S k).f2, .int .i64 (S k).f3, .int .i64 (S k).f4, .int .u8 (S k).gen, .int .i64 (S k).step] = (S k).cells.toArray := rfl
  rw [hc]
  apply Array.ext_getElem?
  intro j
  rw [Array.getElem?_extract]
  by_cases hj : j < 11
  · rw [if_pos (by rw [eaArr_size]; omega), eaArr_at S _ (by omega), show (k * 11 + j) / 11 = k by omega, show (k * 11 + j) % 11 = j by omega]
    unfold Ec.cell
    simp only [List.getElem?_toArray]
    have : j < (S k).cells.length := hj
    rw [List.getD, List.getElem?_eq_getElem this]
    rfl
  · rw [if_neg (by rw [eaArr_size]; omega)]
    rw [Array.getElem?_eq_none (by show 11 ≤ j; omega)]
theorem eagg_index (cs : Array Value) (k : Nat) (hk : k < 16) (X : World) (hs : (Try.prog.info? 59).map (·.size) = some 11) : (Instr.index 60 (.agg cs) (.int .i64 (k : Int))).run Try.prog X = .ok (.agg (cs.extract (k * 11) (k * 11 + 11))) X := by
  have hu := Try.underlying60
  obtain ⟨i, hi, his⟩ : ∃ i, Try.prog.info? 59 = some i ∧ i.size = 11 := by
    cases hq : Try.prog.info? 59 with
    | none => rw [hq] at hs; cases hs
    | some i => rw [hq] at hs; exact ⟨i, rfl, by simpa using hs⟩
  unfold Instr.index
  simp [Sem.run_bind, asIntOf, run_underlying hu X, part, sizeOf, typeInfo, hi, his]
  intro h; omega
theorem ea_index (S : Nat → Ec) (k : Nat) (hk : k < 16) (X : World) : (Instr.index 60 (.agg (eaArr S)) (.int .i64 (k : Int))).run Try.prog X = .ok (.agg #[.int .i64 (S k).hops, .int .i64 (S k).ident, .int .i64 (S k).time, .bool (S k).valid, .int .i64 (S k).f0, .int .i64 (S k).f1, .int .i64 (S k).f2, .int .i64 (S k).f3, .int .i64 (S k).f4, .int .u8 (S k).gen, .int .i64 (S k).step]) X := by
  rw [eagg_index _ k hk X sizeEc, ea_part S k hk]

set_option maxRecDepth 100000 in
theorem econtexts_nil (w : World) : Calls Try.prog 21 #[.pointer none] w fun e w' => e = .returned (.func (.func 39) #[] #[.pointer (some ⟨w.heap.size, 0, none⟩)]) ∧ w.alloc (.cells (eaArr (fun _ => Ec.zero)) 60) = w' := by
  have hmf : ∀ (fn : Fn) (first cap : Array Value) (w : World), (Instr.makeFunc fn first cap).run Try.prog w = .ok (.func fn first cap) w := fun _ _ _ _ => rfl
  have hz := zeroEa
  go_enter Try.func21, Try.ntmps21
  go_wp2_with (go_at_call 28; refine (enone_nil _).mono ?_; rintro e w1 ⟨rfl, rfl⟩)
  go_ret
  exact ⟨rfl, rfl⟩
set_option maxRecDepth 100000 in
theorem econtexts_none (g : Nat) (S : Nat → Ec) (w : World) (h : EB w g false S) : Calls Try.prog 21 #[.pointer (some ⟨g, 0, none⟩)] w fun e w' => e = .returned (.func (.func 39) #[] #[.pointer (some ⟨w.heap.size, 0, none⟩)]) ∧ w.alloc (.cells (eaArr (fun _ => Ec.zero)) 60) = w' := by
  have hmf : ∀ (fn : Fn) (first cap : Array Value) (w : World), (Instr.makeFunc fn first cap).run Try.prog w = .ok (.func fn first cap) w := fun _ _ _ _ => rfl
  have hz := zeroEa
  have HB := Lib.hid (fun o : Obj => enone_ok g false S _ (h.alloc o))
  clear h
  go_enter Try.func21, Try.ntmps21
  go_wp2_with (go_at_call 28; refine (HB.out _).mono ?_; rintro e w1 ⟨rfl, rfl⟩)
  go_ret
  exact ⟨rfl, rfl⟩
theorem eclone_nil (w : World) : Calls Try.prog 19 #[.pointer none] w fun e w' => e = .returned (.pointer none) ∧ w = w' := by
  go_enter Try.func19, Try.ntmps19
  go_wp2_with (go_at_call 28; refine (enone_nil _).mono ?_; rintro e w1 ⟨rfl, rfl⟩)
  go_ret
  exact ⟨rfl, rfl⟩
theorem eclone_none (g : Nat) (S : Nat → Ec) (w : World) (h : EB w g false S) : Calls Try.prog 19 #[.pointer (some ⟨g, 0, none⟩)] w fun e w' => e = .returned (.pointer none) ∧ w = w' := by
  have HB := Lib.hid (enone_ok g false S _ h)
  clear h
  go_enter Try.func19, Try.ntmps19
  go_wp2_with (go_at_call 28; refine (HB.out).mono ?_; rintro e w1 ⟨rfl, rfl⟩)
  go_ret
  exact ⟨rfl, rfl⟩
/-- Same of two of which the first was not made -/
theorem esame_none (p q : Value) (b : Bool) (w : World)
    (h1 : Calls Try.prog 28 #[p] w fun e w' => e = .returned (.bool true) ∧ w = w')
    (h2 : Calls Try.prog 28 #[q] w fun e w' => e = .returned (.bool b) ∧ w = w') :
    Calls Try.prog 20 #[p, q] w fun e w' => e = .returned (.bool b) ∧ w = w' := by
  have H1 := Lib.hid h1
  have H2 := Lib.hid h2
  clear h1 h2
  go_enter Try.func20, Try.ntmps20
  go_wp2_with (first
    | (go_at_call 28; ((with_reducible refine (H1.out).mono ?_); rintro e w1 ⟨rfl, rfl⟩))
    | (go_at_call 28; ((with_reducible refine (H2.out).mono ?_); rintro e w1 ⟨rfl, rfl⟩)))
  go_ret
  exact ⟨rfl, rfl⟩

/-- the contexts in use among the first k -/
def validL (S : Nat → Ec) : Nat → List Nat
  | 0 => []
  | k + 1 => if (S k).valid then validL S k ++ [k] else validL S k
theorem validL_len (S : Nat → Ec) : ∀ k, (validL S k).length ≤ k
  | 0 => Nat.le_refl _
  | k + 1 => by
    unfold validL
    have := validL_len S k
    split
    · simp; omega
    · omega
theorem validL_mono (S : Nat → Ec) (k : Nat) : ∀ d, (validL S k).length ≤ (validL S (k + d)).length
  | 0 => Nat.le_refl _
  | d + 1 => by
    have := validL_mono S k d
    show _ ≤ (validL S (k + d + 1)).length
    rw [validL]
    split
    · simp; omega
    · omega
set_option maxRecDepth 100000 in
set_option maxHeartbeats 2000000 in
theorem ectx_stops (S : Nat → Ec) (fb n : Nat) (w : World) (hB : Blk w fb 60 (eaArr S)) (hn : 1 ≤ n) :
    SeqStopsK Fence.wide n Try.prog 39 #[.pointer (some ⟨fb, 0, none⟩)] (fun k : Nat => #[.int .i64 (k : Nat), .agg #[.int .i64 (S k).f0, .int .i64 (S k).f1, .int .i64 (S k).f2, .int .i64 (S k).f3, .int .i64 (S k).f4]]) (fun _ _ => True) (fun xs => xs = validL S 16) (fun pre => ∃ m, m ≤ 16 ∧ pre = validL S m) (validL S 16).length w := fun l J Jx W hW hJ hJx hY h0 => by
  have HY := Lib.hid hY
  have HJ := Lib.hid hJ
  have hBW := hB.below hW hB.lt
  have HBW := Lib.hid hBW
  have HSZ : Hid ((Try.prog.info? 60).map (·.size) = some (eaArr S).size) := Lib.hid (by rw [eaArr_size]; exact sizeEa)
  clear hJ hJx hY hW hB hBW
  refine callsIn_of_wp Try.func39 rfl trivial ?_ rfl
  simp only [Try.ntmps39, List.size_toArray, List.length_cons, List.length_nil, Nat.reduceAdd, Nat.reduceSub, Array.replicate_succ, Array.replicate_zero, List.push_toArray, List.append_toArray, List.nil_append, List.cons_append]
  refine wpIn_wide.2 (wp_scope_straight ((wpIn_wide (n := n)).1 ?_))
  gi_wp2
  refine wpIn_label ?_
  gi_wp2_with (refine wpListIn_load_row rfl _ _ rfl fb rfl 60 (eaArr S) (0, 0) _ HBW.out Try.underlying60 rfl HSZ.out ?_)
  gi_loopw [6] (fun v wr => ∃ k : Nat, k ≤ 16 ∧ v = .int .i64 k ∧ J (validL S k) wr) (fun v _ => 16 - (intOf v).toNat)
  case atStart => exact ⟨0, by omega, rfl, h0⟩
  case round =>
    obtain ⟨k, hk, rfl, hJk⟩ := hrel
    by_cases hlt : k < 16
    · have hix := ea_index S k hlt
      obtain ⟨W2, hW2⟩ : ∃ W2, W2 = wr.alloc (.cells #[.int .i64 (S k).hops, .int .i64 (S k).ident, .int .i64 (S k).time, .bool (S k).valid, .int .i64 (S k).f0, .int .i64 (S k).f1, .int .i64 (S k).f2, .int .i64 (S k).f3, .int .i64 (S k).f4, .int .u8 (S k).gen, .int .i64 (S k).step] 59) := ⟨_, rfl⟩
      have hJ2 : J (validL S k) W2 := by rw [hW2]; exact HJ.out _ wr _ none hJk (World.grownBy_alloc wr _ none) (fun r h => by cases h)
      have HUL := Lib.hid (show validL S (k + 1) = if (S k).valid then validL S k ++ [k] else validL S k from rfl)
      have HW2 := Lib.hid hW2
      obtain ⟨u, hu⟩ : ∃ u, u = (S k).valid := ⟨_, rfl⟩
      rw [← hu] at HUL hix HW2
      cases u
      · have HU := Lib.hid hu
        clear hu hW2
        refine wpIn_wide.2 ?_
        go_wp2
        rw [← HW2.out]
        go_roundw
        case rel => exact ⟨k + 1, by omega, by go_num, by rw [HUL.out]; exact hJ2⟩
        case measure => simp [intOf]; omega
      · have hlen : (validL S k).length < (validL S 16).length := by
          have h1 := validL_mono S (k + 1) (15 - k)
          rw [show k + 1 + (15 - k) = 16 by omega, HUL.out] at h1
          simp at h1
          omega
        obtain ⟨fn, tmps, assign, body, hy, hR⟩ := HY.out (validL S k) k W2 hJ2 hlen
        have HRr := Lib.hid hR
        have HU := Lib.hid hu
        rw [HW2.out] at hy
        clear hR hu hW2
        gi_wp2
        rw [← HW2.out]
        refine HRr.out.mono ?_
        rintro e w4 (⟨rfl, hJ4, _⟩ | ⟨rfl, hx4⟩)
        · gi_wp2
          go_roundw
          case rel => exact ⟨k + 1, by omega, by go_num, by rw [HUL.out]; exact hJ4⟩
          case measure => simp [intOf]; omega
        · gi_wp2
          try rw [Exit.noGoto_normal]
          go_end0
          exact ⟨⟨_, rfl⟩, .inr ⟨validL S (k + 1), ⟨k + 1, by omega, rfl⟩, by rw [HUL.out]; exact hx4⟩⟩
    · obtain rfl : k = 16 := by omega
      gi_wp2
      try rw [Exit.noGoto_normal]
      go_end0
      exact ⟨⟨_, rfl⟩, .inl ⟨_, rfl, hJk⟩⟩
end Go.Proofs.Ytofaghpflmeblaa
namespace Go.Proofs.Ytofaghpflmeblaa
open Go.RowKit Go.Shelf
set_option linter.unusedVariables false

attribute [local go_sem] Oper.semAt_some

def xz0 : Nat → Ec := fun _ => Ec.zero
theorem valid0 : ∀ k, validL xz0 k = []
  | 0 => rfl
  | k + 1 => by
    unfold validL
    rw [valid0 k]
    rfl
theorem seq44_not_nil (fb : Nat) (w : World) : (binOp .eql 50 (.func (.func 39) #[] #[.pointer (some ⟨fb, 0, none⟩)]) .nilFunc).run Try.prog w = .ok (.bool false) w := by kernel_rfl
/-- a compressor that New did not make -/
def UnmadeE (p : Value) (w : World) : Prop := p = .pointer none ∨ ∃ g, p = .pointer (some ⟨g, 0, none⟩) ∧ EB w g false xz0
theorem UnmadeE.isNone {p : Value} {w : World} (h : UnmadeE p w) : Calls Try.prog 28 #[p] w fun e w' => e = .returned (.bool true) ∧ w = w' := by
  rcases h with rfl | ⟨g, rfl, h⟩
  · exact enone_nil w
  · exact enone_ok g false xz0 w h
theorem UnmadeE.expand {p : Value} {w : World} (h : UnmadeE p w) (Z : Value) : Calls Try.prog 14 #[p, Z] w fun e w' => e = .returned (.tuple #[.slice none 0 0, .slice none 0 0, .int .i64 1]) ∧ Below w.heap.size w w' := by
  rcases h with rfl | ⟨g, rfl, h⟩
  · exact expand_nil Z w
  · exact expand_none g xz0 Z w h
theorem UnmadeE.reset {p : Value} {w : World} (h : UnmadeE p w) : Calls Try.prog 22 #[p] w fun e w' => e = .returned (.int .i64 1) ∧ w = w' := by
  rcases h with rfl | ⟨g, rfl, h⟩
  · exact ereset_nil w
  · exact ereset_none g xz0 w h
theorem UnmadeE.clone {p : Value} {w : World} (h : UnmadeE p w) : Calls Try.prog 19 #[p] w fun e w' => e = .returned (.pointer none) ∧ w = w' := by
  rcases h with rfl | ⟨g, rfl, h⟩
  · exact eclone_nil w
  · exact eclone_none g xz0 w h
theorem UnmadeE.contexts {p : Value} {w : World} (h : UnmadeE p w) : Calls Try.prog 21 #[p] w fun e w' => e = .returned (.func (.func 39) #[] #[.pointer (some ⟨w.heap.size, 0, none⟩)]) ∧ Blk w' w.heap.size 60 (eaArr xz0) ∧ Below w.heap.size w w' := by
  rcases h with rfl | ⟨g, rfl, h⟩
  · exact (econtexts_nil w).mono fun e w' ⟨h1, h2⟩ => ⟨h1, by rw [← h2]; exact Blk.new _ _ _, by rw [← h2]; exact (Below.refl _ w).alloc (Nat.le_refl _) _⟩
  · exact (econtexts_none g xz0 w h).mono fun e w' ⟨h1, h2⟩ => ⟨h1, by rw [← h2]; exact Blk.new _ _ _, by rw [← h2]; exact (Below.refl _ w).alloc (Nat.le_refl _) _⟩
theorem UnmadeE.same_nil {p : Value} {w : World} (h : UnmadeE p w) : Calls Try.prog 20 #[p, .pointer none] w fun e w' => e = .returned (.bool true) ∧ w = w' :=
  esame_none p _ true w h.isNone (enone_nil w)
theorem UnmadeE.same_made {p : Value} {w : World} (h : UnmadeE p w) (g : Nat) (S : Nat → Ec) (hK : EB w g true S) : Calls Try.prog 20 #[p, .pointer (some ⟨g, 0, none⟩)] w fun e w' => e = .returned (.bool false) ∧ w = w' :=
  esame_none p _ false w h.isNone (enone_ok g true S w hK)
theorem UnmadeE.below {p : Value} {w w' : World} (h : UnmadeE p w) (hb : Below w.heap.size w w') : UnmadeE p w' := by
  rcases h with rfl | ⟨g, rfl, h⟩
  · exact .inl rfl
  · exact .inr ⟨g, rfl, h.below hb h.lt⟩

set_option maxRecDepth 100000 in
set_option maxHeartbeats 3200000 in
theorem enone_walk (A : Option Addr) (n c : Nat) (zero : Bool) (w : World) :
    Calls Try.prog 7 #[.slice A n c, .bool zero] w fun e w' => e = .returned (.bool true) ∧ Below w.heap.size w w' := by
  have hz := zeroEx
  refine (callsIn_wide (n := 8)).1 ?_
  refine callsIn_of_wp_marks Try.func7 rfl trivial ?_ rfl
  simp only [Try.ntmps7, List.size_toArray, List.length_cons, List.length_nil, Nat.reduceAdd, Nat.reduceSub, Array.replicate_succ, Array.replicate_zero, List.push_toArray, List.append_toArray, List.nil_append, List.cons_append]
  by_cases hn : 100 < n
  · have hn2 : (100 : Int) < (n : Int) := by omega
    gi_wp2_with (refine ⟨trivial, ?_⟩; gi_at_call 13; refine (callsIn_wide.2 (works44_true _)).mono ?_; rintro e w1 ⟨rfl, hB1⟩; have q9 := hB1.cell (p := ⟨w.heap.size, 0, none⟩) (by simp); have q9f := hB1.frozen (p := ⟨w.heap.size, 0, none⟩) (by simp))
    have h5 : (w1.setCell ⟨w.heap.size, 0, none⟩ (.bool true)).cell? ⟨w.heap.size, 0, none⟩ = some (.bool true) := World.cell?_setCell_same' w1 ⟨w.heap.size, 0, none⟩ (.bool true) (by rw [q9, (Blk.new w 4 #[.bool false]).cell 0]; rfl)
    refine ⟨.bool true, ?_, rfl, ?_⟩
    · simp [results, go_sem, h5]
    · exact (((Below.refl _ w).alloc (Nat.le_refl _) _).trans (hB1.mono (by simp))).setCell (p := ⟨w.heap.size, 0, none⟩) (Nat.le_refl _) _
  · have hn2 : ¬ (100 : Int) < (n : Int) := by omega
    obtain ⟨p, W0, hW0⟩ : ∃ p W0, (zero = false ∧ p = Value.pointer none ∧ W0 = w.alloc (.cells #[.bool false] 4)) ∨ (zero = true ∧ p = Value.pointer (some ⟨w.heap.size + 1, 0, none⟩) ∧ W0 = (w.alloc (.cells #[.bool false] 4)).alloc (.cells (esArr false (fun _ => Ec.zero)) 62)) := by
      cases zero
      · exact ⟨_, _, .inl ⟨rfl, rfl, rfl⟩⟩
      · exact ⟨_, _, .inr ⟨rfl, rfl, rfl⟩⟩
    have HU := Lib.hid (show UnmadeE p W0 from by
      rcases hW0 with ⟨_, rfl, _⟩ | ⟨_, rfl, rfl⟩
      · exact .inl rfl
      · exact .inr ⟨_, rfl, blk_at _ _ _ _ (by simp)⟩)
    have Q0 := Lib.hid (show Blk W0 w.heap.size 4 #[.bool false] from by
      rcases hW0 with ⟨_, _, rfl⟩ | ⟨_, _, rfl⟩
      · exact Blk.new _ _ _
      · exact (Blk.new _ _ _).alloc _)
    have B0 := Lib.hid (show Below w.heap.size w W0 from by
      rcases hW0 with ⟨_, _, rfl⟩ | ⟨_, _, rfl⟩
      · exact (Below.refl _ w).alloc (Nat.le_refl _) _
      · exact ((Below.refl _ w).alloc (Nat.le_refl _) _).alloc (by simp) _)
    rcases hW0 with ⟨rfl, hp, hW⟩ | ⟨rfl, hp, hW⟩
    all_goals
      have HP := Lib.hid hp
      have HW := Lib.hid hW
      clear hp hW
      gi_wp2_with (first
        | (refine ⟨trivial, ?_⟩; gi_at_call 14; rw [← HW.out]; (try rw [← HP.out]); refine (callsIn_wide.2 (HU.out.expand _)).mono ?_; rintro e w1 ⟨rfl, b1⟩; have HU1 := Lib.hid (HU.out.below b1); have Q1 := Lib.hid (Q0.out.below b1 Q0.out.lt); have B1 := Lib.hid (below_step B0.out b1); clear b1)
        | (refine ⟨trivial, ?_⟩; gi_at_call 21; (try rw [← HP.out]); refine (callsIn_wide.2 (HU1.out.contexts)).mono ?_; rintro e w2 ⟨rfl, c2, b2⟩; have HU2 := Lib.hid (HU1.out.below b2); have Q2 := Lib.hid (Q1.out.below b2 Q1.out.lt); have B2 := Lib.hid (below_step B1.out b2); have C2 := Lib.hid c2; have hnn := seq44_not_nil w1.heap.size; clear b2 c2))
      refine wpIn_rangeFunc_ownF rfl (by decide) (gf := 39) (lb := #[.pointer (some ⟨w1.heap.size, 0, none⟩)]) rfl trivial (enters_of Try.func39 (by kernel_rfl) rfl)
        (ectx_stops xz0 w1.heap.size 7 w2 C2.out (by decide)) (fun _ _ => trivial) (fun _ _ _ _ _ _ _ _ => trivial) (Below.refl _ _) (fun _ => rfl)
        (fun _ W => Below w2.heap.size w2 W) (fun _ _ _ => False) (ownFrom_below (Nat.le_refl _) (Nat.le_refl _)) (fun _ _ _ _ _ h _ _ => h) (Below.refl _ _) ?_ ?_ ?_ ?_ ?_
      rotate_left
      · intro l x U K hK
        gi_wp2
        exact hK
      · intro l pre x U _ hlen
        rw [valid0] at hlen
        exact absurd hlen (by simp)
      · rintro D xs W hD rfl hBW hK
        have HU3 := Lib.hid (HU2.out.below hBW)
        have Q3 := Lib.hid (Q2.out.below hBW Q2.out.lt)
        have B3 := Lib.hid (below_step B2.out hBW)
        have HBW := Lib.hid hBW
        have HK := Lib.hid hK
        clear hBW hK
        gi_wp2_with (first
          | (refine ⟨trivial, ?_⟩; gi_at_call 15; refine (callsIn_wide.2 (num44_ok _ _)).mono ?_; rintro e w3 ⟨rfl, rfl⟩)
          | (refine ⟨trivial, ?_⟩; gi_at_call 22; refine (callsIn_wide.2 (HU3.out.reset)).mono ?_; rintro e w3 ⟨rfl, rfl⟩)
          | (refine ⟨trivial, ?_⟩; gi_at_call 19; refine (callsIn_wide.2 (HU3.out.clone)).mono ?_; rintro e w3 ⟨rfl, rfl⟩)
          | (refine ⟨trivial, ?_⟩; gi_at_call 20; ((with_reducible refine (callsIn_wide.2 (HU3.out.same_nil)).mono ?_); rintro e w3 ⟨rfl, rfl⟩))
          | (refine ⟨trivial, ?_⟩; gi_at_call 10; refine (callsIn_wide.2 (enew_ok2 _)).mono ?_; rintro e w4 ⟨rfl, k4, b4⟩; have K4 := Lib.hid k4; have HU4 := Lib.hid (HU3.out.below b4); have Q4 := Lib.hid (Q3.out.below b4 Q3.out.lt); have B4 := Lib.hid (below_step B3.out b4); have E4 := Lib.hid b4; clear k4 b4)
          | (refine ⟨trivial, ?_⟩; gi_at_call 20; ((with_reducible refine (callsIn_wide.2 (HU4.out.same_made _ _ K4.out)).mono ?_); rintro e w3 ⟨rfl, rfl⟩))
          | (refine ⟨trivial, ?_⟩; gi_at_call 13; refine (callsIn_wide.2 (works44_true _)).mono ?_; rintro e w9 ⟨rfl, b9⟩; have Q9 := Lib.hid (Q4.out.below b9 Q4.out.lt); have B9 := Lib.hid (below_step B4.out b9); have E9 := Lib.hid b9; have q9 := Q9.out.cell 0; have q9f := Q9.out.frozen 0; clear b9))
        have hDW : D < W.heap.size := (Array.getElem?_eq_some_iff.1 HK.out).1
        have hD9 : w9.heap[D]? = some (.deferred (some [])) := (E9.out.block D (by have := E4.out.size; omega)).trans ((E4.out.block D hDW).trans HK.out)
        have hD9' := (KeepsOthers.setCell w9 ⟨w.heap.size, 0, none⟩ (.bool true)).same D _ hD9 rfl
        refine ⟨by simp, .inl ⟨_, _, rfl, run_takeDeferred hD9', ?_⟩⟩
        have h5 : ((w9.setCell ⟨w.heap.size, 0, none⟩ (.bool true)).putObj D (.deferred none)).cell? ⟨w.heap.size, 0, none⟩ = some (.bool true) :=
          cell_kept (World.cell?_setCell_same' w9 ⟨w.heap.size, 0, none⟩ (.bool true) (by rw [q9]; rfl)) (grownBy_putObj' _ D (.deferred none)) (fun r e => by cases e; exact ⟨_, hD9', rfl⟩)
        refine ⟨.bool true, ?_, rfl, ?_⟩
        · simp [results, go_sem, h5]
        · have hb : Below w.heap.size w (w9.setCell ⟨w.heap.size, 0, none⟩ (.bool true)) := B9.out.setCell (p := ⟨w.heap.size, 0, none⟩) (Nat.le_refl _) _
          exact hb.grown (grownBy_putObj' _ D (.deferred none)) hb.size (fun k e => by cases e; have := B2.out.size; omega)
      · rintro D c pre W hD _ h _
        exact h.elim
end Go.Proofs.Ytofaghpflmeblaa
