/- compress: packet and works of law 43. -/
import Derived.Test.YtejadoadpgcpjaaGI
import Derived.Test.YtejadoadpgcpjaaGH
namespace Go.Proofs.Ytejadoadpgcpjaa
open Go.RowKit

attribute [local go_sem ↓] Go.wp_at_zero Go.wp_at_succ

def Xw (id : Nat) (j : Nat) : Int := ([1, 2, 3, 4, 5, 6, (id : Int), 8, 21] : List Int).getD j 0
def hk (id : Nat) (j : Nat) : Int := ([1, 2, 3, 4, 5, 6, (id : Int), 8, 0] : List Int).getD j 0
def wpk (id : Nat) (j : Nat) : Int := ([81, 0, 2, 0, 0, 0, 3, 0, 0, 0, 4, 5, 6, 0, (id : Int), 0, 0, 8, 0, 21, 170] : List Int).getD j 0
theorem wpk_pkt : ∀ id, id < 16 → ∀ j, j < 21 → pktAt (withLen (hk id) (20 + (1 : Nat))) (fun _ => 170) j = wpk id j := by decide +kernel
theorem wpk_byte : ∀ id, id < 16 → ∀ j, j < 21 → 0 ≤ wpk id j ∧ wpk id j < 256 := by decide +kernel
theorem wpk_valid : ∀ id, id < 16 → validB (withLen (hk id) (20 + (1 : Nat))) = true := by decide +kernel
theorem wpk_err : ∀ id, id < 16 → pErr 21 (wpk id) = 0 := by decide +kernel
theorem wpk_hdr9 : ∀ id, id < 16 → ∀ j, j < 9 → pHdr 21 (wpk id) j = Xw id j := by decide +kernel
theorem wpk_hdr (id : Nat) (h : id < 16) : pHdr 21 (wpk id) = Xw id := by
  funext j
  by_cases hj : j < 9
  · exact wpk_hdr9 id h j hj
  · unfold pHdr gpart Xw
    rw [if_pos (wpk_err id h), if_neg (by omega)]
    rw [List.getD, List.getElem?_eq_none (by simp; omega)]; rfl

theorem num43_ok (x : Int) (w : World) : Calls Try.prog 33 #[.int .i64 x] w fun e w' => e = .returned (.int .i64 x) ∧ w = w' := by
  go_enter Try.func33, Try.ntmps33
  go_wp2
  go_ret
  exact ⟨rfl, rfl⟩
def PkOut (id : Nat) (w : World) (e : Ending) (w' : World) : Prop :=
  ∃ b c, e = .returned (.slice (some ⟨b, 0, none⟩) 21 c) ∧ 21 ≤ c ∧ w.heap.size ≤ b ∧ Row w' w'.heap.size (some ⟨b, 0, none⟩) 21 (fun j => .int .u8 (wpk id j)) ∧ Below w.heap.size w w'
theorem rb43 (id : Nat) (hid : id < 16) (W : World) (N : Nat) (hN : W.heap.size = N) : Calls Try.prog 20 #[.agg #[.int .i64 1, .int .i64 2, .int .i64 3, .int .i64 4, .int .i64 5, .int .i64 6, .int .i64 (id : Int), .int .i64 8, .int .i64 0], .slice (some ⟨N, 0, none⟩) 1 1] (W.alloc (.cells #[.int .u8 170] 5)) fun e w' =>
    ∃ b c, e = .returned (.tuple #[.slice (some ⟨b, 0, none⟩) 21 c, .int .i64 0]) ∧ 21 ≤ c ∧ W.heap.size ≤ b ∧ Row w' w'.heap.size (some ⟨b, 0, none⟩) 21 (fun j => .int .u8 (wpk id j)) ∧ Below W.heap.size W w' := by
  subst hN
  refine (rbuild_good (hk id) (some ⟨W.heap.size, 0, none⟩) 1 1 (fun _ => 170) (by decide) (wpk_valid id hid) _ ((Blk.new W 5 #[.int .u8 170]).one_row (by simp))).mono ?_
  rintro e w' ⟨A, c, rfl, hc, ho, hb⟩
  obtain ⟨g, c', hv, h1, h2⟩ := own_form ho (by decide)
  obtain ⟨rfl, rfl⟩ : A = some ⟨g, 0, none⟩ ∧ c = c' := by (cases hv; exact ⟨rfl, rfl⟩)
  exact ⟨g, c, rfl, hc, Nat.le_trans (by simp) h1, (own_map_row ho).2.congr (fun j hj => by rw [wpk_pkt id hid j hj]), ((Below.refl _ W).alloc (Nat.le_refl _) _).trans (hb.mono (by simp))⟩
set_option maxRecDepth 100000 in
set_option maxHeartbeats 1600000 in
theorem packet_ok (id : Nat) (hid : id < 16) (w : World) : Calls Try.prog 41 #[.int .i64 (id : Int)] w (PkOut id w) := by
  have HB := Lib.hid (fun W N hN => rb43 id hid W N hN)
  go_enter Try.func41, Try.ntmps41
  go_wp2_with (go_at_call 20; refine (HB.out _ _ (by simp)).mono ?_; rintro e w1 ⟨b, c, rfl, hc, hb, hR, hB⟩; have HR := Lib.hid hR; have HBL := Lib.hid hB; clear hR hB)
  go_ret
  exact ⟨b, c, rfl, hc, by simpa using hb, HR.out, by have := HBL.out; simpa using this⟩

theorem COut.to {len len' : Nat} {y y' : Nat → Int} {err : Int} {g : Nat} {S S' : Nat → Rx} {T T' : Int} {w : World} {e : Ending} {w' : World} (h : COut len y err g S T w e w') (hl : len = len') (hy : ∀ j, j < len' → y j = y' j) (hS : S = S') (hT : T = T') : COut len' y' err g S' T' w e w' := by
  subst hl hS hT
  obtain ⟨A, c, he, hc, hF, hR, hK, hE⟩ := h
  exact ⟨A, c, he, hc, hF, hR.congr (fun j hj => by rw [hy j hj]), hK, hE⟩
def S0 : Nat → Rx := fun _ => Rx.zero
def wc1 : Rx := ⟨6, 7, 8, true, 1, 2, 3, 4, 5, true, 0, 0, false, 1⟩
def wc2 : Rx := ⟨6, 7, 8, true, 1, 2, 3, 4, 5, true, 0, 0, false, 2⟩
def wc3 : Rx := ⟨6, 7, 8, true, 1, 2, 3, 4, 5, true, 0, 0, false, 3⟩
def wc30 : Rx := ⟨6, 7, 8, true, 1, 2, 3, 4, 5, true, 0, 0, true, 3⟩
def wc4 : Rx := ⟨6, 11, 8, true, 1, 2, 3, 4, 5, true, 1, 0, false, 4⟩
def wy1 (j : Nat) : Int := ([0, 0, 81, 0, 2, 0, 0, 0, 3, 0, 0, 0, 4, 5, 6, 0, 7, 0, 0, 8, 170] : List Int).getD j 0
theorem wy1_str : bytesOf 21 wy1 = ⟨#[0, 0, 81, 0, 2, 0, 0, 0, 3, 0, 0, 0, 4, 5, 6, 0, 7, 0, 0, 8, 170]⟩ := by decide +kernel
def wy2 (j : Nat) : Int := ([128, 0, 1, 170] : List Int).getD j 0
theorem wy2_str : bytesOf 4 wy2 = ⟨#[128, 0, 1, 170]⟩ := by decide +kernel
def wy3 (j : Nat) : Int := ([128, 0, 3, 170] : List Int).getD j 0
theorem wy3_str : bytesOf 4 wy3 = ⟨#[128, 0, 3, 170]⟩ := by decide +kernel
def wy4 (j : Nat) : Int := ([0, 1, 81, 0, 2, 0, 0, 0, 3, 0, 0, 0, 4, 5, 6, 0, 11, 0, 0, 8, 170] : List Int).getD j 0
theorem wy4_str : bytesOf 21 wy4 = ⟨#[0, 1, 81, 0, 2, 0, 0, 0, 3, 0, 0, 0, 4, 5, 6, 0, 11, 0, 0, 8, 170]⟩ := by decide +kernel
def wy5 (j : Nat) : Int := ([192, 1] : List Int).getD j 0
theorem wy5_str : bytesOf 2 wy5 = ⟨#[192, 1]⟩ := by decide +kernel
theorem S0_ok : ∀ i, i < 16 → (S0 i).Ok := fun i _ => ⟨by show (0 : Int) ≤ 0 ∧ (0 : Int) < 256; decide, by show (0 : Int) ≤ 0 ∧ (0 : Int) < 65536; decide, by show (0 : Int) ≤ 0 ∧ (0 : Int) < 16777216; decide, by show (0 : Int) ≤ 0 ∧ (0 : Int) < 256; decide, by show (0 : Int) ≤ 0 ∧ (0 : Int) < 65536; decide⟩
theorem upd_ok {S : Nat → Rx} (h : ∀ i, i < 16 → (S i).Ok) (k : Nat) (c : Rx) (hc : c.Ok) : ∀ i, i < 16 → (upd S k c i).Ok := fun i hi => by
  unfold upd
  split
  · exact hc
  · exact h i hi
theorem wc1_ok : wc1.Ok := ⟨by decide, by decide, by decide, by decide, by decide⟩
theorem wc2_ok : wc2.Ok := ⟨by decide, by decide, by decide, by decide, by decide⟩
theorem wc3_ok : wc3.Ok := ⟨by decide, by decide, by decide, by decide, by decide⟩
theorem wc30_ok : wc30.Ok := ⟨by decide, by decide, by decide, by decide, by decide⟩
theorem wc4_ok : wc4.Ok := ⟨by decide, by decide, by decide, by decide, by decide⟩
theorem ws1 : cState S0 0 (Xw 7) = upd S0 0 wc1 := by
  have e1 : cPlace S0 (Xw 7) = 0 := by decide +kernel
  have e2 : cNew S0 0 (Xw 7) = wc1 := by kernel_rfl
  unfold cState
  rw [e1, e2]
theorem wl1 : cLen S0 0 (Xw 7) = 19 := by decide +kernel
theorem wz1 : ∀ j, j < 21 → joinY (cFirst S0 0 (Xw 7)) (cBody S0 0 (Xw 7) 21 (wpk 7)) j = wy1 j := by decide +kernel
theorem cw1 (g b c : Nat) (w : World) (h : CB w g true S0 0) (hc : 21 ≤ c) (hr : Row w w.heap.size (some ⟨b, 0, none⟩) 21 (fun j => .int .u8 (wpk 7 j))) (hg : b ≠ g) :
    Calls Try.prog 32 #[.pointer (some ⟨g, 0, none⟩), .slice (some ⟨b, 0, none⟩) 21 c] w (COut 21 wy1 0 g (upd S0 0 wc1) 1 w) :=
  (compress_good g S0 0 b 0 21 c (wpk 7) w h S0_ok (by decide) (wpk_err 7 (by decide)) hc (wpk_byte 7 (by decide)) hr hg).mono fun e w' ho => by
    rw [wpk_hdr 7 (by decide)] at ho
    exact ho.to (by rw [wl1]) wz1 ws1 (by decide)
theorem ws2 : cState (upd S0 0 wc1) 1 (Xw 8) = upd S0 0 wc2 := by
  have e1 : cPlace (upd S0 0 wc1) (Xw 8) = 0 := by decide +kernel
  have e2 : cNew (upd S0 0 wc1) 1 (Xw 8) = wc2 := by kernel_rfl
  unfold cState
  rw [e1, e2]; exact upd_upd _ _ _ _
theorem wl2 : cLen (upd S0 0 wc1) 1 (Xw 8) = 2 := by decide +kernel
theorem wz2 : ∀ j, j < 4 → joinY (cFirst (upd S0 0 wc1) 1 (Xw 8)) (cBody (upd S0 0 wc1) 1 (Xw 8) 21 (wpk 8)) j = wy2 j := by decide +kernel
theorem cw2 (g b c : Nat) (w : World) (h : CB w g true (upd S0 0 wc1) 1) (hc : 21 ≤ c) (hr : Row w w.heap.size (some ⟨b, 0, none⟩) 21 (fun j => .int .u8 (wpk 8 j))) (hg : b ≠ g) :
    Calls Try.prog 32 #[.pointer (some ⟨g, 0, none⟩), .slice (some ⟨b, 0, none⟩) 21 c] w (COut 4 wy2 0 g (upd S0 0 wc2) 2 w) :=
  (compress_good g (upd S0 0 wc1) 1 b 0 21 c (wpk 8) w h (upd_ok S0_ok 0 wc1 wc1_ok) (by decide) (wpk_err 8 (by decide)) hc (wpk_byte 8 (by decide)) hr hg).mono fun e w' ho => by
    rw [wpk_hdr 8 (by decide)] at ho
    exact ho.to (by rw [wl2]) wz2 ws2 (by decide)
theorem ws3 : cState (upd S0 0 wc2) 2 (Xw 10) = upd S0 0 wc3 := by
  have e1 : cPlace (upd S0 0 wc2) (Xw 10) = 0 := by decide +kernel
  have e2 : cNew (upd S0 0 wc2) 2 (Xw 10) = wc3 := by kernel_rfl
  unfold cState
  rw [e1, e2]; exact upd_upd _ _ _ _
theorem wl3 : cLen (upd S0 0 wc2) 2 (Xw 10) = 2 := by decide +kernel
theorem wz3 : ∀ j, j < 4 → joinY (cFirst (upd S0 0 wc2) 2 (Xw 10)) (cBody (upd S0 0 wc2) 2 (Xw 10) 21 (wpk 10)) j = wy3 j := by decide +kernel
theorem cw3 (g b c : Nat) (w : World) (h : CB w g true (upd S0 0 wc2) 2) (hc : 21 ≤ c) (hr : Row w w.heap.size (some ⟨b, 0, none⟩) 21 (fun j => .int .u8 (wpk 10 j))) (hg : b ≠ g) :
    Calls Try.prog 32 #[.pointer (some ⟨g, 0, none⟩), .slice (some ⟨b, 0, none⟩) 21 c] w (COut 4 wy3 0 g (upd S0 0 wc3) 3 w) :=
  (compress_good g (upd S0 0 wc2) 2 b 0 21 c (wpk 10) w h (upd_ok S0_ok 0 wc2 wc2_ok) (by decide) (wpk_err 10 (by decide)) hc (wpk_byte 10 (by decide)) hr hg).mono fun e w' ho => by
    rw [wpk_hdr 10 (by decide)] at ho
    exact ho.to (by rw [wl3]) wz3 ws3 (by decide)
theorem ws4 : cState (upd S0 0 wc30) 3 (Xw 11) = upd S0 0 wc4 := by
  have e1 : cPlace (upd S0 0 wc30) (Xw 11) = 0 := by decide +kernel
  have e2 : cNew (upd S0 0 wc30) 3 (Xw 11) = wc4 := by kernel_rfl
  unfold cState
  rw [e1, e2]; exact upd_upd _ _ _ _
theorem wl4 : cLen (upd S0 0 wc30) 3 (Xw 11) = 19 := by decide +kernel
theorem wz4 : ∀ j, j < 21 → joinY (cFirst (upd S0 0 wc30) 3 (Xw 11)) (cBody (upd S0 0 wc30) 3 (Xw 11) 21 (wpk 11)) j = wy4 j := by decide +kernel
theorem cw4 (g b c : Nat) (w : World) (h : CB w g true (upd S0 0 wc30) 3) (hc : 21 ≤ c) (hr : Row w w.heap.size (some ⟨b, 0, none⟩) 21 (fun j => .int .u8 (wpk 11 j))) (hg : b ≠ g) :
    Calls Try.prog 32 #[.pointer (some ⟨g, 0, none⟩), .slice (some ⟨b, 0, none⟩) 21 c] w (COut 21 wy4 0 g (upd S0 0 wc4) 4 w) :=
  (compress_good g (upd S0 0 wc30) 3 b 0 21 c (wpk 11) w h (upd_ok S0_ok 0 wc30 wc30_ok) (by decide) (wpk_err 11 (by decide)) hc (wpk_byte 11 (by decide)) hr hg).mono fun e w' ho => by
    rw [wpk_hdr 11 (by decide)] at ho
    exact ho.to (by rw [wl4]) wz4 ws4 (by decide)
theorem cw5 (g b c : Nat) (S : Nat → Rx) (T : Int) (w : World) (h : CB w g true S T) (hr : Row w w.heap.size (some ⟨b, 0, none⟩) 1 (fun _ => .int .u8 1)) (hc : 1 ≤ c) :
    Calls Try.prog 32 #[.pointer (some ⟨g, 0, none⟩), .slice (some ⟨b, 0, none⟩) 1 c] w (COut 2 wy5 0 g S T w) :=
  (compress_raw g S T (some ⟨b, 0, none⟩) 1 c (fun _ => 1) w h (by decide) (by decide) hc (fun _ _ => by decide) hr).mono fun e w' ho => ho.to rfl (by decide +kernel) rfl rfl
theorem wf1 : feedS (upd S0 0 wc3) (fun _ => 160) 1 = upd S0 0 wc30 := by
  have e1 : anyBad (fun _ => 160) 1 = false := by decide +kernel
  unfold feedS
  rw [e1]
  show upd (upd S0 0 wc3) 0 wc30 = _
  exact upd_upd _ _ _ _
end Go.Proofs.Ytejadoadpgcpjaa
