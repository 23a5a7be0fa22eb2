/- ExpandBack: the walk. -/
import Derived.Test.YtofaghpflmeblaaPN
import Derived.Test.YtofaghpflmeblaaPW
namespace Go.Proofs.Ytofaghpflmeblaa
open Go.RowKit Go.WideShapes
set_option linter.unusedVariables false
attribute [local go_sem ↓] Go.wp_at_zero Go.wp_at_succ

theorem back_compress (gc : Nat) (S : Nat → Rx) (T : Int) (A : Option Addr) (n c : Nat) (z : Nat → Int) (w : World) (h1 : 1 ≤ n) (h9 : n ≤ 9000) (h : CB w gc true S T) (hok : ∀ i, i < 16 → (S i).Ok) (hT : 0 ≤ T ∧ T < 4611686018427387904) (hnc : n ≤ c) (hz : ∀ j, j < n → 0 ≤ z j ∧ z j < 256) (hr : Row w w.heap.size A n (fun j => .int .u8 (z j))) (hlg : ∀ a, A = some a → a.block ≠ gc) :
    Calls Try.prog 25 #[.pointer (some ⟨gc, 0, none⟩), .slice A n c] w fun e w' => ∃ B d, e = .returned (.tuple #[.slice B (coLen S T n z) d, .int .i64 0]) ∧ coLen S T n z ≤ d ∧ Fresh w.heap.size B ∧ Row w' w'.heap.size B (coLen S T n z) (fun j => .int .u8 (coY S T n z j)) ∧ CB w' gc true (coS S T n z) (coT T n z) ∧ Keep1 gc w w' := by
  refine (compress_any gc S T A n c z w h hok hT hnc hz hr hlg).mono ?_
  rintro e w' ⟨B, d, he, h2, h3, h4, h5, h6⟩
  have hc : ckErr n = 0 := by unfold ckErr; rw [if_neg (by omega), if_neg (by omega)]
  rw [hc] at he
  exact ⟨B, d, he, h2, h3, h4, h5, h6⟩
theorem back_expand (gx : Nat) (E : Nat → Ec) (S : Nat → Rx) (T : Int) (n : Nat) (z : Nat → Int) (A : Option Addr) (cp : Nat) (W : World) (h1 : 1 ≤ n) (h9 : n ≤ 9000) (hz : ∀ j, j < n → 0 ≤ z j ∧ z j < 256) (hok : ∀ i, i < 16 → (S i).Ok) (hoe : ∀ i, i < 16 → (E i).Ok) (hub : Ub S) (hb : Bk S E)
    (hx : EB W gx true E) (hc : coLen S T n z ≤ cp) (hr : Row W W.heap.size A (coLen S T n z) (fun j => .int .u8 (coY S T n z j))) (hne : ∀ a, A = some a → a.block ≠ gx) :
    Calls Try.prog 14 #[.pointer (some ⟨gx, 0, none⟩), .slice A (coLen S T n z) cp] W fun e w' => ∃ B d C f E', e = .returned (.tuple #[.slice B n d, .slice C (0 : Nat) f, .int .i64 0]) ∧ Row w' w'.heap.size B n (fun j => .int .u8 (z j)) ∧ EB w' gx true E' ∧ (∀ i, i < 16 → (E' i).Ok) ∧ Bk (coS S T n z) E' ∧ Keep1 gx W w' := by
  have hM := coLen_in S T n z h1 h9
  have hby := coY_byte S T n z h1 h9 hz hok
  obtain ⟨s1, s2, s3, s4⟩ := back_step E S T n z h1 h9 hz hok hub hb
  refine (expand_any gx E A (coLen S T n z) cp (coY S T n z) W hx hoe hc (by unfold maxLen; omega) hby hr hne).mono ?_
  rintro e w' ⟨B, d, C, f, he, _, _, _, _, hB, _, hE, hK⟩
  rw [s1, s2, xFb_zero s1] at he
  rw [s2] at hB
  exact ⟨B, d, C, f, _, he, hB.congr fun j hj => by rw [s3 j hj], hE, xS_ok E _ _ hoe hby, s4, hK⟩
/-- what holds ahead of round k -/
def BackI (w : World) (gc gx k : Nat) (W : World) : Prop := ∃ S T E, CB W gc true S T ∧ EB W gx true E ∧ (∀ i, i < 16 → (S i).Ok) ∧ (∀ i, i < 16 → (E i).Ok) ∧ Ub S ∧ Bk S E ∧ (0 ≤ T ∧ T ≤ (k : Int)) ∧ Below w.heap.size w W
theorem rx0_ok : ∀ i, i < 16 → (S0 i).Ok := fun _ _ => (show Rx.zero.Ok from ⟨by decide, by decide, by decide, by decide, by decide⟩)
theorem ub0 : Ub S0 := fun _ _ h => by cases h
theorem bk0 : Bk S0 (fun _ => Ec.zero) := fun _ _ h => by cases h
theorem coT_in (T : Int) (n : Nat) (z : Nat → Int) (k : Nat) (h : 0 ≤ T ∧ T ≤ (k : Int)) : 0 ≤ coT T n z ∧ coT T n z ≤ ((k + 1 : Nat) : Int) := by unfold coT; split <;> omega

set_option maxRecDepth 100000 in
set_option maxHeartbeats 6400000 in
theorem back44_walk (A : Option Addr) (m c : Nat) (PA : Nat → Option Addr) (pn pc : Nat → Nat) (z : Nat → Nat → Int) (w : World) (hA : Rows2 w A m PA pn pc z) (hmx : m ≤ maxLen) :
    Calls Try.prog 8 #[.slice A m c] w fun e w' => e = .returned (.bool true) ∧ Below w.heap.size w w' := by
  by_cases hfew : (m : Int) ≤ 80 ∧ ∀ k, k < m → pn k ≤ 100
  rotate_left
  · have HF := Lib.hid (few44_no A m c 80 PA pn pc z w hA hfew hmx)
    clear hA hfew
    go_enter Try.func8, Try.ntmps8
    go_wp2_with (first
      | (go_at_call 16; refine (HF.out).mono ?_; rintro e w1 ⟨rfl, rfl⟩)
      | (go_at_call 13; refine (works44_true _).mono ?_; rintro e w1 ⟨rfl, hB1⟩))
    go_ret
    exact ⟨rfl, hB1⟩
  obtain ⟨hm80, hall⟩ := hfew
  have HF := Lib.hid (few44_yes A m c 80 PA pn pc z w hA hm80 hall hmx)
  have HR := Lib.hid hA
  have HALL := Lib.hid hall
  have M80 := Lib.hid hm80
  obtain ⟨g0, hg0⟩ : ∃ g0, g0 = w.heap.size := ⟨_, rfl⟩
  have HG0 := Lib.hid hg0
  clear hA hall hmx hm80
  go_enter Try.func8, Try.ntmps8
  go_upto_region 4 with (first
    | (go_at_call 16; refine (HF.out).mono ?_; rintro e w1 ⟨rfl, rfl⟩)
    | (go_at_call 24; refine (new_ok2 _).mono ?_; rintro e w1 ⟨rfl, hK1, hB1⟩; have K1 := Lib.hid hK1; have B1 := Lib.hid hB1; clear hK1 hB1)
    | (go_at_call 10; refine (enew_ok2 _).mono ?_; rintro e w2 ⟨rfl, hK2, hB2⟩; have C2 := Lib.hid (K1.out.below hB2 K1.out.lt); have E2 := Lib.hid hK2; have B2 := Lib.hid (below_step B1.out hB2); clear hK2 hB2))
  obtain ⟨gx, hgx⟩ : ∃ gx, gx = w1.heap.size := ⟨_, rfl⟩
  have E2' := E2.out
  have C2' := C2.out
  rw [← hgx] at E2' ⊢
  rw [← hg0] at C2' ⊢
  have hxc : g0 < gx := by rw [hgx, hg0]; exact K1.out.lt
  have SD : Hid (BackI w g0 gx 0 w2) := Lib.hid ⟨S0, 0, fun _ => Ec.zero, C2', E2', rx0_ok, zero_all, ub0, bk0, ⟨Int.le_refl _, Int.le_refl _⟩, B2.out⟩
  clear E2' C2' hgx hg0 E2 C2 K1 B1 B2 HF
  go_wp2
  go_loopw [5] (fun v5 wr => ∃ k : Nat, k ≤ m ∧ v5 = .int .i64 k ∧ BackI w g0 gx k wr) (fun v5 _ => m - (intOf v5).toNat)
  case atStart => exact ⟨0, by omega, rfl, SD.out⟩
  case round =>
    obtain ⟨k, hk, rfl, S, T, E, hC, hE, hok, hoe, hub, hbk, hT, hBr⟩ := hrel
    have HC := Lib.hid hC
    have HE := Lib.hid hE
    have OK := Lib.hid hok
    have OE := Lib.hid hoe
    have UB := Lib.hid hub
    have BK := Lib.hid hbk
    have HT := Lib.hid hT
    have BR := Lib.hid hBr
    clear hC hE hok hoe hub hbk hT hBr SD
    by_cases hlt : k < m
    · obtain ⟨lb, lo, rfl, hlb, hcl⟩ := HR.out.at_ (by omega)
      have q1 : wr.cell? ⟨lb, lo + k, none⟩ = some (.slice (PA k) (pn k) (pc k)) := (BR.out.cell (p := ⟨lb, lo + k, none⟩) hlb).trans (hcl k hlt)
      have k0 : (0 : Int) ≤ (k : Int) := by omega
      have k1 : (k : Int) < (m : Int) := by omega
      have hwr : w.heap.size ≤ wr.heap.size := BR.out.size
      have RW := Lib.hid (show Row wr wr.heap.size (PA k) (pn k) (fun j => .int .u8 (z k j)) from (HR.out.row k hlt).next BR.out)
      have HZ := Lib.hid (HR.out.byte k hlt)
      have hnc := HR.out.cap k hlt
      have hn1 := HALL.out k hlt
      have hk80 := M80.out
      have HGW := Lib.hid (show g0 = w.heap.size from HG0.out)
      clear hcl
      by_cases hp0 : pn k = 0
      · have HB := Lib.hid (compress_bad g0 S T (PA k) (pn k) (pc k) wr HC.out (by rw [hp0]; decide))
        have hck : ckErr (pn k) = 2 := by rw [hp0]; rfl
        rw [hck] at HB
        rw [hp0] at HB q1
        go_upto_region 8 with (go_at_call 25; refine HB.out.mono ?_; rintro e w3 ⟨rfl, hB3⟩; have B3 := Lib.hid hB3; have q3 := (hB3.cell (p := ⟨lb, lo + k, none⟩) (by show lb < _; omega)).trans q1; clear hB3)
        go_wp2_with (go_at_call 15; refine (num44_ok _ _).mono ?_; rintro e w9 ⟨rfl, rfl⟩)
        go_round
        case rel => exact ⟨k + 1, by omega, by go_num, S, T, E, HC.out.below B3.out HC.out.lt, HE.out.below B3.out HE.out.lt, OK.out, OE.out, UB.out, BK.out, ⟨HT.out.1, by have := HT.out.2; omega⟩, below_step BR.out B3.out⟩
        case measure => simp [intOf]; omega
      · obtain ⟨n, hn⟩ : ∃ n, n = pn k := ⟨_, rfl⟩
        have hlg : ∀ a, PA k = some a → a.block < w.heap.size := fun a e => by
          obtain ⟨b, off, e2, hb, _⟩ := HR.out.row k hlt (by omega)
          rw [e] at e2; cases e2
          exact hb
        rw [← hn] at q1 RW hnc hn1 HZ hp0
        have hcx : w.heap.size ≤ g0 := Nat.le_of_eq HGW.out.symm
        have HB := Lib.hid (back_compress g0 S T (PA k) n (pc k) (z k) wr (by omega) (by omega) HC.out OK.out ⟨HT.out.1, by have := HT.out.2; omega⟩ hnc HZ.out RW.out (fun a e => by have := hlg a e; omega))
        have hglt : gx < wr.heap.size := HE.out.lt
        have HX := Lib.hid (fun (A' : Option Addr) (cp : Nat) (W : World) => back_expand gx E S T n (z k) A' cp W (by omega) (by omega) HZ.out OK.out OE.out UB.out BK.out)
        have hpz : ((n : Int) == 0) = false := by simp; omega
        have HTN := Lib.hid (coT_in T n (z k) k HT.out)
        have OKN := Lib.hid (co_ok S T n (z k) OK.out)
        have UBN := Lib.hid (ub_step S T n (z k) UB.out)
        obtain ⟨M, hM⟩ : ∃ M, M = coLen S T n (z k) := ⟨_, rfl⟩
        rw [← hM] at HB HX
        have HLG := Lib.hid hlg
        clear hlg hM hnc hp0 hn1 hn
        go_upto_region 8 with (go_at_call 25; refine HB.out.mono ?_; rintro e w3 ⟨B, d, rfl, hMd, hFB, hRB, hC3, hK3⟩; have K3 := Lib.hid hK3; have C3 := Lib.hid hC3; have RB := Lib.hid hRB; have FB := Lib.hid hFB; have MD := Lib.hid hMd; clear hK3 hC3 hRB hFB hMd)
        have q3 : w3.cell? ⟨lb, lo + k, none⟩ = some (.slice (PA k) n (pc k)) := (World.cell?_of_block (K3.out.block lb (by omega) (by simp; omega))).trans q1
        have E3 := Lib.hid (K3.out.blk HE.out (by omega))
        have R3 := Lib.hid ((K3.out.rown RW.out (Nat.le_refl _) (fun a e _ => by have := HLG.out a e; omega)).more K3.out.size)
        have B3 := Lib.hid (below_keep BR.out K3.out (by omega) hwr)
        have HX3 := Lib.hid (HX.out B d w3 E3.out MD.out RB.out (fun a e => by have := FB.out a e; omega))
        have hw3 : wr.heap.size ≤ w3.heap.size := K3.out.size
        clear q1
        go_upto_region 12 with (go_at_call 14; refine HX3.out.mono ?_; rintro e w4 ⟨P, d2, C, f2, E', rfl, hRP, hE4, hoe4, hbk4, hK4⟩; have K4 := Lib.hid hK4; have E4 := Lib.hid hE4; have RP := Lib.hid hRP; have OE4 := Lib.hid hoe4; have BK4 := Lib.hid hbk4; clear hK4 hE4 hRP hoe4 hbk4)
        have q4 : w4.cell? ⟨lb, lo + k, none⟩ = some (.slice (PA k) n (pc k)) := (World.cell?_of_block (K4.out.block lb (by omega) (by simp; omega))).trans q3
        have C4 := Lib.hid (K4.out.blk C3.out (by omega))
        have R4 := Lib.hid ((K4.out.rown R3.out (Nat.le_refl _) (fun a e _ => by have := HLG.out a e; omega)).more K4.out.size)
        have B4 := Lib.hid (below_keep B3.out K4.out (by omega) (by omega))
        have y6 : ∀ e : ExtW w4, e.v.cell? ⟨lb, lo + k, none⟩ = some (.slice (PA k) n (pc k)) := fun e => e.cell q4 (World.block_lt_of_cell? _ _ q4)
        obtain ⟨SY, hSY⟩ : ∃ SY, SY = bytesOf n (z k) := ⟨_, rfl⟩
        have rs := fun (W : World) (A : Option Addr) (m c : Nat) (y : Nat → Int) (h : Row W W.heap.size A m (fun j => .int .u8 (y j))) => row_string 24 9 5 Try.underlying24 Try.underlying5 Try.underlying9 h c
        have s1 : ∀ e : ExtW w4, (convert 24 9 (.slice P n d2)).run Try.prog e.v = .ok (.string SY) e.v := fun e => by rw [hSY]; exact rs _ _ _ _ _ (RP.out.next e.h)
        have s2 : ∀ e : ExtW w4, (convert 24 9 (.slice (PA k) n (pc k))).run Try.prog e.v = .ok (.string SY) e.v := fun e => by rw [hSY]; exact rs _ _ _ _ _ (R4.out.next e.h)
        clear rs hSY q3 q4
        refine wp_region_ext (by kernel_rfl) (by kernel_rfl) ?_
        repeat (go_big_quiet_step (exact Calls.ext_of ((num44_ok _ _).mono fun e w' h => ⟨h.1, by rw [← h.2]; exact Below.refl _ _⟩)))
        refine wpQuiet_nil ?_
        rintro _ ⟨ex, rfl⟩
        go_wp2
        go_round
        case rel => exact ⟨k + 1, by omega, by go_num, _, _, E', Blk.below C4.out ex.h C4.out.lt, E4.out.below ex.h E4.out.lt, OKN.out, OE4.out, UBN.out, BK4.out, HTN.out, below_step B4.out ex.h⟩
        case measure => simp [intOf]; omega
    · obtain rfl : k = m := by omega
      go_wp2_with (go_at_call 13; refine (works44_true _).mono ?_; rintro e w9 ⟨rfl, hB9⟩)
      go_ret
      exact ⟨rfl, below_step BR.out hB9⟩
end Go.Proofs.Ytofaghpflmeblaa
