/- The walk of HandoverBack. -/
import Derived.Test.YtekgahigbeceeaaHC
import Derived.Deep.QuietTactic
import Derived.BigQuiet
namespace Go.Proofs.Ytekgahigbeceeaa
open Go.RowKit

theorem dec_of_enc (f n : Nat) (b : Nat → Bool) (A : Option Addr) (c : Nat) (w : World) (hf : f < 4294967296) (hn : n ≤ 2047) (hc : 5 + (HM.last b n + 7) / 8 ≤ c) (hr : Row w w.heap.size A (5 + (HM.last b n + 7) / 8) (fun j => .int .u8 (eb f b n j))) :
    Calls Try.prog 14 #[.slice A (5 + (HM.last b n + 7) / 8) c] w fun e w' => ∃ A c B d, e = .returned (.tuple #[.agg #[.int .i64 0, .int .u32 (f : Int), .slice A (HM.last b n) c, .slice B 0 d], .int .i64 0]) ∧ Row w' w'.heap.size A (HM.last b n) (fun j => .bool (b j)) ∧ Below w.heap.size w w' := by
  obtain ⟨k1, k2, k3, k4, k5⟩ := enc_dec f b n hf hn
  have hl := HM.last_le b n
  refine (decode_any _ c A (eb f b n) w (by omega) hc (fun j _ => eb_bytes f b n j) hr).mono ?_
  rintro e w' ⟨A, c, B, d, rfl, hR, _, hb⟩
  rw [k1, k2, k3, k4, k5]
  rw [k4] at hR
  refine ⟨A, c, B, d, rfl, hR.congr fun j hj => ?_, hb⟩
  rw [eb_hb]
  have : j < n := by omega
  simp [this]

theorem row_new {w : World} {A : Option Addr} {n : Nat} {v : Nat → Value} (h : Row w w.heap.size A n v) (o : Obj) : Row (w.alloc o) (w.alloc o).heap.size A n v := (h.alloc (Nat.le_refl _) o).more (by simp)
theorem dec_of_fb (m : Nat) (z : Nat → Int) (A : Option Addr) (c : Nat) (w : World) (h0 : 0 < m) (hm : m ≤ 600) (hc : m + 1 ≤ c) (hz : ∀ j, j < m → 0 ≤ z j ∧ z j < 256) (hr : Row w w.heap.size A (m + 1) (fun j => .int .u8 (fb z j))) :
    Calls Try.prog 14 #[.slice A (m + 1) c] w fun e w' => ∃ A c B d, e = .returned (.tuple #[.agg #[.int .i64 1, .int .u32 0, .slice A 0 c, .slice B m d], .int .i64 0]) ∧ Row w' w'.heap.size B m (fun j => .int .u8 (z j)) ∧ Below w.heap.size w w' := by
  obtain ⟨k1, k2, k3, k4, k5⟩ := fb_dec m z h0
  refine (decode_any (m + 1) c A (fb z) w (by omega) hc (fb_bytes m z hz) hr).mono ?_
  rintro e w' ⟨A, c, B, d, rfl, _, hR, hb⟩
  rw [k1, k2, k3, k4, k5]
  rw [k5] at hR
  exact ⟨A, c, B, d, rfl, hR.congr fun j hj => by rw [fb_dz], hb⟩
theorem enc_of_dec (m : Nat) (z : Nat → Int) (A : Option Addr) (c : Nat) (w : World) (F : Nat) (hF : dfirst m z = (F : Int)) (hz : ∀ j, j < m → 0 ≤ z j ∧ z j < 256) (hd : derr m z = 0) (hk : dkind m z = 0) (hr : Row w w.heap.size A (dlen m z) (fun j => .bool (HM.hb (pay (dz z)) j))) :
    Calls Try.prog 18 #[.int .u64 (F : Int), .slice A (dlen m z) c] w fun e w' => ∃ B d, e = .returned (.tuple #[.slice B m d, .int .i64 0]) ∧ Row w' w'.heap.size B m (fun j => .int .u8 (z j)) ∧ Below w.heap.size w w' := by
  obtain ⟨k1, k2, k3, k4, k5⟩ := dec_enc m z hz hd hk
  rw [hF] at k2 k5
  refine (enc_cap F (dlen m z) c A _ w (by omega) k3 hr).mono ?_
  rintro e w' ⟨g, cap, rfl, _, hR, hb⟩
  rw [k4] at hR ⊢
  exact ⟨_, _, rfl, hR.congr fun j hj => by rw [← k5 j hj, Int.toNat_natCast], hb⟩

set_option maxRecDepth 100000 in
set_option maxHeartbeats 3200000 in
theorem handoverBack_walk (f : Nat) (AL : Option Addr) (n c : Nat) (b : Nat → Bool) (A : Option Addr) (m d : Nat) (z : Nat → Int) (w : World) (hf : f < 4294967296) (hn : n ≤ maxLen) (hm : m ≤ maxLen) (hmd : m ≤ d) (hz : ∀ j, j < m → 0 ≤ z j ∧ z j < 256)
    (hl : Row w w.heap.size AL n (fun j => .bool (b j))) (hr : Row w w.heap.size A m (fun j => .int .u8 (z j))) :
    Calls Try.prog 5 #[.int .u32 (f : Int), .slice AL n c, .slice A m d] w fun e w' => e = .returned (.bool true) ∧ Below w.heap.size w w' := by
  unfold maxLen at hn hm
  by_cases hb1 : 2047 < n
  · have hb1' : (2047 : Int) < (n : Int) := by omega
    clear hl hr hz
    go_enter Try.func5, Try.ntmps5
    go_wp2_with (go_at_call 13; refine (known_true _).mono ?_; rintro e w9 ⟨rfl, h9⟩)
    go_ret
    exact ⟨rfl, h9⟩
  · have hb1' : (n : Int) ≤ 2047 := by omega
    by_cases hb2 : 600 < m
    · have hb2' : (600 : Int) < (m : Int) := by omega
      clear hl hr hz
      go_enter Try.func5, Try.ntmps5
      go_wp2_with (go_at_call 13; refine (known_true _).mono ?_; rintro e w9 ⟨rfl, h9⟩)
      go_ret
      exact ⟨rfl, h9⟩
    · have hb2' : (m : Int) ≤ 600 := by omega
      have HL := Lib.hid hl
      have HR := Lib.hid hr
      have HZ := Lib.hid hz
      have HLL := Lib.hid (HM.last_le b n)
      have HE := Lib.hid (enc_cap f n c AL b w hf (by omega) hl)
      unfold EncPostC at HE
      have HD := Lib.hid (fun (A1 : Option Addr) (c1 : Nat) (W : World) => dec_of_enc f n b A1 c1 W hf (by omega))
      obtain ⟨e1, he1⟩ : ∃ x, x = 5 + (HM.last b n + 7) / 8 := ⟨_, rfl⟩
      obtain ⟨L, hL⟩ : ∃ x, x = HM.last b n := ⟨_, rfl⟩
      rw [← he1] at HE HD
      rw [← hL] at HLL HD
      have HLe := Lib.hid hL
      have hLn : (L : Int) ≤ (n : Int) := by have := HLL.out; omega
      clear hl hr hz he1 hL
      go_enter Try.func5, Try.ntmps5
      go_wp2_with (first
        | (go_at_call 18; refine (HE.out).mono ?_; rintro e w1 ⟨g1, c1, rfl, hc1, r1, h1⟩; have HC1 := Lib.hid hc1; clear hc1)
        | (go_at_call 14; refine (HD.out _ _ _ HC1.out r1).mono ?_; rintro e w2 ⟨A2, c2, B2, d2, rfl, r2, h2⟩))
      obtain ⟨W3, hW3⟩ : ∃ W3, W3 = w2.alloc (.cells #[.int .i64 0, .int .u32 (f : Int), .slice A2 L c2, .slice B2 0 d2] 28) := ⟨_, rfl⟩
      have hb3 : Below w.heap.size w W3 := by rw [hW3]; exact below_new (below_step h1 h2) _
      have hB3 : Blk W3 w2.heap.size 28 #[.int .i64 0, .int .u32 (f : Int), .slice A2 L c2, .slice B2 0 d2] := by rw [hW3]; exact Blk.new _ _ _
      have r3 : Row W3 W3.heap.size A2 L (fun j => .bool (b j)) := by rw [hW3]; exact (r2.alloc (Nat.le_refl _) _).more (by simp)
      have rl3 := HL.out.next hb3
      have rA3 := HR.out.next hb3
      rw [← hW3]
      have cB3 : W3.cell? ⟨w2.heap.size, 2, none⟩ = some (.slice A2 L c2) := hB3.cell 2
      have HW := Lib.hid (And.intro hW3 (And.intro hb3 (And.intro hB3 (And.intro r3 (And.intro rl3 rA3)))))
      clear hW3 hb3 hB3 r3 rl3 rA3 r1 r2 h1 h2
      go_loopw [11] (fun v wr => ∃ i : Nat, i ≤ n ∧ v = .int .i64 i ∧ ∃ dr, wr = W3.drewN dr) (fun v _ => n - (intOf v).toNat)
      case atStart => exact ⟨0, Nat.zero_le _, rfl, 0, rfl⟩
      case round =>
        obtain ⟨i, hi, rfl, dr, rfl⟩ := hrel
        by_cases hlt : i < n
        · obtain ⟨lb, lo, rfl, hlb, hlc⟩ := HW.out.2.2.2.2.1 (by omega)
          have hci : W3.cell? ⟨lb, lo + i, none⟩ = some (.bool (b i)) := hlc i hlt
          have g1 : (0 : Int) ≤ (i : Int) := by omega
          have g2 : (i : Int) < (n : Int) := by omega
          clear hlc
          by_cases hiL : i < L
          · obtain ⟨rb, ro, rfl, hrb, hrc⟩ := HW.out.2.2.2.1 (by omega)
            have hcr : W3.cell? ⟨rb, ro + i, none⟩ = some (.bool (b i)) := hrc i hiL
            have g3 : (i : Int) < (L : Int) := by omega
            have e0 : (b i != b i) = false := by simp
            clear hrc
            go_wp2
            go_quiet (fail)
            go_wp2
            go_roundw
            case rel => exact ⟨i + 1, by omega, by go_num, _, rfl⟩
            case measure => simp [intOf]; omega
          · have hbf : b i = false := HM.last_above b n i (by have := HLe.out; omega) hlt
            rw [hbf] at hci
            have g3 : decide ((i : Int) < (L : Int)) = false := by simp; omega
            have g4 : (L : Int) ≤ (i : Int) := by omega
            clear hbf
            go_wp2
            go_quiet (fail)
            go_wp2
            go_roundw
            case rel => exact ⟨i + 1, by omega, by go_num, _, rfl⟩
            case measure => simp [intOf]; omega
        · obtain rfl : i = n := by omega
          obtain ⟨_, hb3, _, _, _, rA3⟩ := HW.out
          obtain ⟨W4, hW4⟩ : ∃ W4, W4 = W3.drewN dr := ⟨_, rfl⟩
          have hb4 : Below w.heap.size w W4 := by rw [hW4]; exact below_drewN hb3 _
          have rA4 : Row W4 W4.heap.size A m (fun j => .int .u8 (z j)) := by rw [hW4]; exact rA3
          rw [← hW4]
          have HDb := Lib.hid (decode_any m d A z W4 (by omega) hmd HZ.out rA4)
          unfold DecPost at HDb
          clear hW4 rA3 hb3
          by_cases hm0 : m = 0
          · subst hm0
            have k1 : derr 0 z = 5 := by simp [derr]
            rw [k1] at HDb
            clear k1
            go_wp2_with (first
              | (go_at_call 14; ((with_reducible refine (HDb.out).mono ?_); rintro e w5 ⟨A5, c5, B5, d5, rfl, r5, rb5, h5⟩; unfold ctl))
              | (go_at_call 13; refine (known_true _).mono ?_; rintro e w9 ⟨rfl, h9⟩))
            go_ret
            exact ⟨rfl, below_step (below_new (below_step hb4 h5) _) h9⟩
          · have hpos : 0 < m := by omega
            have hmi : ((m : Int) == 0) = false := by simp; omega
            by_cases hP : derr m z = 0 ∧ dkind m z = 0
            · obtain ⟨p1, p2⟩ := hP
              obtain ⟨F, hF⟩ : ∃ F : Nat, dfirst m z = (F : Int) := ⟨(dfirst m z).toNat, by have := (dec_enc m z HZ.out p1 p2).1; omega⟩
              have hF2 : F < 4294967296 := by have := (dec_enc m z HZ.out p1 p2).2.1; omega
              have HEn := Lib.hid (fun A1 c1 W => enc_of_dec m z A1 c1 W F hF HZ.out p1 p2)
              rw [p1, p2, hF] at HDb
              obtain ⟨dl, hdl⟩ : ∃ x, x = dlen m z := ⟨_, rfl⟩
              rw [← hdl] at HDb HEn
              clear p1 p2 hF hdl
              go_wp2_with (first
                | (go_at_call 14; ((with_reducible refine (HDb.out).mono ?_); rintro e w5 ⟨A5, c5, B5, d5, rfl, r5, rb5, h5⟩; unfold ctl; have rA5 := row_new (rA4.next h5) (.cells #[.int .i64 0, .int .u32 (F : Int), .slice A5 dl c5, .slice B5 (dfeed m z) d5] 28); have r5a := row_new r5 (.cells #[.int .i64 0, .int .u32 (F : Int), .slice A5 dl c5, .slice B5 (dfeed m z) d5] 28); have h5a := below_new (below_step hb4 h5) (.cells #[.int .i64 0, .int .u32 (F : Int), .slice A5 dl c5, .slice B5 (dfeed m z) d5] 28)))
                | (go_at_call 18; refine (HEn.out _ _ _ r5a).mono ?_; rintro e w6 ⟨A6, c6, rfl, r6, h6⟩; have s1 := row_string 22 9 5 Try.underlying22 Try.underlying5 Try.underlying9 r6 c6; have s2 := row_string 22 9 5 Try.underlying22 Try.underlying5 Try.underlying9 (rA5.next h6) d)
                | (go_at_call 13; refine (known_true _).mono ?_; rintro e w9 ⟨rfl, h9⟩))
              go_ret
              exact ⟨ret_bool (by simp), below_step (below_step h5a h6) h9⟩
            · have hP2 : derr m z = 0 → dkind m z ≠ 0 := fun h1 h2 => hP ⟨h1, h2⟩
              obtain ⟨er, her⟩ : ∃ x, x = derr m z := ⟨_, rfl⟩
              obtain ⟨kd, hkd⟩ : ∃ x, x = dkind m z := ⟨_, rfl⟩
              rw [← her, ← hkd] at HDb hP2
              have HP2 := Lib.hid hP2
              have HF := Lib.hid (fun (A1 : Option Addr) (c1 : Nat) (W : World) => dec_of_fb m z A1 c1 W hpos (by omega))
              clear hP hP2 her hkd
              by_cases her0 : er = 0
              · have hk0 : (kd == 0) = false := by simpa using HP2.out her0
                subst her0
                go_wp2_with (first
                  | (go_at_call 14; ((with_reducible refine (HDb.out).mono ?_); rintro e w5 ⟨A5, c5, B5, d5, rfl, r5, rb5, h5⟩; unfold ctl; have rA5 := row_new (rA4.next h5) (.cells #[.int .i64 kd, .int .u32 (dfirst m z), .slice A5 (dlen m z) c5, .slice B5 (dfeed m z) d5] 28); have h5a := below_new (below_step hb4 h5) (.cells #[.int .i64 kd, .int .u32 (dfirst m z), .slice A5 (dlen m z) c5, .slice B5 (dfeed m z) d5] 28)))
                  | (go_at_call 20; refine (feed_cap A m d z _ hpos (by omega) rA5).mono ?_; rintro e w6 ⟨A6, c6, rfl, hc6, r6, h6⟩; have HC6 := Lib.hid hc6; clear hc6)
                  | (go_at_call 14; ((with_reducible refine (HF.out _ _ _ HC6.out HZ.out r6).mono ?_); rintro e w7 ⟨A7, c7, B7, d7, rfl, r7, h7⟩))
                  | (go_at_call 16; refine (Same_true 1 0 A7 none B7 A 0 m c7 0 d7 d (fun _ => false) z _ (by decide) Row.nil Row.nil ((r7.alloc (Nat.le_refl _) _).more (by simp)) ((((rA5.next h6).next h7).alloc (Nat.le_refl _) _).more (by simp))).mono ?_; rintro e w8 ⟨rfl, h8⟩)
                  | (go_at_call 13; refine (known_true _).mono ?_; rintro e w9 ⟨rfl, h9⟩))
                go_ret
                exact ⟨ret_bool (by simp), below_step (below_step (below_new (below_step (below_step h5a h6) h7) _) h8) h9⟩
              · have he0 : (er == 0) = false := by simpa using her0
                go_wp2_with (first
                  | (go_at_call 14; ((with_reducible refine (HDb.out).mono ?_); rintro e w5 ⟨A5, c5, B5, d5, rfl, r5, rb5, h5⟩; unfold ctl; have rA5 := row_new (rA4.next h5) (.cells #[.int .i64 kd, .int .u32 (dfirst m z), .slice A5 (dlen m z) c5, .slice B5 (dfeed m z) d5] 28); have h5a := below_new (below_step hb4 h5) (.cells #[.int .i64 kd, .int .u32 (dfirst m z), .slice A5 (dlen m z) c5, .slice B5 (dfeed m z) d5] 28)))
                  | (go_at_call 20; refine (feed_cap A m d z _ hpos (by omega) rA5).mono ?_; rintro e w6 ⟨A6, c6, rfl, hc6, r6, h6⟩; have HC6 := Lib.hid hc6; clear hc6)
                  | (go_at_call 14; ((with_reducible refine (HF.out _ _ _ HC6.out HZ.out r6).mono ?_); rintro e w7 ⟨A7, c7, B7, d7, rfl, r7, h7⟩))
                  | (go_at_call 16; refine (Same_true 1 0 A7 none B7 A 0 m c7 0 d7 d (fun _ => false) z _ (by decide) Row.nil Row.nil ((r7.alloc (Nat.le_refl _) _).more (by simp)) ((((rA5.next h6).next h7).alloc (Nat.le_refl _) _).more (by simp))).mono ?_; rintro e w8 ⟨rfl, h8⟩)
                  | (go_at_call 13; refine (known_true _).mono ?_; rintro e w9 ⟨rfl, h9⟩))
                go_ret
                exact ⟨ret_bool (by simp), below_step (below_step (below_new (below_step (below_step h5a h6) h7) _) h8) h9⟩

theorem handoverBack_int (f : Int) (hf : (Lit.int .u32 f).wf = true) (AL : Option Addr) (n c : Nat) (b : Nat → Bool) (A : Option Addr) (m d : Nat) (z : Nat → Int) (w : World) (hn : n ≤ maxLen) (hm : m ≤ maxLen) (hmd : m ≤ d) (hz : ∀ j, j < m → 0 ≤ z j ∧ z j < 256)
    (hl : Row w w.heap.size AL n (fun j => .bool (b j))) (hr : Row w w.heap.size A m (fun j => .int .u8 (z j))) :
    Calls Try.prog 5 #[.int .u32 f, .slice AL n c, .slice A m d] w fun e w' => e = .returned (.bool true) ∧ Below w.heap.size w w' := by
  obtain ⟨h1, h2⟩ := wf_u32_in hf
  have := handoverBack_walk f.toNat AL n c b A m d z w (by omega) hn hm hmd hz hl hr
  rwa [Int.toNat_of_nonneg h1] at this
end Go.Proofs.Ytekgahigbeceeaa
