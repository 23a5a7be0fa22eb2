/- The walk of HandoverDecodes. -/
import Derived.Test.YtekgahigbeceeaaHV
namespace Go.Proofs.Ytekgahigbeceeaa
open Go.RowKit

theorem isRow_u8 {w : World} {a : Option Addr} {len cap : Nat} {zs : List Int} (h : IsRow .u8 w a len cap zs) : len ≤ cap ∧ ∀ j, j < len → 0 ≤ zs.getD j 0 ∧ zs.getD j 0 < 256 := by
  rcases h with ⟨_, h0, hc, _⟩ | ⟨x, _, hl, hm, hz, _, hw⟩
  · exact ⟨by omega, fun j hj => by omega⟩
  · refine ⟨hl, fun j hj => ?_⟩
    have hj2 : j < zs.length := by omega
    have h1 := hw (zs.getD j 0) (by simp [List.getD, hj2])
    have h2 := (by simpa [Lit.wf] using h1 : IntKind.u8.min ≤ zs.getD j 0 ∧ zs.getD j 0 ≤ IntKind.u8.max)
    rw [show IntKind.u8.min = 0 from rfl, show IntKind.u8.max = 255 from rfl] at h2
    omega
theorem isControl_pos (A : Option Addr) (n c : Nat) (z : Nat → Int) (w : World) (h0 : 0 < n) (hr : Row w w.heap.size A n (fun j => .int .u8 (z j))) :
    Calls Try.prog 17 #[.slice A n c] w fun e w' => e = .returned (.bool (decide (z 0 < 128))) ∧ Below w.heap.size w w' :=
  (isControl_ok A n c z w hr).mono fun _ _ h => ⟨by rw [h.1]; exact ret_bool (by simp [h0]), h.2⟩
theorem isControl_nil (A : Option Addr) (c : Nat) (w : World) :
    Calls Try.prog 17 #[.slice A 0 c] w fun e w' => e = .returned (.bool false) ∧ Below w.heap.size w w' :=
  (isControl_ok A 0 c (fun _ => 0) w Row.nil).mono fun _ _ h => ⟨by rw [h.1]; exact ret_bool (by simp), h.2⟩

set_option maxRecDepth 100000 in
set_option maxHeartbeats 1600000 in
theorem handoverDecodes_walk (A : Option Addr) (n c : Nat) (z : Nat → Int) (w : World) (hm : n ≤ maxLen) (hnc : n ≤ c) (hz : ∀ j, j < n → 0 ≤ z j ∧ z j < 256) (hr : Row w w.heap.size A n (fun j => .int .u8 (z j))) :
    Calls Try.prog 3 #[.slice A n c] w fun e w' => e = .returned (.bool true) ∧ Below w.heap.size w w' := by
  unfold maxLen at hm
  by_cases hbig : 600 < n
  · clear hr hz
    go_enter Try.func3, Try.ntmps3
    go_wp2_with (go_at_call 13; refine (known_true _).mono ?_; rintro e w9 ⟨rfl, h9⟩)
    go_ret
    exact ⟨rfl, h9⟩
  · have HR := Lib.hid hr
    have HZ := Lib.hid hz
    obtain ⟨i0, hi, hz0, hz1, hz2⟩ := info_parts Try.infoByte
    have hle : n ≤ 600 := by omega
    clear hr hz
    have dec : ∀ (W : World) (A1 : Option Addr) (c1 : Nat), n ≤ c1 → Row W W.heap.size A1 n (fun j => .int .u8 (z j)) → Calls Try.prog 14 #[.slice A1 n c1] W (DecPost n z W) := fun W A1 c1 h1 h2 => decode_any n c1 A1 z W (by omega) h1 HZ.out h2
    have dec2 : ∀ (W : World) (A1 : Option Addr) (c1 : Nat), n ≤ c1 → Row W W.heap.size A1 n (fun j => .int .u8 (z j)) → Calls Try.prog 15 #[.slice A1 n c1] W (DecPost n z W) := fun W A1 c1 h1 h2 => refDecode_any n c1 A1 z W (by unfold maxLen; omega) h1 HZ.out h2
    unfold DecPost at dec dec2
    have hdl : dlen n z ≤ maxLen := by
      unfold dlen slen nbits
      have := HM.last_le (HM.hb (pay (dz z))) (8 * (n - 1 - 4))
      unfold maxLen
      split
      · split <;> omega
      · omega
    obtain ⟨kd, hkd⟩ : ∃ x, x = dkind n z := ⟨_, rfl⟩
    obtain ⟨fs, hfs⟩ : ∃ x, x = dfirst n z := ⟨_, rfl⟩
    obtain ⟨dl, hdl'⟩ : ∃ x, x = dlen n z := ⟨_, rfl⟩
    obtain ⟨fe, hfe⟩ : ∃ x, x = dfeed n z := ⟨_, rfl⟩
    obtain ⟨er, her⟩ : ∃ x, x = derr n z := ⟨_, rfl⟩
    rw [← hkd, ← hfs, ← hdl', ← hfe, ← her] at dec dec2
    rw [← hdl'] at hdl
    have HD := Lib.hid dec
    have HD2 := Lib.hid dec2
    clear hkd hfs hdl' hfe her dec dec2
    by_cases hn0 : n = 0
    · subst hn0
      go_enter Try.func3, Try.ntmps3
      go_wp2_with (first
        | (at_builtin; refine wpList_append_src _ rfl _ _ 22 rfl w.heap.size 5 i0 (.int .u8 0) 1 Try.underlying22 hi hz0 hz1 hz2 rfl _ _ _ rfl (World.ownsRow_nil _ _ _ _) w.heap.size A 0 c (fun j => .int .u8 (z j)) rfl HR.out (fun _ => rfl) (by unfold maxLen; omega) (by omega) (Nat.le_refl _) ?_; intro v1 w1 hown1 hg1 hv1; rw [Nat.zero_add, List.nil_append] at hown1; obtain ⟨A1, c1, hv, hcap, _, _, r1⟩ := own_any (f := fun j => .int .u8 (z j)) hown1 (fun j hj => by omega); subst hv; have h1 : Below w.heap.size w w1 := (Below.refl w.heap.size w).grown hg1 (Nat.le_refl _) (fun k hk => by cases hk); have rA := HR.out.next h1)
        | (go_at_call 14; refine (HD.out _ _ _ hcap r1).mono ?_; rintro e w2 ⟨A2, c2, B2, d2, rfl, ra, rb, h2⟩; unfold ctl)
        | (go_at_call 15; refine (HD2.out _ _ _ hnc Row.nil).mono ?_; rintro e w3 ⟨A3, c3, B3, d3, rfl, ra3, rb3, h3⟩; unfold ctl; have q2 : Blk w3 w2.heap.size 28 #[.int .i64 kd, .int .u32 fs, .slice A2 dl c2, .slice B2 fe d2] := (Blk.new w2 _ _).below h3 (by simp); obtain ⟨c0, c1', c2', c3', _, _, _, _⟩ := q2.four; have hz3 := q2.lt)
        | (go_at_call 16; refine (Same_true kd fs A2 A3 B2 B3 dl fe c2 c3 d2 d3 _ _ _ hdl ((((ra.alloc (Nat.le_refl _) _).more (by simp)).next h3).alloc (Nat.le_refl _) _ |>.more (by simp)) ((ra3.alloc (Nat.le_refl _) _).more (by simp)) ((((rb.alloc (Nat.le_refl _) _).more (by simp)).next h3).alloc (Nat.le_refl _) _ |>.more (by simp)) ((rb3.alloc (Nat.le_refl _) _).more (by simp))).mono ?_; rintro e w4 ⟨rfl, h4⟩)
        | (go_at_call 17; refine (isControl_nil _ _ _).mono ?_; rintro e w5 ⟨rfl, h5⟩)
        | (go_at_call 13; refine (known_true _).mono ?_; rintro e w9 ⟨rfl, h9⟩))
      go_ret
      exact ⟨ret_bool (by simp), below_step (below_step (below_step (below_new (below_step (below_new (below_step h1 h2) _) h3) _) h4) h5) h9⟩
    · have hpos : 0 < n := by omega
      have hposi : (0 : Int) < (n : Int) := by omega
      obtain ⟨lb, lo, rfl, hlb, _⟩ := HR.out hpos
      go_enter Try.func3, Try.ntmps3
      go_wp2_with (first
        | (at_builtin; refine wpList_append_src _ rfl _ _ 22 rfl w.heap.size 5 i0 (.int .u8 0) 1 Try.underlying22 hi hz0 hz1 hz2 rfl _ _ _ rfl (World.ownsRow_nil _ _ _ _) w.heap.size (some ⟨lb, lo, none⟩) n c (fun j => .int .u8 (z j)) rfl HR.out (fun _ => rfl) (by unfold maxLen; omega) (by omega) (Nat.le_refl _) ?_; intro v1 w1 hown1 hg1 hv1; rw [Nat.zero_add, List.nil_append] at hown1; obtain ⟨A1, c1, hv, hcap, _, _, r1⟩ := own_any (f := fun j => .int .u8 (z j)) hown1 (fun j hj => by simp [hj]); subst hv; have h1 : Below w.heap.size w w1 := (Below.refl w.heap.size w).grown hg1 (Nat.le_refl _) (fun k hk => by cases hk); have rA := HR.out.next h1)
        | (go_at_call 14; refine (HD.out _ _ _ hcap r1).mono ?_; rintro e w2 ⟨A2, c2, B2, d2, rfl, ra, rb, h2⟩; unfold ctl)
        | (go_at_call 15; refine (HD2.out _ _ _ hnc (((rA.next h2).alloc (Nat.le_refl _) _).more (by simp))).mono ?_; rintro e w3 ⟨A3, c3, B3, d3, rfl, ra3, rb3, h3⟩; unfold ctl; have q2 : Blk w3 w2.heap.size 28 #[.int .i64 kd, .int .u32 fs, .slice A2 dl c2, .slice B2 fe d2] := (Blk.new w2 _ _).below h3 (by simp); obtain ⟨c0, c1', c2', c3', _, _, _, _⟩ := q2.four; have hz3 := q2.lt)
        | (go_at_call 16; refine (Same_true kd fs A2 A3 B2 B3 dl fe c2 c3 d2 d3 _ _ _ hdl ((((ra.alloc (Nat.le_refl _) _).more (by simp)).next h3).alloc (Nat.le_refl _) _ |>.more (by simp)) ((ra3.alloc (Nat.le_refl _) _).more (by simp)) ((((rb.alloc (Nat.le_refl _) _).more (by simp)).next h3).alloc (Nat.le_refl _) _ |>.more (by simp)) ((rb3.alloc (Nat.le_refl _) _).more (by simp))).mono ?_; rintro e w4 ⟨rfl, h4⟩; have rA4 := (((((rA.next h2).alloc (Nat.le_refl _) _).more (by simp)).next h3).alloc (Nat.le_refl _) _ |>.more (by simp)).next h4)
        | (go_at_call 17; refine (isControl_pos _ _ _ z _ hpos rA4).mono ?_; rintro e w5 ⟨rfl, h5⟩; obtain ⟨_, _, e5, _, hc5⟩ := (rA4.next h5) hpos; cases e5; have hl5 : w5.cell? ⟨lb, lo, none⟩ = some (.int .u8 (z 0)) := hc5 0 hpos)
        | (go_at_call 13; refine (known_true _).mono ?_; rintro e w9 ⟨rfl, h9⟩))
      go_ret
      exact ⟨ret_bool (by simp), below_step (below_step (below_step (below_new (below_step (below_new (below_step h1 h2) _) h3) _) h4) h5) h9⟩
end Go.Proofs.Ytekgahigbeceeaa
