/- The walk of HeaderBounds. -/
import Derived.Test.YtejadoadpgcpjaaFB
namespace Go.Proofs.Ytejadoadpgcpjaa
open Go.RowKit

theorem anyWrong_of (h : Nat → Int) (hw : ∀ k, k < 10 → 0 ≤ hval h k ∧ hval h k < 2 ^ pwd k) : anyWrong h = false := by
  have hf : firstWrong h 0 10 = -1 := firstWrong_none _ 10 0 fun j _ hj => by
    obtain ⟨h0, h1⟩ := hw j (by omega)
    obtain ⟨x, hx⟩ : ∃ x : Nat, hval h j = (x : Int) := ⟨(hval h j).toNat, by omega⟩
    rw [hx]
    refine wrongB_nat _ _ ?_
    have h2 : (((2 ^ pwd j : Nat)) : Int) = 2 ^ pwd j := by simp
    omega
  unfold anyWrong
  rw [hf]; decide
theorem validB_wrong (h : Nat → Int) (hv : validB h = true) : anyWrong h = false := by
  unfold validB at hv
  simp at hv
  exact hv.1.1
theorem anyWrong_len (h : Nat → Int) (a b : Int) (hv : anyWrong (withLen h a) = false) (h0 : 0 ≤ b) (h1 : b < 65536) : anyWrong (withLen h b) = false := by
  refine anyWrong_of _ fun k hk => ?_
  have := anyWrong_false _ hv k hk
  by_cases h9 : k = 9
  · subst h9
    exact ⟨h0, h1⟩
  · have e : hval (withLen h b) k = hval (withLen h a) k := by
      unfold hval withLen
      split
      · rfl
      · rw [if_neg (by omega), if_neg (by omega)]
    rw [e]; exact this
theorem validB_len (h : Nat → Int) (a b : Int) (hv : anyWrong (withLen h a) = false) (h0 : 20 ≤ b) (h1 : b ≤ 9000) : validB (withLen h b) = true := by
  have := anyWrong_len h a b hv (by omega) (by omega)
  unfold validB
  rw [this]
  show (!false && decide (20 ≤ b) && decide (b ≤ 9000)) = true
  simp; omega
theorem validB_long (h : Nat → Int) (b : Int) (h1 : 9000 < b) : validB (withLen h b) = false := by
  unfold validB
  show (_ && decide (b ≤ 9000)) = false
  simp; omega
theorem withLen_twice (h : Nat → Int) (a b : Int) : withLen (withLen h a) b = withLen h b := by
  funext k; unfold withLen; split <;> rfl
/-- a built packet is accepted -/
theorem pErr_pkt (h z : Nat → Int) (n : Nat) (hn : 20 ≤ n) (hm : n ≤ 9000) (hw : anyWrong (withLen h n) = false) : pErr n (pktAt (withLen h n) z) = 0 := by
  have f0 := field_back (withLen h n) z hw 0 (by decide)
  have f9 := field_back (withLen h n) z hw 9 (by decide)
  have e0 : hval (withLen h n) 0 = 5 := rfl
  have e9 : hval (withLen h n) 9 = n := rfl
  unfold pErr
  rw [if_neg (by omega), if_neg (by omega), if_pos ⟨by omega, by omega⟩]
theorem pHdr_pkt (h z : Nat → Int) (n : Nat) (hn : 20 ≤ n) (hm : n ≤ 9000) (hw : anyWrong (withLen h n) = false) : hdr (pHdr n (pktAt (withLen h n) z)) = hdr (withLen h n) :=
  (pHdr_good _ _ (pErr_pkt h z n hn hm hw)).trans (gpart_hdr _ _ hw)
theorem own_below {w w' : World} {base e n : Nat} {v : Value} {xs : List Value} (h : w.ownsRow base e 1 v n xs) (hb : Below w.heap.size w w') : w'.ownsRow base e 1 v n xs :=
  h.kept (grownBy_of hb) (by
    rcases v.ownBlock with _ | k
    · exact .inl rfl
    · exact .inr (by simp))
theorem own_alloc {w : World} {base e n : Nat} {v : Value} {xs : List Value} (h : w.ownsRow base e 1 v n xs) (o : Obj) : (w.alloc o).ownsRow base e 1 v n xs := h.alloc o
theorem made_zero (W : World) (n : Nat) : Row (W.alloc (.cells (madeCells #[.int .u8 0] n) 5)) (W.alloc (.cells (madeCells #[.int .u8 0] n) 5)).heap.size (some ⟨W.heap.size, 0, none⟩) n (fun _ => .int .u8 0) :=
  rowIs_row (World.rowIs_made W (.int .u8 0) n 5) (by simp) (fun _ _ => rfl)

theorem bb_good (h : Nat → Int) (hw : anyWrong (withLen h 20) = false) (W : World) (N : Nat) (hr : Row W W.heap.size (some ⟨N, 0, none⟩) 8980 (fun _ => .int .u8 0)) :
    Calls Try.prog 19 #[.agg #[.int .i64 (h 0), .int .i64 (h 1), .int .i64 (h 2), .int .i64 (h 3), .int .i64 (h 4), .int .i64 (h 5), .int .i64 (h 6), .int .i64 (h 7), .int .i64 20], .slice (some ⟨N, 0, none⟩) 8980 8980] W fun e w' =>
      ∃ A c, e = .returned (.tuple #[.slice A 9000 c, .int .i64 0]) ∧ 9000 ≤ c ∧ w'.ownsRow W.heap.size 5 1 (.slice A 9000 c) 9000 ((List.range 9000).map (fun j => .int .u8 (pktAt (withLen h 9000) (fun _ => 0) j))) ∧ Below W.heap.size W w' := by
  have hv : validB (withLen (withLen h 20) (20 + (8980 : Nat))) = true := by
    rw [withLen_twice]; exact validB_len h 20 9000 hw (by decide) (by decide)
  refine (build_good (withLen h 20) (some ⟨N, 0, none⟩) 8980 8980 (fun _ => 0) (by decide) hv _ hr).mono ?_
  rintro e w' ⟨A, c, rfl, hc, ho, hb⟩
  rw [withLen_twice] at ho
  exact ⟨A, c, rfl, hc, ho, hb⟩
theorem bb_bad (h : Nat → Int) (W : World) (N : Nat) :
    Calls Try.prog 19 #[.agg #[.int .i64 (h 0), .int .i64 (h 1), .int .i64 (h 2), .int .i64 (h 3), .int .i64 (h 4), .int .i64 (h 5), .int .i64 (h 6), .int .i64 (h 7), .int .i64 20], .slice (some ⟨N, 0, none⟩) 8981 8981] W fun e w' =>
      e = .returned (.tuple #[.slice none 0 0, .int .i64 2]) ∧ Below W.heap.size W w' :=
  build_bad (withLen h 20) (some ⟨N, 0, none⟩) 8981 8981 (by decide) (by rw [withLen_twice]; exact validB_long h _ (by decide)) W
theorem bp_good (h : Nat → Int) (hw : anyWrong (withLen h 20) = false) (W : World) (A : Option Addr) (c : Nat) (hc : 9000 ≤ c) (hr : Row W W.heap.size A 9000 (fun j => .int .u8 (pktAt (withLen h 9000) (fun _ => 0) j))) :
    Calls Try.prog 16 #[.slice A 9000 c] W fun e w' =>
      ∃ P c2, e = .returned (.tuple #[.agg #[.int .i64 (h 0), .int .i64 (h 1), .int .i64 (h 2), .int .i64 (h 3), .int .i64 (h 4), .int .i64 (h 5), .int .i64 (h 6), .int .i64 (h 7), .int .i64 9000], .slice P 8980 c2, .int .i64 0]) ∧ Below W.heap.size W w' := by
  have hw9 : anyWrong (withLen h (9000 : Nat)) = false := anyWrong_len h 20 9000 hw (by decide) (by decide)
  have hb : ∀ j, j < 9000 → 0 ≤ pktAt (withLen h 9000) (fun _ => 0) j ∧ pktAt (withLen h 9000) (fun _ => 0) j < 256 := fun j hj =>
    pkt_byte (withLen h 9000) (fun _ => 0) 8980 (fun _ _ => ⟨by decide, by decide⟩) j (by omega)
  refine (parse_any A 9000 c _ hc hb W hr).mono ?_
  rintro e w' ⟨P, c2, rfl, _, _, hb2⟩
  have e0 := pErr_pkt h (fun _ => 0) 9000 (by decide) (by decide) hw9
  have e1 : pLen 9000 (pktAt (withLen h (9000 : Nat)) (fun _ => 0)) = 8980 := if_pos e0
  have e2 := pHdr_pkt h (fun _ => 0) 9000 (by decide) (by decide) hw9
  refine ⟨P, c2, ?_, hb2⟩
  change Ending.returned (.tuple #[.agg (hdr (pHdr 9000 (pktAt (withLen h (9000 : Nat)) (fun _ => 0)))), .slice P (pLen 9000 (pktAt (withLen h (9000 : Nat)) (fun _ => 0))) c2, .int .i64 (pErr 9000 (pktAt (withLen h (9000 : Nat)) (fun _ => 0)))]) = _
  rw [e0, e1, e2]
  rfl

set_option maxRecDepth 100000 in
set_option maxHeartbeats 3200000 in
theorem bounds_walk (h : Nat → Int) (past : Bool) (w : World) :
    Calls Try.prog 6 #[.agg (hdr h), .bool past] w fun e w' => e = .returned (.bool true) ∧ Below w.heap.size w w' := by
  have HK := Lib.hid (Blk.new w 25 #[.int .i64 (h 0), .int .i64 (h 1), .int .i64 (h 2), .int .i64 (h 3), .int .i64 (h 4), .int .i64 (h 5), .int .i64 (h 6), .int .i64 (h 7), .int .i64 20])
  have HRV := Lib.hid (fun W => rvalid_ok (withLen h 20) W)
  have h1 : Hid (∀ W : World, Calls Try.prog 23 #[.agg #[.int .i64 (h 0), .int .i64 (h 1), .int .i64 (h 2), .int .i64 (h 3), .int .i64 (h 4), .int .i64 (h 5), .int .i64 (h 6), .int .i64 (h 7), .int .i64 20]] W fun e w' => e = .returned (.bool (validB (withLen h 20))) ∧ Below W.heap.size W w') := Lib.hid fun W => rvalid_ok (withLen h 20) W
  clear HRV
  have hmk : ∀ W : World, (Instr.makeSlice 22 (.int .i64 8980) (.int .i64 8980)).run Try.prog W = .ok (.slice (some ⟨W.heap.size, 0, none⟩) 8980 8980) (W.alloc (.cells (madeCells #[.int .u8 0] 8980) 5)) := fun W => make_bytes 8980 (by decide) W
  have hmk2 : ∀ W : World, (Instr.makeSlice 22 (.int .i64 8981) (.int .i64 8981)).run Try.prog W = .ok (.slice (some ⟨W.heap.size, 0, none⟩) 8981 8981) (W.alloc (.cells (madeCells #[.int .u8 0] 8981) 5)) := fun W => make_bytes 8981 (by decide) W
  obtain ⟨i0, hi, hz0, hz1, hz2⟩ := info_parts Try.infoByte
  unfold hdr
  by_cases hv : validB (withLen h 20) = true
  · have hw := validB_wrong _ hv
    rw [hv] at h1
    have HBG := Lib.hid (fun W N hr => bb_good h hw W N hr)
    have HBB := Lib.hid (fun W N => bb_bad h W N)
    have HPG := Lib.hid (fun W A c hc hr => bp_good h hw W A c hc hr)
    obtain ⟨Y, hY⟩ : ∃ Y : Nat → Int, Y = pktAt (withLen h 9000) (fun _ => 0) := ⟨_, rfl⟩
    rw [← hY] at HBG HPG
    clear hY hw hv
    go_enter Try.func6, Try.ntmps6
    go_wp2_with (go_at_call 23; refine (h1.out _).mono ?_; rintro e w1 ⟨rfl, b1⟩; have HB1 := Lib.hid (((Below.refl _ w).alloc (Nat.le_refl _) _).trans (b1.mono (by simp)) : Below w.heap.size w w1); have HK1 := Lib.hid (HK.out.below b1 (by simp)); clear b1; obtain ⟨qa0, qa1, qa2, qa3, qa4, qa5, qa6, qa7, qa8⟩ := HK1.out.nine)
    go_region_held3 (fun w' => w'.cell? ⟨w.heap.size, 0, none⟩ = some (.int .i64 (h 0)) ∧ w'.cell? ⟨w.heap.size, 1, none⟩ = some (.int .i64 (h 1)) ∧ w'.cell? ⟨w.heap.size, 2, none⟩ = some (.int .i64 (h 2)) ∧ w'.cell? ⟨w.heap.size, 3, none⟩ = some (.int .i64 (h 3)) ∧ w'.cell? ⟨w.heap.size, 4, none⟩ = some (.int .i64 (h 4)) ∧ w'.cell? ⟨w.heap.size, 5, none⟩ = some (.int .i64 (h 5)) ∧ w'.cell? ⟨w.heap.size, 6, none⟩ = some (.int .i64 (h 6)) ∧ w'.cell? ⟨w.heap.size, 7, none⟩ = some (.int .i64 (h 7)) ∧ w'.cell? ⟨w.heap.size, 8, none⟩ = some (.int .i64 20)) (go_keep) ((go_at_call 19; refine (HBG.out _ _ (made_zero w1 8980).drew).mono ?_; rintro e w2 ⟨A, c, rfl, hc, ho2, b2⟩; have HC := Lib.hid hc; have HO2 := Lib.hid ho2; have HB2 := Lib.hid (below_step (below_new HB1.out (.cells (madeCells #[.int .u8 0] 8980) 5)).drew b2); have HK2 := Lib.hid ((HK1.out.alloc (.cells (madeCells #[.int .u8 0] 8980) 5)).drew.below b2 (by have := HK1.out.lt; show _ < (w1.alloc _).heap.size; rw [World.size_alloc]; omega)); have SZ2 := Lib.hid b2.size; clear hc ho2 b2; obtain ⟨qb0, qb1, qb2, qb3, qb4, qb5, qb6, qb7, qb8⟩ := HK2.out.nine))
    cases past
    · go_wp2_with (first
        | (go_at_call 18; refine (num_ok _ _).mono ?_; rintro e w0 ⟨rfl, rfl⟩)
        | (go_at_call 16; ((with_reducible refine (HPG.out _ A c HC.out (own_map_row HO2.out).2).mono ?_); rintro e w3 ⟨P, c2, rfl, b3⟩; have HO3 := Lib.hid (own_alloc (own_below HO2.out b3) (.cells #[.int .i64 (h 0), .int .i64 (h 1), .int .i64 (h 2), .int .i64 (h 3), .int .i64 (h 4), .int .i64 (h 5), .int .i64 (h 6), .int .i64 (h 7), .int .i64 9000] 25)); have HB3 := Lib.hid (below_new (below_step HB2.out b3) (.cells #[.int .i64 (h 0), .int .i64 (h 1), .int .i64 (h 2), .int .i64 (h 3), .int .i64 (h 4), .int .i64 (h 5), .int .i64 (h 6), .int .i64 (h 7), .int .i64 9000] 25)); have HK3 := Lib.hid ((HK2.out.below b3 HK2.out.lt).alloc (.cells #[.int .i64 (h 0), .int .i64 (h 1), .int .i64 (h 2), .int .i64 (h 3), .int .i64 (h 4), .int .i64 (h 5), .int .i64 (h 6), .int .i64 (h 7), .int .i64 9000] 25)); have hn1 : w.heap.size ≠ w3.heap.size := (by have := (HK2.out.below b3 HK2.out.lt).lt; omega); have hn2 : w3.heap.size ≠ w.heap.size := (by omega); have hf8 := HK3.out.frozen 8; have HG3 := Lib.hid (Blk.new w3 25 #[.int .i64 (h 0), .int .i64 (h 1), .int .i64 (h 2), .int .i64 (h 3), .int .i64 (h 4), .int .i64 (h 5), .int .i64 (h 6), .int .i64 (h 7), .int .i64 9000]); clear b3; obtain ⟨qc0, qc1, qc2, qc3, qc4, qc5, qc6, qc7, qc8⟩ := HK3.out.nine; obtain ⟨qd0, qd1, qd2, qd3, qd4, qd5, qd6, qd7, qd8⟩ := HG3.out.nine))
        | (go_at_call 15; refine (works_true _).mono ?_; rintro e w9 ⟨rfl, h9⟩))
      go_ret
      exact ⟨rfl, below_step (HB3.out.setCell (p := ⟨w.heap.size, 8, none⟩) (Nat.le_refl _) _) h9⟩
    · go_wp2_with (go_at_call 16; ((with_reducible refine (HPG.out _ A c HC.out (own_map_row HO2.out).2).mono ?_); rintro e w3 ⟨P, c2, rfl, b3⟩; have HO3 := Lib.hid (own_alloc (own_below HO2.out b3) (.cells #[.int .i64 (h 0), .int .i64 (h 1), .int .i64 (h 2), .int .i64 (h 3), .int .i64 (h 4), .int .i64 (h 5), .int .i64 (h 6), .int .i64 (h 7), .int .i64 9000] 25)); have HB3 := Lib.hid (below_new (below_step HB2.out b3) (.cells #[.int .i64 (h 0), .int .i64 (h 1), .int .i64 (h 2), .int .i64 (h 3), .int .i64 (h 4), .int .i64 (h 5), .int .i64 (h 6), .int .i64 (h 7), .int .i64 9000] 25)); have HK3 := Lib.hid ((HK2.out.below b3 HK2.out.lt).alloc (.cells #[.int .i64 (h 0), .int .i64 (h 1), .int .i64 (h 2), .int .i64 (h 3), .int .i64 (h 4), .int .i64 (h 5), .int .i64 (h 6), .int .i64 (h 7), .int .i64 9000] 25)); have hn1 : w.heap.size ≠ w3.heap.size := (by have := (HK2.out.below b3 HK2.out.lt).lt; omega); have hn2 : w3.heap.size ≠ w.heap.size := (by omega); have hf8 := HK3.out.frozen 8; have HG3 := Lib.hid (Blk.new w3 25 #[.int .i64 (h 0), .int .i64 (h 1), .int .i64 (h 2), .int .i64 (h 3), .int .i64 (h 4), .int .i64 (h 5), .int .i64 (h 6), .int .i64 (h 7), .int .i64 9000]); clear b3; obtain ⟨qc0, qc1, qc2, qc3, qc4, qc5, qc6, qc7, qc8⟩ := HK3.out.nine; obtain ⟨qd0, qd1, qd2, qd3, qd4, qd5, qd6, qd7, qd8⟩ := HG3.out.nine))
      obtain ⟨W3, hW3⟩ : ∃ W3, W3 = w3.alloc (.cells #[.int .i64 (h 0), .int .i64 (h 1), .int .i64 (h 2), .int .i64 (h 3), .int .i64 (h 4), .int .i64 (h 5), .int .i64 (h 6), .int .i64 (h 7), .int .i64 9000] 25) := ⟨_, rfl⟩
      rw [← hW3] at HO3 HB3 HK3 qc0 qc1 qc2 qc3 qc4 qc5 qc6 qc7 qc8 ⊢
      have kw : IntKind.i64.wrap 8981 = 8981 := by decide
      have kw2 : IntKind.i64.wrap (8980 + 1) = 8981 := by decide
      clear qd0 qd1 qd2 qd3 qd4 qd5 qd6 qd7 qd8 hf8 HG3 hn1 hn2 hW3
      go_region_held3 (fun w' => w'.cell? ⟨w.heap.size, 0, none⟩ = some (.int .i64 (h 0)) ∧ w'.cell? ⟨w.heap.size, 1, none⟩ = some (.int .i64 (h 1)) ∧ w'.cell? ⟨w.heap.size, 2, none⟩ = some (.int .i64 (h 2)) ∧ w'.cell? ⟨w.heap.size, 3, none⟩ = some (.int .i64 (h 3)) ∧ w'.cell? ⟨w.heap.size, 4, none⟩ = some (.int .i64 (h 4)) ∧ w'.cell? ⟨w.heap.size, 5, none⟩ = some (.int .i64 (h 5)) ∧ w'.cell? ⟨w.heap.size, 6, none⟩ = some (.int .i64 (h 6)) ∧ w'.cell? ⟨w.heap.size, 7, none⟩ = some (.int .i64 (h 7)) ∧ w'.cell? ⟨w.heap.size, 8, none⟩ = some (.int .i64 20)) (go_keep) ((go_at_call 19; refine (HBB.out _ _).mono ?_; rintro e w4 ⟨rfl, b4⟩; have HO4 := Lib.hid (own_below (own_alloc HO3.out (.cells (madeCells #[.int .u8 0] 8981) 5)).drew b4); have HB4 := Lib.hid (below_step (below_new HB3.out (.cells (madeCells #[.int .u8 0] 8981) 5)).drew b4); have HK4 := Lib.hid ((HK3.out.alloc (.cells (madeCells #[.int .u8 0] 8981) 5)).drew.below b4 (by have := HK3.out.lt; show _ < (W3.alloc _).heap.size; rw [World.size_alloc]; omega)); clear b4; obtain ⟨qe0, qe1, qe2, qe3, qe4, qe5, qe6, qe7, qe8⟩ := HK4.out.nine))
      go_wp2_with (first
        | (go_at_call 18; refine (num_ok _ _).mono ?_; rintro e w0 ⟨rfl, rfl⟩)
        | (at_builtin; refine wpList_append_one _ rfl _ _ 22 rfl w.heap.size 5 i0 (.int .u8 0) 1 Try.underlying22 hi hz0 hz1 hz2 rfl _ _ _ rfl (ownsRow_mono HO4.out (by have := HB1.out.size; simp; omega)) _ rfl rfl (by decide) (by decide) HB4.out.size ?_; intro v5 w5 hown5 hb5; have HB5 := Lib.hid (HB4.out.trans hb5); obtain ⟨g5, c5, hv5, _, _, _⟩ := own_room hown5 (by decide); subst hv5; clear hown5 hb5)
        | (go_at_call 16; ((with_reducible refine (parse_long _ 9001 _ (by decide) _).mono ?_); rintro e w6 ⟨rfl, b6⟩; unfold hdr))
        | (go_at_call 15; refine (works_true _).mono ?_; rintro e w9 ⟨rfl, h9⟩))
      go_ret
      exact ⟨rfl, below_step (below_new (below_step HB5.out b6) _) h9⟩
  · have hv2 : validB (withLen h 20) = false := by simpa using hv
    rw [hv2] at h1
    clear hv hv2
    go_enter Try.func6, Try.ntmps6
    go_wp2_with (first
      | (go_at_call 23; refine (h1.out _).mono ?_; rintro e w1 ⟨rfl, b1⟩)
      | (go_at_call 15; refine (works_true _).mono ?_; rintro e w9 ⟨rfl, h9⟩))
    go_ret
    exact ⟨rfl, below_step (((Below.refl _ w).alloc (Nat.le_refl _) _).trans (b1.mono (by simp)) : Below w.heap.size w w1) h9⟩
end Go.Proofs.Ytejadoadpgcpjaa
