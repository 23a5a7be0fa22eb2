/- The walk of HeaderHolds. -/
import Derived.Test.YtejadoadpgcpjaaFQ
import Derived.Test.YtejadoadpgcpjaaFP
namespace Go.Proofs.Ytejadoadpgcpjaa
open Go.RowKit

theorem getv_congr (z y : Nat → Int) (p : Nat) : ∀ w, (∀ i, i < w → z ((p + i) / 8) = y ((p + i) / 8)) → getv z p w = getv y p w
  | 0, _ => rfl
  | w + 1, h => by
    unfold getv
    rw [getv_congr z y p w (fun i hi => h i (by omega))]
    unfold HM.hb
    rw [h w (by omega)]
theorem fieldv_congr (z y : Nat → Int) (k : Nat) (h : ∀ i, i < pwd k → z ((offs k + i) / 8) = y ((offs k + i) / 8)) : fieldv z k = fieldv y k := by
  unfold fieldv
  rw [Nat.zero_add, so_offs]
  exact getv_congr z y _ _ h
theorem fieldv_head (z y : Nat → Int) (k : Nat) (hk : k < 10) (h : ∀ j, j < 20 → z j = y j) : fieldv z k = fieldv y k :=
  fieldv_congr z y k fun i hi => h _ (by have := place_lt k i hk hi; omega)
theorem fieldv_last (z y : Nat → Int) (h : ∀ j, 0 < j → j < 20 → z j = y j) : fieldv z 9 = fieldv y 9 :=
  fieldv_congr z y 9 fun i hi => by
    have h9 : offs 9 = 144 := by decide
    have hw : pwd 9 = 16 := rfl
    exact h _ (by omega) (by omega)
theorem fieldv_zero (z : Nat → Int) (x : Nat) (hx : z 0 = (x : Int)) (h256 : x < 256) : fieldv z 0 = x / 16 := by
  have hb : ∀ i, i < 4 → HM.hb z (0 + i) = vbit (x / 16) 4 i := by
    intro i hi
    unfold HM.hb vbit
    have hi4 : i = 0 ∨ i = 1 ∨ i = 2 ∨ i = 3 := by omega
    rcases hi4 with rfl | rfl | rfl | rfl <;> simp [hx] <;> congr 1 <;> omega
  have := getv_bits z 0 4 (x / 16) (by omega) hb 4 (Nat.le_refl _)
  show getv z 0 4 = _
  rw [this]; simp

theorem pErr_ext (h z y : Nat → Int) (m : Nat) (hn : 20 ≤ m) (hm : m < 9000) (hw : anyWrong (withLen h m) = false) (hy : ∀ j, j < m → y j = pktAt (withLen h m) z j) : pErr (m + 1) y = 9 := by
  have e := fieldv_head y (pktAt (withLen h m) z) 9 (by decide) (fun j hj => hy j (by omega))
  have f9 := field_back (withLen h m) z hw 9 (by decide)
  have e9 : hval (withLen h m) 9 = m := rfl
  unfold pErr
  rw [if_neg (by omega), if_neg (by omega), if_neg (fun hc => by have := hc.2; omega)]
theorem pErr_cut (h z : Nat → Int) (m q : Nat) (hq : q < m) (hm : m < 9000) (hw : anyWrong (withLen h m) = false) : pErr q (pktAt (withLen h m) z) ≠ 0 := by
  have f9 := field_back (withLen h m) z hw 9 (by decide)
  have e9 : hval (withLen h m) 9 = m := rfl
  unfold pErr
  by_cases h20 : q < 20
  · rw [if_pos h20]; decide
  · rw [if_neg h20, if_neg (by omega), if_neg (fun hc => by have := hc.2; omega)]; decide
theorem pErr_ver (h z y : Nat → Int) (m x : Nat) (hn : 20 ≤ m) (hm : m < 9000) (hw : anyWrong (withLen h m) = false) (hy : ∀ j, 0 < j → j < m → y j = pktAt (withLen h m) z j) (hx : y 0 = (x : Int)) (h256 : x < 256) : pErr m y = if x / 16 = 5 then 0 else 9 := by
  have e := fieldv_last y (pktAt (withLen h m) z) (fun j h0 hj => hy j h0 (by omega))
  have f9 := field_back (withLen h m) z hw 9 (by decide)
  have e9 : hval (withLen h m) 9 = m := rfl
  have e0 := fieldv_zero y x hx h256
  unfold pErr
  rw [if_neg (by omega), if_neg (by omega), e0]
  by_cases h5 : x / 16 = 5
  · rw [if_pos ⟨h5, by omega⟩, if_pos h5]
  · rw [if_neg (fun hc => h5 hc.1), if_neg h5]

/-- what Parse accepted is built again -/
theorem back_build (n : Nat) (z : Nat → Int) (hz : ∀ j, j < n → 0 ≤ z j ∧ z j < 256) (h0 : pErr n z = 0) (P : Option Addr) (c : Nat) (W : World) (hr : Row W W.heap.size P (pLen n z) (fun j => .int .u8 (z (20 + j)))) :
    Calls Try.prog 19 #[.agg (hdr (pHdr n z)), .slice P (pLen n z : Nat) c] W fun e w' => ∃ A c2, e = .returned (.tuple #[.slice A n c2, .int .i64 0]) ∧ Row w' w'.heap.size A n (fun j => .int .u8 (z j)) ∧ Below W.heap.size W w' := by
  obtain ⟨h20, h9, h5, hl⟩ : 20 ≤ n ∧ n ≤ 9000 ∧ fieldv z 0 = 5 ∧ fieldv z 9 = n := by
    unfold pErr at h0
    by_cases a : n < 20
    · rw [if_pos a] at h0; cases h0
    · rw [if_neg a] at h0
      by_cases b : 9000 < n
      · rw [if_pos b] at h0; cases h0
      · rw [if_neg b] at h0
        by_cases c : fieldv z 0 = 5 ∧ fieldv z 9 = n
        · exact ⟨by omega, by omega, c.1, c.2⟩
        · rw [if_neg c] at h0; cases h0
  have hp : pLen n z = n - 20 := if_pos h0
  have e : withLen (gpart z 10) (20 + ((n - 20 : Nat) : Int)) = gpart z 10 := by
    rw [show (20 : Int) + ((n - 20 : Nat) : Int) = (n : Int) by omega]; exact withLen_parsed z n hl
  rw [pHdr_good n z h0, hp]
  rw [hp] at hr
  refine (build_good (gpart z 10) P (n - 20) c (fun j => z (20 + j)) (by omega) (by rw [e]; exact valid_parsed z n h20 h9 h5 hl) W hr).mono ?_
  rintro en w' ⟨A, c2, rfl, hc, ho, hb⟩
  rw [e] at ho
  have hr2 := (own_map_row ho).2
  rw [show 20 + (n - 20) = n by omega] at hr2 ⊢
  exact ⟨A, c2, rfl, hr2.congr (fun j hj => by rw [pkt_parsed z n h20 hz h5 j hj]), hb⟩
theorem back_valid (n : Nat) (z : Nat → Int) (h0 : pErr n z = 0) (W : World) :
    Calls Try.prog 22 #[.agg (hdr (pHdr n z))] W fun e w' => e = .returned (.bool true) ∧ Below W.heap.size W w' := by
  obtain ⟨h20, h9, h5, hl⟩ : 20 ≤ n ∧ n ≤ 9000 ∧ fieldv z 0 = 5 ∧ fieldv z 9 = n := by
    unfold pErr at h0
    by_cases a : n < 20
    · rw [if_pos a] at h0; cases h0
    · rw [if_neg a] at h0
      by_cases b : 9000 < n
      · rw [if_pos b] at h0; cases h0
      · rw [if_neg b] at h0
        by_cases c : fieldv z 0 = 5 ∧ fieldv z 9 = n
        · exact ⟨by omega, by omega, c.1, c.2⟩
        · rw [if_neg c] at h0; cases h0
  rw [pHdr_good n z h0]
  have := valid_ok (gpart z 10) W
  rwa [valid_parsed z n h20 h9 h5 hl] at this

theorem Row.put0 {w : World} {B n g o : Nat} {v : Nat → Value} (h : Row w B (some ⟨g, o, none⟩) n v) (u : Value) : Row (w.setCell ⟨g, o, none⟩ u) B (some ⟨g, o, none⟩) n (fun j => if j = 0 then u else v j) := fun hn => by
  obtain ⟨b, off, e, hb, hc⟩ := h hn
  cases e
  refine ⟨g, o, rfl, hb, fun j hj => ?_⟩
  by_cases hj0 : j = 0
  · subst hj0
    show _ = some u
    exact World.cell?_setCell_same _ _ _ (hc 0 hn)
  · show _ = some (if j = 0 then u else v j)
    rw [if_neg hj0]
    exact (World.cell?_setCell_other _ _ _ _ (by simp)).trans (hc j hj)

def ParseSome (N : Nat) (y : Nat → Int) (W : World) (e : Ending) (w' : World) : Prop :=
  ∃ (X : Nat → Int) (P : Option Addr) (L c : Nat), e = .returned (.tuple #[.agg #[.int .i64 (X 0), .int .i64 (X 1), .int .i64 (X 2), .int .i64 (X 3), .int .i64 (X 4), .int .i64 (X 5), .int .i64 (X 6), .int .i64 (X 7), .int .i64 (X 8)], .slice P L c, .int .i64 (pErr N y)]) ∧ Below W.heap.size W w'
theorem parse_some (A : Option Addr) (N c : Nat) (y : Nat → Int) (hc : N ≤ c) (hy : ∀ j, j < N → 0 ≤ y j ∧ y j < 256) (W : World) (hr : Row W W.heap.size A N (fun j => .int .u8 (y j))) :
    Calls Try.prog 16 #[.slice A N c] W (ParseSome N y W) := by
  refine (parse_any A N c y hc hy W hr).mono ?_
  rintro e w' ⟨P, c2, rfl, _, _, hb⟩
  exact ⟨pHdr N y, P, pLen N y, c2, rfl, hb⟩
theorem hb_good (h : Nat → Int) (n N : Nat) (hN : N = 20 + n) (hle : n ≤ 300) (hv : validB (withLen h (20 + n)) = true) (A : Option Addr) (c : Nat) (z : Nat → Int) (W : World) (hr : Row W W.heap.size A n (fun j => .int .u8 (z j))) :
    Calls Try.prog 19 #[.agg #[.int .i64 (h 0), .int .i64 (h 1), .int .i64 (h 2), .int .i64 (h 3), .int .i64 (h 4), .int .i64 (h 5), .int .i64 (h 6), .int .i64 (h 7), .int .i64 (h 8)], .slice A n c] W fun e w' =>
      ∃ A1 c1, e = .returned (.tuple #[.slice A1 N c1, .int .i64 0]) ∧ N ≤ c1 ∧ w'.ownsRow W.heap.size 5 1 (.slice A1 N c1) N ((List.range N).map (fun j => .int .u8 (pktAt (withLen h (20 + n)) z j))) ∧ Below W.heap.size W w' := by
  subst hN
  exact build_good h A n c z (by omega) hv W hr
theorem hp_good (h : Nat → Int) (n N : Nat) (hN : N = 20 + n) (hle : n ≤ 300) (hv : validB (withLen h (20 + n)) = true) (z : Nat → Int) (hz : ∀ j, j < n → 0 ≤ z j ∧ z j < 256) (A : Option Addr) (c : Nat) (hc : N ≤ c) (W : World) (hr : Row W W.heap.size A N (fun j => .int .u8 (pktAt (withLen h (20 + n)) z j))) :
    Calls Try.prog 16 #[.slice A N c] W fun e w' =>
      ∃ P c2, e = .returned (.tuple #[.agg #[.int .i64 (h 0), .int .i64 (h 1), .int .i64 (h 2), .int .i64 (h 3), .int .i64 (h 4), .int .i64 (h 5), .int .i64 (h 6), .int .i64 (h 7), .int .i64 (20 + (n : Int))], .slice P n c2, .int .i64 0]) ∧ Row w' w'.heap.size P n (fun j => .int .u8 (z j)) ∧ Below W.heap.size W w' := by
  subst hN
  have hcast : (20 : Int) + (n : Int) = ((20 + n : Nat) : Int) := by omega
  have hw : anyWrong (withLen h ((20 + n : Nat) : Int)) = false := by rw [← hcast]; exact validB_wrong _ hv
  refine (parse_any A (20 + n) c _ hc (pkt_byte _ z n hz) W hr).mono ?_
  rintro e w' ⟨P, c2, rfl, _, ho, hb⟩
  rw [hcast] at ho ⊢
  have e0 := pErr_pkt h z (20 + n) (by omega) (by omega) hw
  have e1 : pLen (20 + n) (pktAt (withLen h ((20 + n : Nat) : Int)) z) = n := (if_pos e0).trans (by omega)
  have e2 := pHdr_pkt h z (20 + n) (by omega) (by omega) hw
  rw [e1] at ho
  refine ⟨P, c2, ?_, (own_map_row ho).2.congr fun j _ => ?_, hb⟩
  · rw [e0, e1, e2]; rfl
  · show Value.int .u8 (pktAt _ z (20 + j)) = _
    unfold pktAt
    rw [if_neg (by omega), Nat.add_sub_cancel_left]

/-- what the rest of the law reads -/
structure HC (h : Nat → Int) (w : World) (n N : Nat) (z Y : Nat → Int) (A4 P5 : Option Addr) (g5 B : Nat) (W : World) : Prop where
  hs : w.heap.size < B
  gs : g5 < B
  bs : B ≤ W.heap.size
  k : Blk W w.heap.size 25 #[.int .i64 (h 0), .int .i64 (h 1), .int .i64 (h 2), .int .i64 (h 3), .int .i64 (h 4), .int .i64 (h 5), .int .i64 (h 6), .int .i64 (h 7), .int .i64 (20 + (n : Int))]
  g : Blk W g5 25 #[.int .i64 (h 0), .int .i64 (h 1), .int .i64 (h 2), .int .i64 (h 3), .int .i64 (h 4), .int .i64 (h 5), .int .i64 (h 6), .int .i64 (h 7), .int .i64 (20 + (n : Int))]
  rp : Row W B P5 n (fun j => .int .u8 (z j))
  rb : Row W B A4 N (fun j => .int .u8 (Y j))
  bb : Below w.heap.size w W
section
variable {h : Nat → Int} {w : World} {n N : Nat} {z Y : Nat → Int} {A4 P5 : Option Addr} {g5 B : Nat} {W W' : World}
theorem HC.next (c : HC h w n N z Y A4 P5 g5 B W) (hb : Below B W W') : HC h w n N z Y A4 P5 g5 B W' :=
  ⟨c.hs, c.gs, Nat.le_trans c.bs hb.size, c.k.below hb c.hs, c.g.below hb c.gs, c.rp.below hb, c.rb.below hb, c.bb.trans (hb.mono (Nat.le_of_lt c.hs))⟩
theorem HC.up (c : HC h w n N z Y A4 P5 g5 B W) : HC h w n N z Y A4 P5 g5 W.heap.size W :=
  ⟨Nat.lt_of_lt_of_le c.hs c.bs, Nat.lt_of_lt_of_le c.gs c.bs, Nat.le_refl _, c.k, c.g, c.rp.more c.bs, c.rb.more c.bs, c.bb⟩
theorem HC.alloc (c : HC h w n N z Y A4 P5 g5 B W) (o : Obj) : HC h w n N z Y A4 P5 g5 B (W.alloc o) := c.next ((Below.refl B W).alloc c.bs o)
theorem HC.set (c : HC h w n N z Y A4 P5 g5 B W) (p : Addr) (hp : B ≤ p.block) (u : Value) : HC h w n N z Y A4 P5 g5 B (W.setCell p u) := c.next ((Below.refl B W).setCell hp u)
theorem HC.over (c : HC h w n N z Y A4 P5 g5 B W) (hb : Below W.heap.size W W') : HC h w n N z Y A4 P5 g5 W'.heap.size W' := (c.up.next hb).up
end
theorem owns_empty_at (W : World) (e : TypeId) (N : Nat) (hN : W.heap.size = N) : (W.alloc (.cells #[] e)).ownsRow W.heap.size e 1 (.slice (some ⟨N, 0, none⟩) 0 0) 0 [] := by
  subst hN; exact owns_empty W e
theorem copy_below_at {W W1 : World} {e : TypeId} {N : Nat} (hN : W.heap.size = N) (h : (W.alloc (.cells #[] e)).grownBy W1 (Value.slice (some ⟨N, 0, none⟩) 0 0).ownBlock) : Below W.heap.size W W1 := by
  subst hN; exact copy_below h
theorem ext_at (Y : Nat → Int) (N : Nat) : ∀ j, j < N + 1 → ((List.range N).map (fun j => Value.int .u8 (Y j)) ++ [.int .u8 0])[j]? = some (.int .u8 (if j < N then Y j else 0)) := by
  intro j hj
  by_cases h : j < N
  · rw [if_pos h, List.getElem?_append_left (by simpa using h)]; simp [h]
  · rw [if_neg h, List.getElem?_append_right (by simp; omega)]
    obtain rfl : j = N := by omega
    simp
theorem parse_ext (h : Nat → Int) (n N : Nat) (hN : N = 20 + n) (hle : n ≤ 300) (hw : anyWrong (withLen h (20 + n)) = false) (z : Nat → Int) (hz : ∀ j, j < n → 0 ≤ z j ∧ z j < 256) (A : Option Addr) (c : Nat) (hc : N + 1 ≤ c) (W : World) (hr : Row W W.heap.size A (N + 1) (fun j => .int .u8 (if j < N then pktAt (withLen h (20 + n)) z j else 0))) :
    Calls Try.prog 16 #[.slice A (N + 1) c] W fun e w' => ∃ (X : Nat → Int) (P : Option Addr) (L c : Nat), e = .returned (.tuple #[.agg #[.int .i64 (X 0), .int .i64 (X 1), .int .i64 (X 2), .int .i64 (X 3), .int .i64 (X 4), .int .i64 (X 5), .int .i64 (X 6), .int .i64 (X 7), .int .i64 (X 8)], .slice P L c, .int .i64 9]) ∧ Below W.heap.size W w' := by
  subst hN
  have hcast : (20 : Int) + (n : Int) = ((20 + n : Nat) : Int) := by omega
  rw [hcast] at hw hr
  have hb := pkt_byte (withLen h ((20 + n : Nat) : Int)) z n hz
  refine (parse_some A (20 + n + 1) c (fun j => if j < 20 + n then pktAt (withLen h ((20 + n : Nat) : Int)) z j else 0) hc (fun j hj => ?_) W hr).mono ?_
  · show 0 ≤ (if j < 20 + n then _ else _) ∧ (if j < 20 + n then _ else _) < _
    by_cases hj2 : j < 20 + n
    · rw [if_pos hj2]; exact hb j hj2
    · rw [if_neg hj2]; decide
  · rintro e w' ⟨X, P, L, c2, rfl, hb2⟩
    rw [pErr_ext h z _ (20 + n) (by omega) (by omega) hw (fun j hj => if_pos hj)]
    exact ⟨X, P, L, c2, rfl, hb2⟩
theorem parse_cut (h : Nat → Int) (n N : Nat) (hN : N = 20 + n) (hle : n ≤ 300) (hw : anyWrong (withLen h (20 + n)) = false) (z : Nat → Int) (hz : ∀ j, j < n → 0 ≤ z j ∧ z j < 256) (q : Nat) (hq : q < N) (A : Option Addr) (c : Nat) (hc : N ≤ c) (W : World) (hr : Row W W.heap.size A N (fun j => .int .u8 (pktAt (withLen h (20 + n)) z j))) :
    Calls Try.prog 16 #[.slice A q c] W fun e w' => ∃ (X : Nat → Int) (P : Option Addr) (L c : Nat) (E : Int), e = .returned (.tuple #[.agg #[.int .i64 (X 0), .int .i64 (X 1), .int .i64 (X 2), .int .i64 (X 3), .int .i64 (X 4), .int .i64 (X 5), .int .i64 (X 6), .int .i64 (X 7), .int .i64 (X 8)], .slice P L c, .int .i64 E]) ∧ E ≠ 0 ∧ Below W.heap.size W w' := by
  subst hN
  have hcast : (20 : Int) + (n : Int) = ((20 + n : Nat) : Int) := by omega
  rw [hcast] at hw hr
  have hb := pkt_byte (withLen h ((20 + n : Nat) : Int)) z n hz
  refine (parse_some A q c _ (by omega) (fun j hj => hb j (by omega)) W (hr.take (by omega))).mono ?_
  rintro e w' ⟨X, P, L, c2, rfl, hb2⟩
  exact ⟨X, P, L, c2, _, rfl, pErr_cut h z (20 + n) q hq (by omega) hw, hb2⟩
theorem parse_ver (h : Nat → Int) (n N : Nat) (hN : N = 20 + n) (hle : n ≤ 300) (hw : anyWrong (withLen h (20 + n)) = false) (z : Nat → Int) (hz : ∀ j, j < n → 0 ≤ z j ∧ z j < 256) (x : Int) (hx0 : 0 ≤ x) (hx1 : x < 256) (A : Option Addr) (c : Nat) (hc : N ≤ c) (W : World) (hr : Row W W.heap.size A N (fun j => if j = 0 then .int .u8 x else .int .u8 (pktAt (withLen h (20 + n)) z j))) :
    Calls Try.prog 16 #[.slice A N c] W fun e w' => ∃ (X : Nat → Int) (P : Option Addr) (L c : Nat), e = .returned (.tuple #[.agg #[.int .i64 (X 0), .int .i64 (X 1), .int .i64 (X 2), .int .i64 (X 3), .int .i64 (X 4), .int .i64 (X 5), .int .i64 (X 6), .int .i64 (X 7), .int .i64 (X 8)], .slice P L c, .int .i64 (if x / 16 = 5 then 0 else 9)]) ∧ Below W.heap.size W w' := by
  subst hN
  have hcast : (20 : Int) + (n : Int) = ((20 + n : Nat) : Int) := by omega
  rw [hcast] at hw hr
  have hb := pkt_byte (withLen h ((20 + n : Nat) : Int)) z n hz
  have hr2 : Row W W.heap.size A (20 + n) (fun j => .int .u8 (if j = 0 then x else pktAt (withLen h ((20 + n : Nat) : Int)) z j)) := hr.congr fun j _ => by
    by_cases hj : j = 0
    · rw [if_pos hj, if_pos hj]
    · rw [if_neg hj, if_neg hj]
  refine (parse_some A (20 + n) c (fun j => if j = 0 then x else pktAt (withLen h ((20 + n : Nat) : Int)) z j) hc (fun j hj => ?_) W hr2).mono ?_
  · show 0 ≤ (if j = 0 then _ else _) ∧ (if j = 0 then _ else _) < _
    by_cases hj2 : j = 0
    · rw [if_pos hj2]; exact ⟨hx0, hx1⟩
    · rw [if_neg hj2]; exact hb j hj
  · rintro e w' ⟨X, P, L, c2, rfl, hb2⟩
    obtain ⟨v, rfl⟩ : ∃ v : Nat, x = (v : Int) := ⟨x.toNat, by omega⟩
    have he := pErr_ver h z (fun j => if j = 0 then (v : Int) else pktAt (withLen h ((20 + n : Nat) : Int)) z j) (20 + n) v (by omega) (by omega) hw (fun j h0 _ => if_neg (by omega)) (if_pos rfl) (by omega)
    rw [he]
    refine ⟨X, P, L, c2, ?_, hb2⟩
    by_cases h5 : v / 16 = 5
    · rw [if_pos h5, if_pos (by omega)]
    · rw [if_neg h5, if_neg (by omega)]

set_option maxRecDepth 100000 in
set_option maxHeartbeats 6400000 in
theorem holds_walk (h : Nat → Int) (A B : Option Addr) (n c m d : Nat) (z y : Nat → Int) (cut ver : Int) (w : World) (hn : n ≤ maxLen) (hm : m ≤ maxLen) (hmd : m ≤ d) (hv0 : 0 ≤ ver) (hv1 : ver < 256)
    (hz : ∀ j, j < n → 0 ≤ z j ∧ z j < 256) (hy : ∀ j, j < m → 0 ≤ y j ∧ y j < 256) (hr : Row w w.heap.size A n (fun j => .int .u8 (z j))) (hry : Row w w.heap.size B m (fun j => .int .u8 (y j))) :
    Calls Try.prog 7 #[.agg (hdr h), .slice A n c, .slice B m d, .int .i64 cut, .int .u8 ver] w fun e w' => e = .returned (.bool true) ∧ Below w.heap.size w w' := by
  unfold maxLen at hn hm
  have HH := Lib.hid (Blk.new w 25 (hdr h))
  by_cases hbig : 300 < n ∨ 300 < m
  · unfold hdr
    clear hr hry hz hy
    by_cases hb1 : 300 < n
    · go_enter Try.func7, Try.ntmps7
      go_wp2_with (go_at_call 15; refine (works_true _).mono ?_; rintro e w9 ⟨rfl, h9⟩)
      go_ret
      exact ⟨rfl, ((Below.refl _ w).alloc (Nat.le_refl _) _).trans (h9.mono (by simp))⟩
    · have hb2 : (300 : Int) < (m : Int) := by omega
      have hb3 : ¬ ((300 : Int) < (n : Int)) := by omega
      clear hbig hb1
      go_enter Try.func7, Try.ntmps7
      go_wp2_with (go_at_call 15; refine (works_true _).mono ?_; rintro e w9 ⟨rfl, h9⟩)
      go_ret
      exact ⟨rfl, ((Below.refl _ w).alloc (Nat.le_refl _) _).trans (h9.mono (by simp))⟩
  · have HR := Lib.hid hr
    have HRY := Lib.hid hry
    have hle : n ≤ 300 := by omega
    have hle2 : m ≤ 300 := by omega
    have HZ := Lib.hid hz
    have HPK := Lib.hid (fun (W : World) (hR : Row W W.heap.size B m (fun j => .int .u8 (y j))) => parse_any B m d y hmd hy W hR)
    have HBB := Lib.hid (fun h0 P c W hR => back_build m y hy h0 P c W hR)
    have HBV := Lib.hid (fun h0 W => back_valid m y h0 W)
    unfold ParseEnd at HPK
    obtain ⟨L, hL⟩ : ∃ L, L = pLen m y := ⟨_, rfl⟩
    obtain ⟨E, hE⟩ : ∃ E, E = pErr m y := ⟨_, rfl⟩
    obtain ⟨X, hX⟩ : ∃ X, X = pHdr m y := ⟨_, rfl⟩
    rw [← hL, ← hE, ← hX] at HPK
    rw [← hL, ← hE, ← hX] at HBB
    rw [← hE, ← hX] at HBV
    clear hL hE hX hr hry hz hy
    have hbig2 : ¬ ((300 : Int) < (n : Int)) := by omega
    have hbig3 : ¬ ((300 : Int) < (m : Int)) := by omega
    clear hbig
    unfold hdr at HH HPK HBB HBV ⊢
    go_enter Try.func7, Try.ntmps7
    go_upto_if 48 with (first
      | (go_at_call 18; refine (num_ok _ _).mono ?_; rintro e w0 ⟨rfl, rfl⟩)
      | (go_at_call 16; refine (HPK.out _ (row_new HRY.out _)).mono ?_; rintro e w1 ⟨P, c1, rfl, _, ho1, b1⟩; have HR1 := Lib.hid (row_new (own_map_row ho1).2 (.cells #[.int .i64 (X 0), .int .i64 (X 1), .int .i64 (X 2), .int .i64 (X 3), .int .i64 (X 4), .int .i64 (X 5), .int .i64 (X 6), .int .i64 (X 7), .int .i64 (X 8)] 25)); have HY1 := Lib.hid (row_new ((row_new HRY.out _).next b1) (.cells #[.int .i64 (X 0), .int .i64 (X 1), .int .i64 (X 2), .int .i64 (X 3), .int .i64 (X 4), .int .i64 (X 5), .int .i64 (X 6), .int .i64 (X 7), .int .i64 (X 8)] 25)); have K1 := Lib.hid ((HH.out.below b1 (by simp)).alloc (.cells #[.int .i64 (X 0), .int .i64 (X 1), .int .i64 (X 2), .int .i64 (X 3), .int .i64 (X 4), .int .i64 (X 5), .int .i64 (X 6), .int .i64 (X 7), .int .i64 (X 8)] 25)); have BB1 := Lib.hid (below_new (((Below.refl _ w).alloc (Nat.le_refl _) _).trans (b1.mono (by simp)) : Below w.heap.size w w1) (.cells #[.int .i64 (X 0), .int .i64 (X 1), .int .i64 (X 2), .int .i64 (X 3), .int .i64 (X 4), .int .i64 (X 5), .int .i64 (X 6), .int .i64 (X 7), .int .i64 (X 8)] 25)); have G1 := Lib.hid (Blk.new w1 25 #[.int .i64 (X 0), .int .i64 (X 1), .int .i64 (X 2), .int .i64 (X 3), .int .i64 (X 4), .int .i64 (X 5), .int .i64 (X 6), .int .i64 (X 7), .int .i64 (X 8)]); clear ho1 b1; obtain ⟨qa0, qa1, qa2, qa3, qa4, qa5, qa6, qa7, qa8⟩ := G1.out.nine))
    go_cut [10] from 49 to 69 (fun v wx => v = .bool false ∧ Blk wx w.heap.size 25 (hdr h) ∧ Below w.heap.size w wx)
    case first =>
      by_cases hE0 : E = 0
      · subst hE0
        have HB1 := Lib.hid (HBB.out rfl)
        have HV1 := Lib.hid (HBV.out rfl)
        clear HBB HBV
        go_wp2_with (first
          | (go_at_call 18; refine (num_ok _ _).mono ?_; rintro e w0 ⟨rfl, rfl⟩)
          | (go_at_call 19; refine (HB1.out _ _ _ HR1.out).mono ?_; rintro e w2 ⟨A2, c2, rfl, r2, b2⟩; have K2 := Lib.hid (K1.out.below b2 K1.out.lt); have BB2 := Lib.hid (below_step BB1.out b2); have G2 := Lib.hid (G1.out.below b2 G1.out.lt); have s1 := row_string 22 9 5 Try.underlying22 Try.underlying5 Try.underlying9 r2 c2; have s2 := row_string 22 9 5 Try.underlying22 Try.underlying5 Try.underlying9 (HY1.out.next b2) d; clear r2 b2; obtain ⟨qb0, qb1, qb2, qb3, qb4, qb5, qb6, qb7, qb8⟩ := G2.out.nine)
          | (go_at_call 22; refine (HV1.out _).mono ?_; rintro e w3 ⟨rfl, b3⟩; have K3 := Lib.hid (K2.out.below b3 K2.out.lt); have BB3 := Lib.hid (below_step BB2.out b3); clear b3))
        go_meet
        exact ⟨by simp, K3.out, BB3.out⟩
      · have hE1 : (E == 0) = false := by simpa using hE0
        go_wp2
        go_meet
        exact ⟨by simp, K1.out, BB1.out⟩
    case rest =>
      obtain ⟨rfl, hK, hB⟩ := hcut
      have K := Lib.hid hK
      have BB := Lib.hid hB
      clear hK hB HBB HBV HPK HR1 HY1 K1 BB1 G1 qa0 qa1 qa2 qa3 qa4 qa5 qa6 qa7 qa8
      unfold hdr at K
      obtain ⟨qk0, qk1, qk2, qk3, qk4, qk5, qk6, qk7, qk8⟩ := K.out.nine
      have hwx := K.out.lt
      have HRx := Lib.hid (HR.out.below BB.out)
      by_cases hv : validB (withLen h (20 + n)) = true
      · obtain ⟨N, hN⟩ : ∃ N, N = 20 + n := ⟨_, rfl⟩
        have hN1 : 20 + n ≤ N := by omega
        have hN2 : N ≤ 20 + n := by omega
        have HG := Lib.hid (fun A c W hR => hb_good h n N hN hle hv A c z W hR)
        have HP := Lib.hid (fun A c hc W hR => hp_good h n N hN hle hv z HZ.out A c hc W hR)
        have HY := Lib.hid (pkt_byte (withLen h (20 + n)) z n HZ.out)
        have hw := validB_wrong _ hv
        have HP2 := Lib.hid (fun A c hc W hR => parse_ext h n N hN hle hw z HZ.out A c hc W hR)
        have HP3 := Lib.hid (fun q hq A c hc W hR => parse_cut h n N hN hle hw z HZ.out q hq A c hc W hR)
        have HP4 := Lib.hid (fun x hx0 hx1 A c hc W hR => parse_ver h n N hN hle hw z HZ.out x hx0 hx1 A c hc W hR)
        obtain ⟨Y, hY⟩ : ∃ Y : Nat → Int, Y = pktAt (withLen h (20 + n)) z := ⟨_, rfl⟩
        rw [← hY] at HG HP HY HP2 HP3 HP4
        have HYY := Lib.hid hY
        have HN := Lib.hid hN
        clear hY hv hN hw
        obtain ⟨i0, hi, hz0, hz1, hz2⟩ := info_parts Try.infoByte
        go_upto_region 14 with (first
          | (go_at_call 18; refine (num_ok _ _).mono ?_; rintro e w0 ⟨rfl, rfl⟩)
          | (go_at_call 19; refine (HG.out _ _ _ (HRx.out.more (by have := BB.out.size; omega))).mono ?_; rintro e w4 ⟨A4, c4, rfl, hc4, ho4, b4⟩; have HC4 := Lib.hid hc4; have HR4 := Lib.hid (own_map_row ho4).2; have K4 := Lib.hid (K.out.below b4 hwx); have BB4 := Lib.hid (below_step BB.out b4); clear hc4 ho4 b4; obtain ⟨qb0, qb1, qb2, qb3, qb4, qb5, qb6, qb7, qb8⟩ := K4.out.nine; have qf8 := K4.out.frozen 8)
          | (go_at_call 16; ((with_reducible refine (HP.out _ _ HC4.out _ (Row.apart (p := ⟨w.heap.size, 8, none⟩) HR4.out K4.out nine_apart rfl _)).mono ?_); rintro e w5 ⟨P5, c5, rfl, r5, b5⟩; have KS := (K4.out.set_ 8 (.int .i64 (20 + (n : Int)))).to (ds := #[.int .i64 (h 0), .int .i64 (h 1), .int .i64 (h 2), .int .i64 (h 3), .int .i64 (h 4), .int .i64 (h 5), .int .i64 (h 6), .int .i64 (h 7), .int .i64 (20 + (n : Int))]) (by simp); have C5 : Hid (HC h w n N z Y A4 P5 w5.heap.size (w5.alloc (.cells #[.int .i64 (h 0), .int .i64 (h 1), .int .i64 (h 2), .int .i64 (h 3), .int .i64 (h 4), .int .i64 (h 5), .int .i64 (h 6), .int .i64 (h 7), .int .i64 (20 + (n : Int))] 25)).heap.size (w5.alloc (.cells #[.int .i64 (h 0), .int .i64 (h 1), .int .i64 (h 2), .int .i64 (h 3), .int .i64 (h 4), .int .i64 (h 5), .int .i64 (h 6), .int .i64 (h 7), .int .i64 (20 + (n : Int))] 25))) := Lib.hid ⟨(by have := (KS.below b5 KS.lt).lt; simp; omega), (by simp), Nat.le_refl _, (KS.below b5 KS.lt).alloc _, Blk.new _ _ _, row_new r5 _, row_new ((Row.apart (p := ⟨w.heap.size, 8, none⟩) HR4.out K4.out nine_apart rfl _).next b5) _, below_new (below_step (BB4.out.setCell (p := ⟨w.heap.size, 8, none⟩) (Nat.le_refl _) _) b5) _⟩; clear r5 b5 KS))
          | (at_builtin; refine wpList_append_src _ rfl _ _ 22 rfl (w5.alloc (.cells #[.int .i64 (h 0), .int .i64 (h 1), .int .i64 (h 2), .int .i64 (h 3), .int .i64 (h 4), .int .i64 (h 5), .int .i64 (h 6), .int .i64 (h 7), .int .i64 (20 + (n : Int))] 25)).heap.size 5 i0 (.int .u8 0) 1 Try.underlying22 hi hz0 hz1 hz2 rfl _ _ _ rfl (owns_empty_at (w5.alloc (.cells #[.int .i64 (h 0), .int .i64 (h 1), .int .i64 (h 2), .int .i64 (h 3), .int .i64 (h 4), .int .i64 (h 5), .int .i64 (h 6), .int .i64 (h 7), .int .i64 (20 + (n : Int))] 25)) 5 _ (by simp)) (w5.alloc (.cells #[.int .i64 (h 0), .int .i64 (h 1), .int .i64 (h 2), .int .i64 (h 3), .int .i64 (h 4), .int .i64 (h 5), .int .i64 (h 6), .int .i64 (h 7), .int .i64 (20 + (n : Int))] 25)).heap.size A4 N c4 (fun j => .int .u8 (Y j)) rfl (C5.out.rb.alloc (Nat.le_refl _) _) (fun _ => rfl) (by unfold maxLen; omega) (by omega) (by simp) ?_; intro v6 w6 hown6 hg6 hv6; obtain ⟨g6, c6, hv, hcap6⟩ := own_some_cap hown6 hv6; subst hv; have C6 := Lib.hid (C5.out.next (copy_below_at (by simp) hg6)); rw [Nat.zero_add, List.nil_append] at hown6; rw [Nat.zero_add]; have HO6 := Lib.hid hown6; clear hown6 hg6 hv6 hcap6)
          | (at_builtin; refine wpList_append_one _ rfl _ _ 22 rfl (w5.alloc (.cells #[.int .i64 (h 0), .int .i64 (h 1), .int .i64 (h 2), .int .i64 (h 3), .int .i64 (h 4), .int .i64 (h 5), .int .i64 (h 6), .int .i64 (h 7), .int .i64 (20 + (n : Int))] 25)).heap.size 5 i0 (.int .u8 0) 1 Try.underlying22 hi hz0 hz1 hz2 rfl _ _ _ rfl HO6.out _ rfl rfl (by unfold maxLen; omega) (by omega) C6.out.bs ?_; intro v7 w7 hown7 hb7; have C7 := Lib.hid (C6.out.next hb7); obtain ⟨A7, c7, hv, hc7, _, _, r7⟩ := own_any (f := fun j => .int .u8 (if j < N then Y j else 0)) hown7 (ext_at Y N); subst hv; have HC7 := Lib.hid hc7; have HR7 := Lib.hid r7; clear hown7 hb7 hc7 r7)
          | (go_at_call 16; ((with_reducible refine (HP2.out _ _ HC7.out _ HR7.out).mono ?_); rintro e w8 ⟨X8, P8, L8, c8, rfl, b8⟩; have C8 := Lib.hid ((C7.out.over b8).alloc (.cells #[.int .i64 (X8 0), .int .i64 (X8 1), .int .i64 (X8 2), .int .i64 (X8 3), .int .i64 (X8 4), .int .i64 (X8 5), .int .i64 (X8 6), .int .i64 (X8 7), .int .i64 (X8 8)] 25)); clear b8)))
        have hcN := HC4.out
        go_cut [26] from 105 to 117 (fun v wx => ∃ E9 : Int, E9 ≠ 0 ∧ v = .int .i64 E9 ∧ HC h w n N z Y A4 P5 w5.heap.size wx.heap.size wx)
        case first =>
          by_cases hc1 : (N : Int) - 1 < cut
          · go_wp2_with (go_at_call 16; ((with_reducible refine (HP3.out (N - 1) (by omega) _ _ HC4.out _ C8.out.up.rb).mono ?_); rintro e w9 ⟨X9, P9, L9, c9, E9, rfl, hE9, b9⟩; have HE9 := Lib.hid hE9; have C9 := Lib.hid ((C8.out.over b9).alloc (.cells #[.int .i64 (X9 0), .int .i64 (X9 1), .int .i64 (X9 2), .int .i64 (X9 3), .int .i64 (X9 4), .int .i64 (X9 5), .int .i64 (X9 6), .int .i64 (X9 7), .int .i64 (X9 8)] 25)); clear b9 hE9))
            go_meet
            exact ⟨E9, HE9.out, rfl, C9.out.up⟩
          · by_cases hc0 : 0 < cut
            · obtain ⟨k, rfl⟩ : ∃ k : Nat, cut = (k : Int) := ⟨cut.toNat, by omega⟩
              have hmx : max (k : Int) 0 = (k : Int) := by omega
              have hmx2 : max 0 (k : Int) = (k : Int) := by omega
              have hkc : (k : Int) ≤ (c4 : Int) := by omega
              go_wp2_with (go_at_call 16; ((with_reducible refine (HP3.out k (by omega) _ _ HC4.out _ C8.out.up.rb).mono ?_); rintro e w9 ⟨X9, P9, L9, c9, E9, rfl, hE9, b9⟩; have HE9 := Lib.hid hE9; have C9 := Lib.hid ((C8.out.over b9).alloc (.cells #[.int .i64 (X9 0), .int .i64 (X9 1), .int .i64 (X9 2), .int .i64 (X9 3), .int .i64 (X9 4), .int .i64 (X9 5), .int .i64 (X9 6), .int .i64 (X9 7), .int .i64 (X9 8)] 25)); clear b9 hE9))
              go_meet
              exact ⟨E9, HE9.out, rfl, C9.out.up⟩
            · have hmx : max cut 0 = 0 := by omega
              have hmx2 : max 0 cut = 0 := by omega
              go_wp2_with (go_at_call 16; ((with_reducible refine (HP3.out 0 (by omega) _ _ HC4.out _ C8.out.up.rb).mono ?_); rintro e w9 ⟨X9, P9, L9, c9, E9, rfl, hE9, b9⟩; have HE9 := Lib.hid hE9; have C9 := Lib.hid ((C8.out.over b9).alloc (.cells #[.int .i64 (X9 0), .int .i64 (X9 1), .int .i64 (X9 2), .int .i64 (X9 3), .int .i64 (X9 4), .int .i64 (X9 5), .int .i64 (X9 6), .int .i64 (X9 7), .int .i64 (X9 8)] 25)); clear b9 hE9))
              go_meet
              exact ⟨E9, HE9.out, rfl, C9.out.up⟩
        case rest =>
          obtain ⟨E9, hE9, rfl, hC⟩ := hcut
          have HE9 := Lib.hid hE9
          have C9 := Lib.hid hC
          clear hE9 hC
          obtain ⟨lb4, lo4, rfl, _, _⟩ := C9.out.rb (by omega)
          have hY0 := (HY.out 0 (by omega)).1
          have hY1 := (HY.out 0 (by omega)).2
          have hE91 : (E9 == 0) = false := by simpa using HE9.out
          have hE92 : (E9 != 0) = true := by simpa using HE9.out
          have hNp : (0 : Int) < (N : Int) := by omega
          clear qb0 qb1 qb2 qb3 qb4 qb5 qb6 qb7 qb8 qf8 qk0 qk1 qk2 qk3 qk4 qk5 qk6 qk7 qk8
          go_upto_region 16 with (at_builtin; refine wpList_append_src _ rfl _ _ 22 rfl wc.heap.size 5 i0 (.int .u8 0) 1 Try.underlying22 hi hz0 hz1 hz2 rfl _ _ _ rfl (owns_empty wc 5) wc.heap.size (some ⟨lb4, lo4, none⟩) N c4 (fun j => .int .u8 (Y j)) rfl (C9.out.rb.alloc (Nat.le_refl _) _) (fun _ => rfl) (by unfold maxLen; omega) (by omega) (by simp) ?_; intro v10 w10 hown10 hg10 hv10; obtain ⟨g10, c10, hv, hcap10⟩ := own_some_cap hown10 hv10; subst hv; have C10 := Lib.hid (C9.out.next (copy_below hg10)); rw [Nat.zero_add, List.nil_append] at hown10; rw [Nat.zero_add] at hcap10 ⊢; have HO10 := Lib.hid hown10; have HC10 := Lib.hid hcap10; clear hown10 hg10 hv10 hcap10)
          obtain ⟨_, _, e4, _, hcc⟩ := C10.out.rb (by omega)
          cases e4
          have q0 : w10.cell? ⟨lb4, lo4, none⟩ = some (.int .u8 (Y 0)) := hcc 0 (by omega)
          have q1 : w10.cell? ⟨g10, 0, none⟩ = some (.int .u8 (Y 0)) := by
            obtain ⟨_, _, e5, _, hcd⟩ := (own_map_row HO10.out).2 (by omega)
            cases e5
            exact hcd 0 (by omega)
          have q2 := HO10.out.frozenAt 0
          have hg10 : wc.heap.size ≤ g10 := (HO10.out.lt g10 (by simp [Value.ownBlock])).1
          clear hcc
          have R10 := Lib.hid (own_map_row HO10.out).2
          have C11 := Lib.hid (C10.out.set ⟨g10, 0, none⟩ hg10 (.int .u8 (Y 0 % 16 + ver % 16 * 16)))
          have HP5 := Lib.hid (HP4.out (Y 0 % 16 + ver % 16 * 16) (by omega) (by omega) _ _ HC10.out _ ((R10.out.put0 (.int .u8 (Y 0 % 16 + ver % 16 * 16))).more (by simp)))
          rw [show (Y 0 % 16 + ver % 16 * 16) / 16 = ver % 16 by omega] at HP5
          have hzz : w10.heap.size = w10.heap.size := rfl
          clear hzz
          by_cases hv5 : ver % 16 = 5
          · have hv6 : (ver % 16 == 5) = true := by simpa using hv5
            rw [if_pos hv5] at HP5
            have HV5 := Lib.hid hv5
            clear hv5
            go_wp2_with (first
              | (go_at_call 18; refine (num_ok _ _).mono ?_; rintro e w0 ⟨rfl, rfl⟩)
              | (go_at_call 16; refine (HP5.out).mono ?_; rintro e w11 ⟨X11, P11, L11, c11, rfl, b11⟩; have C12 := Lib.hid ((C11.out.over b11).alloc (.cells #[.int .i64 (X11 0), .int .i64 (X11 1), .int .i64 (X11 2), .int .i64 (X11 3), .int .i64 (X11 4), .int .i64 (X11 5), .int .i64 (X11 6), .int .i64 (X11 7), .int .i64 (X11 8)] 25)); clear b11; obtain ⟨qx0, qx1, qx2, qx3, qx4, qx5, qx6, qx7, qx8⟩ := C12.out.k.nine; obtain ⟨qy0, qy1, qy2, qy3, qy4, qy5, qy6, qy7, qy8⟩ := C12.out.g.nine; have s1 := row_string 22 9 5 Try.underlying22 Try.underlying5 Try.underlying9 C12.out.rp c5; have s2 := row_string 22 9 5 Try.underlying22 Try.underlying5 Try.underlying9 (HR.out.below C12.out.bb) c)
              | (go_at_call 15; refine (works_true _).mono ?_; rintro e w12 ⟨rfl, b12⟩; have B12 := Lib.hid (below_step C12.out.bb b12); clear b12))
            go_ret
            exact ⟨rfl, B12.out⟩
          · have hv6 : (ver % 16 == 5) = false := by simpa using hv5
            rw [if_neg hv5] at HP5
            have HV5 := Lib.hid hv5
            clear hv5
            go_wp2_with (first
              | (go_at_call 18; refine (num_ok _ _).mono ?_; rintro e w0 ⟨rfl, rfl⟩)
              | (go_at_call 16; refine (HP5.out).mono ?_; rintro e w11 ⟨X11, P11, L11, c11, rfl, b11⟩; have C12 := Lib.hid ((C11.out.over b11).alloc (.cells #[.int .i64 (X11 0), .int .i64 (X11 1), .int .i64 (X11 2), .int .i64 (X11 3), .int .i64 (X11 4), .int .i64 (X11 5), .int .i64 (X11 6), .int .i64 (X11 7), .int .i64 (X11 8)] 25)); clear b11; obtain ⟨qx0, qx1, qx2, qx3, qx4, qx5, qx6, qx7, qx8⟩ := C12.out.k.nine; obtain ⟨qy0, qy1, qy2, qy3, qy4, qy5, qy6, qy7, qy8⟩ := C12.out.g.nine; have s1 := row_string 22 9 5 Try.underlying22 Try.underlying5 Try.underlying9 C12.out.rp c5; have s2 := row_string 22 9 5 Try.underlying22 Try.underlying5 Try.underlying9 (HR.out.below C12.out.bb) c)
              | (go_at_call 15; refine (works_true _).mono ?_; rintro e w12 ⟨rfl, b12⟩; have B12 := Lib.hid (below_step C12.out.bb b12); clear b12))
            go_ret
            exact ⟨rfl, B12.out⟩
      · have hv2 : validB (withLen h (20 + n)) = false := by simpa using hv
        have HB4 := Lib.hid (fun W => build_bad h A n c (by omega) hv2 W)
        have HRV := Lib.hid (fun W => rvalid_ok (withLen h (20 + n)) W)
        rw [hv2] at HRV
        have HRV2 : Hid (∀ W : World, Calls Try.prog 23 #[.agg #[.int .i64 (h 0), .int .i64 (h 1), .int .i64 (h 2), .int .i64 (h 3), .int .i64 (h 4), .int .i64 (h 5), .int .i64 (h 6), .int .i64 (h 7), .int .i64 (20 + (n : Int))]] W fun e w' => e = .returned (.bool false) ∧ Below W.heap.size W w') := Lib.hid HRV.out
        unfold hdr at HB4
        clear hv hv2 HRV
        go_wp2_with (first
          | (go_at_call 18; refine (num_ok _ _).mono ?_; rintro e w0 ⟨rfl, rfl⟩)
          | (go_at_call 19; refine (HB4.out _).mono ?_; rintro e w4 ⟨rfl, b4⟩; have K4 := Lib.hid (K.out.below b4 hwx); have BB4 := Lib.hid (below_step BB.out b4); clear b4; obtain ⟨qb0, qb1, qb2, qb3, qb4, qb5, qb6, qb7, qb8⟩ := K4.out.nine; have qf8 := K4.out.frozen 8)
          | (go_at_call 23; refine (HRV2.out _).mono ?_; rintro e w5 ⟨rfl, b5⟩; have BB5 := Lib.hid (below_step (BB4.out.setCell (p := ⟨w.heap.size, 8, none⟩) (Nat.le_refl _) _) b5); clear b5)
          | (go_at_call 15; refine (works_true _).mono ?_; rintro e w12 ⟨rfl, b12⟩; have B12 := Lib.hid (below_step BB5.out b12); clear b12))
        go_ret
        exact ⟨rfl, B12.out⟩
theorem u8_wf {x : Int} (h : (Lit.int .u8 x).wf = true) : 0 ≤ x ∧ x < 256 := by
  have h2 := (by simpa [Lit.wf] using h : IntKind.u8.min ≤ x ∧ x ≤ IntKind.u8.max)
  rw [show IntKind.u8.min = 0 from rfl, show IntKind.u8.max = 255 from rfl] at h2
  omega
end Go.Proofs.Ytejadoadpgcpjaa
