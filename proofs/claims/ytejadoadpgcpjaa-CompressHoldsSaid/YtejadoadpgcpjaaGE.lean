/- slices.Grow of nil, slices.Concat, joined. -/
import Derived.Test.YtejadoadpgcpjaaGD
import Derived.Test.YtejadoadpgcpjaaFQ
import Derived.Lib.AppendZeros
namespace Go.Proofs.Ytejadoadpgcpjaa
open Go.RowKit

theorem zero_size (n : Nat) : (Builtin.zeroCells (Value.int .u8 0).cells n).size = n := by
  rw [size_zeroCells]; simp [Value.cells]

set_option maxRecDepth 100000 in
set_option maxHeartbeats 1600000 in
theorem grow_nil (n : Nat) (h0 : 0 < n) (hn : n ≤ 1000000) (w : World) :
    Calls Try.prog 101 #[.slice none 0 0, .int .i64 (n : Int)] w fun e w' => ∃ v, e = .returned v ∧ w'.ownsRow w.heap.size 5 1 v 0 [] ∧ Below w.heap.size w w' := by
  obtain ⟨i0, hi0, hz0, hz1, hz2⟩ := info_parts Try.infoByte
  have hrz : Hid (∀ ty, (Builtin.append_ #[22, 3] ty #[.slice none 0 0, .int .i64 (n : Int)]).run Try.prog w =
      .ok (.slice (some ⟨w.heap.size, 0, none⟩) n (grownCap w n 0 5)) (w.drew.alloc (.cells (Builtin.zeroCells (Value.int .u8 0).cells n ++ Builtin.zeroCells (Value.int .u8 0).cells (grownCap w n 0 5 - n)) 5))) := Lib.hid fun ty =>
    Lib.run_append_nil_zeros w 22 3 ty 5 i0 (.int .u8 0) .i64 .i64 Try.underlying22 Try.underlying3 hi0 hz0 n h0 (by rw [hz1]; decide) (by omega) (by rw [hz2]; omega)
  have hG := grownCap_ge w n 0 5
  have hG2 := grownCap_le_maxLen w n 0 5 (by unfold maxLen; omega)
  obtain ⟨G, hGe⟩ : ∃ G, G = grownCap w n 0 5 := ⟨_, rfl⟩
  rw [← hGe] at hrz hG hG2
  obtain ⟨cs, hcs⟩ : ∃ cs, cs = Builtin.zeroCells (Value.int .u8 0).cells n ++ Builtin.zeroCells (Value.int .u8 0).cells (G - n) := ⟨_, rfl⟩
  rw [← hcs] at hrz
  have hsz : cs.size = G * 1 := by rw [hcs, Array.size_append, zero_size, zero_size]; omega
  have HSZ := Lib.hid hsz
  have HG2 := Lib.hid hG2
  have hn1 : ¬ ((n : Int) < 0) := by omega
  have hn2 : (0 : Int) < (n : Int) := by omega
  clear hGe hcs hsz hG2
  go_enter Try.func101, Try.ntmps101
  go_wp2_with (at_builtin; refine Lib.wpList_append_run _ rfl _ _ _ _ rfl _ _ rfl rfl _ _ (hrz.out _) ?_)
  go_ret
  exact ⟨_, rfl, World.ownsRow_made (base := w.heap.size) w.drew cs G (Nat.le_refl _) HG2.out HSZ.out, ((Below.refl _ w).drew).alloc (Nat.le_refl _) _⟩

def tot (n : Nat → Nat) : Nat → Nat
  | 0 => 0
  | k + 1 => tot n k + n k
def catI (n : Nat → Nat) (z : Nat → Nat → Int) : Nat → List Value
  | 0 => []
  | k + 1 => catI n z k ++ (List.range (n k)).map (fun j => .int .u8 (z k j))
theorem tot_mono (n : Nat → Nat) (a : Nat) : ∀ d, tot n a ≤ tot n (a + d)
  | 0 => Nat.le_refl _
  | d + 1 => Nat.le_trans (tot_mono n a d) (Nat.le_add_right _ _)

set_option maxRecDepth 100000 in
set_option maxHeartbeats 1600000 in
theorem concat_ok (m sb : Nat) (A : Nat → Option Addr) (n c : Nat → Nat) (z : Nat → Nat → Int) (hm : m ≤ 100) (h0 : 0 < tot n m) (hN : tot n m ≤ 1000000) (w : World) (hsb : sb < w.heap.size)
    (hc : ∀ k, k < m → w.cell? ⟨sb, k, none⟩ = some (.slice (A k) (n k) (c k))) (hr : ∀ k, k < m → Row w w.heap.size (A k) (n k) (fun j => .int .u8 (z k j))) :
    Calls Try.prog 90 #[.slice (some ⟨sb, 0, none⟩) m m] w fun e w' => ∃ v, e = .returned v ∧ w'.ownsRow w.heap.size 5 1 v (tot n m) (catI n z m) ∧ Below w.heap.size w w' := by
  obtain ⟨i0, hi0, hz0, hz1, hz2⟩ := info_parts Try.infoByte
  have HC := Lib.hid hc
  have HR := Lib.hid hr
  have HT := Lib.hid (fun k d => tot_mono n k d)
  clear hc hr
  go_enter Try.func90, Try.ntmps90
  go_wp2
  go_loop [3, 11] (fun v3 v11 => ∃ k : Nat, k ≤ m ∧ v11 = .int .i64 k ∧ v3 = .int .i64 (tot n k : Nat)) (fun _ v => m - (intOf v).toNat)
  case atStart => exact ⟨0, Nat.zero_le _, rfl, rfl⟩
  case round =>
    obtain ⟨k, hk, rfl, rfl⟩ := hrel
    by_cases hlt : k < m
    · have hck := HC.out k hlt
      have ht : tot n k + n k ≤ 1000000 := by have := HT.out (k + 1) (m - (k + 1)); rw [show k + 1 + (m - (k + 1)) = m by omega] at this; exact Nat.le_trans this hN
      obtain ⟨t, htt⟩ : ∃ t, t = tot n k := ⟨_, rfl⟩
      have HTT := Lib.hid (show tot n (k + 1) = t + n k by rw [htt]; rfl)
      rw [← htt] at ht ⊢
      clear htt
      obtain ⟨nk, hnk⟩ : ∃ nk, nk = n k := ⟨_, rfl⟩
      rw [← hnk] at ht hck HTT
      clear hnk
      have hni : ¬ ((t : Int) + (nk : Int) < 0) := by omega
      go_wp2
      go_round
      case rel => exact ⟨k + 1, by omega, by go_num, by rw [HTT.out]; go_num⟩
      case measure => simp [intOf]; omega
    · obtain rfl : k = m := by omega
      have HGN := Lib.hid (fun W => grow_nil (tot n k) h0 hN W)
      obtain ⟨N, hNe⟩ : ∃ N, N = tot n k := ⟨_, rfl⟩
      rw [← hNe] at HGN h0 hN ⊢
      have HNE := Lib.hid hNe
      clear hNe
      go_wp2_with (go_at_call 101; refine (HGN.out _).mono ?_; rintro e w1 ⟨v1, rfl, ho1, b1⟩; have HO1 := Lib.hid ho1; have B1 := Lib.hid b1; clear ho1 b1)
      go_loopw [6, 27] (fun v6 v27 wr => ∃ q : Nat, q ≤ k ∧ v27 = .int .i64 q ∧ wr.ownsRow w.heap.size 5 1 v6 (tot n q) (catI n z q) ∧ Below w.heap.size w wr) (fun _ v _ => k - (intOf v).toNat)
      case atStart => exact ⟨0, Nat.zero_le _, rfl, HO1.out, B1.out⟩
      case round =>
        obtain ⟨q, hq, rfl, hoq, hbq⟩ := hrel
        by_cases hlt2 : q < k
        · have hcq := (hbq.cell (p := ⟨sb, q, none⟩) hsb).trans (HC.out q hlt2)
          have hrq := (HR.out q hlt2).next hbq
          have ht : tot n q + n q ≤ 1000000 := by have := HT.out (q + 1) (k - (q + 1)); rw [show q + 1 + (k - (q + 1)) = k by omega, ← HNE.out] at this; exact Nat.le_trans this hN
          have HOQ := Lib.hid hoq
          have HBQ := Lib.hid hbq
          have HRQ := Lib.hid hrq
          clear hoq hbq hrq
          go_wp2_with (at_builtin; refine wpList_append_src _ rfl _ _ 22 rfl w.heap.size 5 i0 (.int .u8 0) 1 Try.underlying22 hi0 hz0 hz1 hz2 rfl _ _ _ rfl HOQ.out wr.heap.size (A q) (n q) (c q) (fun j => .int .u8 (z q j)) rfl HRQ.out (fun _ => rfl) (by unfold maxLen; omega) (by omega) HBQ.out.size ?_; intro v2 w2 hown2 hg2 _; have HO2 := Lib.hid hown2; have B2 := Lib.hid (HBQ.out.grown hg2 HBQ.out.size (fun k hk => (HOQ.out.lt k hk).1)); clear hown2 hg2)
          go_roundw
          case rel => exact ⟨q + 1, by omega, by go_num, HO2.out, B2.out⟩
          case measure => simp [intOf]; omega
        · obtain rfl : q = k := by omega
          have HOQ := Lib.hid hoq
          have HBQ := Lib.hid hbq
          clear hoq hbq
          go_wp2
          go_ret
          exact ⟨_, rfl, by rw [HNE.out]; exact HOQ.out, HBQ.out⟩
def catY (n : Nat → Nat) (z : Nat → Nat → Int) : Nat → Nat → Int
  | 0, _ => 0
  | k + 1, j => if j < tot n k then catY n z k j else z k (j - tot n k)
theorem catI_len (n : Nat → Nat) (z : Nat → Nat → Int) : ∀ k, (catI n z k).length = tot n k
  | 0 => rfl
  | k + 1 => by show (catI n z k ++ _).length = tot n k + n k; rw [List.length_append, catI_len n z k]; simp
theorem catI_at (n : Nat → Nat) (z : Nat → Nat → Int) : ∀ k j, j < tot n k → (catI n z k)[j]? = some (.int .u8 (catY n z k j))
  | 0, j, h => absurd h (by simp [tot])
  | k + 1, j, h => by
    show (catI n z k ++ _)[j]? = some (.int .u8 (if j < tot n k then _ else _))
    by_cases hj : j < tot n k
    · rw [if_pos hj, List.getElem?_append_left (by rw [catI_len]; exact hj)]
      exact catI_at n z k j hj
    · rw [if_neg hj, List.getElem?_append_right (by rw [catI_len]; omega), catI_len]
      have h2 : j - tot n k < n k := by have : j < tot n k + n k := h; omega
      simp [h2]
/-- what joined hands back -/
def joinY (b : Int) (y : Nat → Int) (j : Nat) : Int := if j = 0 then b else y (j - 1)

set_option maxRecDepth 100000 in
set_option maxHeartbeats 1600000 in
theorem joined_ok (b : Int) (m sb : Nat) (A : Nat → Option Addr) (n c : Nat → Nat) (z : Nat → Nat → Int) (hm : m ≤ 100) (h0 : 0 < tot n m) (hN : tot n m ≤ 1000000) (w : World) (hsb : sb < w.heap.size)
    (hc : ∀ k, k < m → w.cell? ⟨sb, k, none⟩ = some (.slice (A k) (n k) (c k))) (hr : ∀ k, k < m → Row w w.heap.size (A k) (n k) (fun j => .int .u8 (z k j))) :
    Calls Try.prog 63 #[.int .u8 b, .slice (some ⟨sb, 0, none⟩) m m] w fun e w' => ∃ B d, e = .returned (.slice B (1 + tot n m) d) ∧ 1 + tot n m ≤ d ∧ Fresh w.heap.size B ∧ Row w' w'.heap.size B (1 + tot n m) (fun j => .int .u8 (joinY b (catY n z m) j)) ∧ Below w.heap.size w w' := by
  obtain ⟨i0, hi0, hz0, hz1, hz2⟩ := info_parts Try.infoByte
  have HC := Lib.hid (fun o : Obj => concat_ok m sb A n c z hm h0 hN (w.alloc o) (by simp; omega) (fun k hk => (World.cell?_alloc_lt w o ⟨sb, k, none⟩ hsb).trans (hc k hk)) (fun k hk => row_new (hr k hk) o))
  have HAT := Lib.hid (catI_at n z m)
  obtain ⟨N, hNe⟩ : ∃ N, N = tot n m := ⟨_, rfl⟩
  obtain ⟨Y, hY⟩ : ∃ Y, Y = catY n z m := ⟨_, rfl⟩
  rw [← hNe, ← hY] at HAT
  rw [← hNe] at HC hN
  rw [← hNe, ← hY]
  clear hc hr h0 hNe hY
  go_enter Try.func63, Try.ntmps63
  go_wp2_with (first
    | (go_at_call 90; refine (HC.out _).mono ?_; rintro e w2 ⟨v2, rfl, ho2, b2⟩; obtain ⟨A2, c2, hv2, _, _, _, hr2⟩ := own_any (f := fun j => .int .u8 (Y j)) ho2 HAT.out; subst hv2; have HR2 := Lib.hid hr2; have B2 := Lib.hid (((Below.refl _ w).alloc (Nat.le_refl _) _).trans (b2.mono (by simp)) : Below w.heap.size w w2); have OW := Lib.hid (own_below (World.ownsRow_lit (base := w.heap.size) (e := 5) (size := 1) w #[.int .u8 b] 1 (Nat.le_refl _) (by decide) rfl) b2); clear ho2 hr2 b2)
    | (at_builtin; refine wpList_append_src _ rfl _ _ 22 rfl w.heap.size 5 i0 (.int .u8 0) 1 Try.underlying22 hi0 hz0 hz1 hz2 rfl _ 1 _ rfl OW.out w2.heap.size A2 N c2 (fun j => .int .u8 (Y j)) rfl HR2.out (fun _ => rfl) (by unfold maxLen; omega) (by omega) B2.out.size ?_; intro v3 w3 hown3 hg3 _; have B3 := Lib.hid (B2.out.grown hg3 B2.out.size (fun k hk => (OW.out.lt k hk).1)); obtain ⟨A3, c3, hv3, hc3, _, hf3, hr3⟩ := own_any (f := fun j => .int .u8 (joinY b Y j)) hown3 (fun j hj => (one_news _ _ _ j hj).trans (by unfold joinY; split <;> rfl)); subst hv3; have HR3 := Lib.hid hr3; have HC3 := Lib.hid hc3; have HF3 := Lib.hid hf3; clear hown3 hg3 hr3 hc3 hf3))
  go_ret
  exact ⟨_, _, rfl, HC3.out, HF3.out, HR3.out, B3.out⟩
end Go.Proofs.Ytejadoadpgcpjaa
