/- compress: plain. compress: equality of arrays of contexts. compress: Same of two made compressors. compress reference: turns. compress reference: equality of contexts and of arrays of turns. compress reference: Same, the walk. compress reference: Same. compress: the program's Same answers as the reference's. The walk of CompressClones. two calls by value among a law's arguments. -/
import Derived.Test.YtejadoadpgcpjaaKB
import Derived.Laws.StructEq
import Derived.ChangeKeysEq
import Derived.Deep.RegionHeld3
import Derived.OpenShut
import Derived.ProofKit
namespace Go.Proofs.Ytejadoadpgcpjaa
open Go.RowKit

attribute [local go_sem ↓] Go.wp_at_zero Go.wp_at_succ

/-- block g holds the contexts S -/
def PB (w : World) (g : Nat) (S : Nat → Rx) : Prop := Blk w g 89 (caArr S)
theorem caArr_ctx (S : Nat → Rx) (i k : Nat) (hi : i < 16) (hk : k < 14) : (caArr S)[14 * i + k]? = some ((S i).cell k) := by
  rw [caArr_at _ _ (by omega), show (14 * i + k) / 14 = i by omega, show (14 * i + k) % 14 = k by omega]
theorem caArr_ext {S : Nat → Rx} {cs : Array Value} (hs : cs.size = 224) (hc : ∀ i k, i < 16 → k < 14 → cs[14 * i + k]? = some ((S i).cell k)) : cs = caArr S := by
  apply Array.ext_getElem?
  intro j
  by_cases hj : j < 224
  · have := hc (j / 14) (j % 14) (by omega) (by omega)
    have h3 := caArr_ctx S (j / 14) (j % 14) (by omega) (by omega)
    rw [show 14 * (j / 14) + j % 14 = j by omega] at this h3
    rw [this, h3]
  · rw [Array.getElem?_eq_none (by omega), Array.getElem?_eq_none (by rw [caArr_size]; omega)]
section
variable {w : World} {g : Nat} {S : Nat → Rx}
theorem PB.ctx (h : PB w g S) {i : Nat} (hi : i < 16) (k : Nat) (hk : k < 14) {o : Nat} (ho : o = 14 * i) : w.cell? ⟨g, o + k, none⟩ = some ((S i).cell k) := by
  subst ho; exact (Blk.cell h _).trans (caArr_ctx _ i k hi hk)
theorem PB.fr (h : PB w g S) (j : Nat) : w.frozen? ⟨g, j, none⟩ = false := Blk.frozen h j
theorem PB.set (h : PB w g S) {i : Nat} (hi : i < 16) (k : Nat) (hk : k < 14) {o : Nat} (ho : o = 14 * i) (c : Rx) (hc : ∀ m, m < 14 → m ≠ k → c.cell m = (S i).cell m) {u : Value} (hu : u = c.cell k) :
    PB (w.setCell ⟨g, o + k, none⟩ u) g (upd S i c) := by
  subst ho hu
  have h2 := Blk.set_ h (14 * i + k) (c.cell k)
  unfold PB
  have e : (caArr S).setIfInBounds (14 * i + k) (c.cell k) = caArr (upd S i c) := by
    refine caArr_ext (by simp [caArr_size]) ?_
    intro i2 k2 hi2 hk2
    rw [Array.getElem?_setIfInBounds]
    by_cases hii : i2 = i
    · subst hii
      rw [upd_same]
      by_cases hkk : k2 = k
      · subst hkk; rw [if_pos rfl, if_pos (by rw [caArr_size]; omega)]
      · rw [if_neg (by omega), caArr_ctx _ _ _ hi2 hk2, hc k2 hk2 hkk]
    · have e1 : upd S i c i2 = S i2 := if_neg hii
      rw [e1, if_neg (by omega)]
      exact caArr_ctx _ _ _ hi2 hk2
  rw [e] at h2
  exact h2
theorem PB.setTurn (h : PB w g S) {i : Nat} (hi : i < 16) {o : Nat} (ho : o = 14 * i) (v : Int) : PB (w.setCell ⟨g, o + 13, none⟩ (.int .i64 v)) g (upd S i { S i with turn := v }) :=
  h.set hi 13 (by decide) ho _ (fun m hm hne => fourteen (p := fun m => m ≠ 13 → ({ S i with turn := v } : Rx).cell m = (S i).cell m) (fun _ => rfl) (fun _ => rfl) (fun _ => rfl) (fun _ => rfl) (fun _ => rfl) (fun _ => rfl) (fun _ => rfl) (fun _ => rfl) (fun _ => rfl) (fun _ => rfl) (fun _ => rfl) (fun _ => rfl) (fun _ => rfl) (fun h => absurd rfl h) m hm hne) rfl
theorem PB.setNeed (h : PB w g S) {i : Nat} (hi : i < 16) {o : Nat} (ho : o = 14 * i) (v : Bool) : PB (w.setCell ⟨g, o + 12, none⟩ (.bool v)) g (upd S i { S i with need := v }) :=
  h.set hi 12 (by decide) ho _ (fun m hm hne => fourteen (p := fun m => m ≠ 12 → ({ S i with need := v } : Rx).cell m = (S i).cell m) (fun _ => rfl) (fun _ => rfl) (fun _ => rfl) (fun _ => rfl) (fun _ => rfl) (fun _ => rfl) (fun _ => rfl) (fun _ => rfl) (fun _ => rfl) (fun _ => rfl) (fun _ => rfl) (fun _ => rfl) (fun h => absurd rfl h) (fun _ => rfl) m hm hne) rfl
end

/-- does context k count for context i? -/
def older (S : Nat → Rx) (i k : Nat) : Bool := (S k).used && ((S i).used && decide ((S k).turn < (S i).turn))
def cnt (S : Nat → Rx) (i : Nat) : Nat → Nat
  | 0 => 0
  | k + 1 => if older S i k then cnt S i k + 1 else cnt S i k
theorem cnt_le (S : Nat → Rx) (i : Nat) : ∀ k, cnt S i k ≤ k
  | 0 => Nat.le_refl _
  | k + 1 => by
    unfold cnt
    have := cnt_le S i k
    split <;> omega
def plainX (S : Nat → Rx) (i : Nat) : Rx := { S i with turn := (cnt S i 16 : Nat), need := (S i).used && (S i).need }
def plainTo (S : Nat → Rx) (i : Nat) : Nat → Rx := fun k => if k < i then plainX S k else S k
def plainS (S : Nat → Rx) : Nat → Rx := plainX S
theorem plainTo_all (S : Nat → Rx) : caArr (plainTo S 16) = caArr (plainS S) := by
  refine caArr_ext (caArr_size _) ?_
  intro i k hi hk
  rw [caArr_ctx _ i k hi hk]
  have : plainTo S 16 i = plainS S i := if_pos hi
  rw [this]
theorem plainTo_next (S : Nat → Rx) (i : Nat) : upd (plainTo S i) i (plainX S i) = plainTo S (i + 1) := by
  funext k
  unfold upd plainTo
  by_cases h : k = i
  · subst h; rw [if_pos rfl, if_pos (by omega)]
  · rw [if_neg h]
    by_cases h2 : k < i
    · rw [if_pos h2, if_pos (by omega)]
    · rw [if_neg h2, if_neg (by omega)]

set_option maxRecDepth 100000 in
set_option maxHeartbeats 6400000 in
theorem plain_ok (g : Nat) (S : Nat → Rx) (T : Int) (w : World) (h : CB w g true S T) :
    Calls Try.prog 72 #[.pointer (some ⟨g, 0, none⟩)] w fun e w' => e = .returned (.agg (caArr (plainS S))) ∧ Below w.heap.size w w' := by
  have hz := zero89
  have hix := fun k hk => ca_index S k hk
  obtain ⟨L, hL⟩ : ∃ L : List Value, L = (caArr S).toList := ⟨_, rfl⟩
  obtain ⟨Z, hZ⟩ : ∃ Z, Z = caArr (fun _ => Rx.zero) := ⟨_, rfl⟩
  have hLa : caArr S = L.toArray := by rw [hL]
  have hl224 : L.length = 224 := by rw [hL, Array.length_toList, caArr_size]
  have HIZ : Hid ((Try.prog.info? 89).map (·.size) = some L.length) := Lib.hid (by rw [hl224]; exact size89)
  have HIZ2 : Hid ((Try.prog.info? 89).map (·.size) = some L.toArray.size) := Lib.hid (by simpa using HIZ.out)
  have HZ2 : Hid (Z.size = L.toArray.size) := Lib.hid (by rw [hZ, caArr_size]; simpa using hl224.symm)
  have HZ3 : Hid (Z.size = 224) := Lib.hid (by rw [hZ, caArr_size])
  have HO : Hid (L.toArray.all (·.oneCell') = true) := Lib.hid (by rw [← hLa]; exact ca_one S)
  have HRG : Hid (∀ W : World, CB W g true S T → W.rangeAt g 1 L) := Lib.hid (fun W hW j v hv => by
    have hj : j < 224 := by
      have := (List.getElem?_eq_some_iff.1 hv).1
      omega
    have h2 : W.cell? ⟨g, 1 + j, none⟩ = some (cval true S T (1 + j)) := (Blk.cell hW (1 + j)).trans (csArr_at _ _ _ (1 + j) (by omega))
    rw [h2]
    have h3 := caArr_at S j hj
    rw [hLa] at h3
    simp only [List.getElem?_toArray] at h3
    rw [hv] at h3
    unfold cval
    rw [if_neg (by omega), if_neg (by omega), show 1 + j - 1 = j by omega]
    exact h3.symm)
  have HIX := Lib.hid (show ∀ k : Nat, k < 16 → ∀ X : World, (Instr.index 89 (.agg L.toArray) (.int .i64 (k : Int))).run Try.prog X = .ok (.agg (S k).cells.toArray) X from fun k hk X => by rw [← hLa]; exact hix k hk X)
  have HLA := Lib.hid hLa
  have HK := Lib.hid h
  have hgl := h.lt
  rw [← hZ] at hz
  clear hL hZ hLa hix h
  go_enter Try.func72, Try.ntmps72
  go_upto_region 2 with (first
    | (refine wpList_load_mid rfl 89 _ rfl g 1 rfl L _ (HRG.out _ (HK.out.alloc _)) Try.underlying89 rfl HIZ.out ?_)
    | (refine wpList_store_row rfl _ _ _ rfl (w.heap.size + 1) L.toArray rfl rfl 89 Z (blk_at _ _ _ _ (by simp)) HIZ2.out HZ2.out HO.out ?_))
  obtain ⟨lb, hlb⟩ : ∃ lb, lb = w.heap.size + 1 := ⟨_, rfl⟩
  obtain ⟨W1, hW1⟩ : ∃ W1, W1 = ((w.alloc (.cells Z 89)).alloc (.cells Z 89)).setRow (w.heap.size + 1) L.toArray := ⟨_, rfl⟩
  have P1 := Lib.hid (show PB W1 lb (plainTo S 0) from by
    have e : plainTo S 0 = S := by funext k; exact if_neg (by omega)
    rw [e]; unfold PB
    rw [HLA.out, hW1, hlb]
    exact Blk.setRow (blk_at _ _ _ _ (by simp)))
  have O1 := Lib.hid (show Blk W1 w.heap.size 89 Z from by rw [hW1]; exact ((Blk.new w _ _).alloc _).farRow (by omega))
  have B1 := Lib.hid (show Below w.heap.size w W1 from by rw [hW1]; exact belowRow (((Below.refl _ w).alloc (Nat.le_refl _) _).alloc (by simp) _) (by omega) _)
  rw [← hW1, ← hlb]
  have hgo : g ≠ lb := by omega
  have hol : w.heap.size ≠ lb := by omega
  have hlw : w.heap.size ≤ lb := by omega
  clear hW1 hlb
  go_wp2
  go_loopw [11] (fun v wr => ∃ i : Nat, i ≤ 16 ∧ v = .int .i64 i ∧ PB wr lb (plainTo S i) ∧ Blk wr w.heap.size 89 Z ∧ Below w.heap.size w wr) (fun v _ => 16 - (intOf v).toNat)
  case atStart => exact ⟨0, by omega, rfl, P1.out, O1.out, B1.out⟩
  case round =>
    obtain ⟨i, hi, rfl, hP, hO, hB⟩ := hrel
    have PR := Lib.hid hP
    have OR := Lib.hid hO
    have BR := Lib.hid hB
    have KR := Lib.hid (HK.out.below hB hgl)
    clear hP hO hB
    by_cases hlt : i < 16
    · have i0 : (0 : Int) ≤ (i : Int) := by omega
      have i1 : (i : Int) < 16 := by omega
      have ep : plainTo S i i = S i := if_neg (by omega)
      have c13 : wr.cell? ⟨lb, i * 14 + 13, none⟩ = some (.int .i64 (plainTo S i i).turn) := PR.out.ctx (o := i * 14) hlt 13 (by decide) (by omega)
      have f13 := PR.out.fr (i * 14 + 13)
      have P2 := Lib.hid (show PB (wr.setCell ⟨lb, i * 14 + 13, none⟩ (.int .i64 0)) lb (upd (plainTo S i) i { S i with turn := (cnt S i 0 : Nat) }) from by
        have := PR.out.setTurn (o := i * 14) hlt (by omega) 0
        rw [ep] at this
        exact this)
      have O2 := Lib.hid (OR.out.far (p := ⟨lb, i * 14 + 13, none⟩) hol (.int .i64 0))
      have B2 := Lib.hid (BR.out.setCell (p := ⟨lb, i * 14 + 13, none⟩) hlw (.int .i64 0))
      have K2 := Lib.hid (KR.out.far (p := ⟨lb, i * 14 + 13, none⟩) hgo (.int .i64 0))
      rw [ep] at c13
      clear ep
      go_wp2_with (refine wpList_load_mid rfl 89 _ rfl g 1 rfl L _ (HRG.out _ K2.out) Try.underlying89 rfl HIZ.out ?_)
      obtain ⟨W2, hW2⟩ : ∃ W2, W2 = wr.setCell ⟨lb, i * 14 + 13, none⟩ (.int .i64 0) := ⟨_, rfl⟩
      rw [← hW2] at P2 O2 B2 K2 ⊢
      clear hW2 c13 f13 PR OR BR KR
      go_loopw [21] (fun v wq => ∃ k : Nat, k ≤ 16 ∧ v = .int .i64 k ∧ PB wq lb (upd (plainTo S i) i { S i with turn := (cnt S i k : Nat) }) ∧ Blk wq w.heap.size 89 Z ∧ CB wq g true S T ∧ Below w.heap.size w wq) (fun v _ => 16 - (intOf v).toNat)
      case atStart => exact ⟨0, by omega, rfl, P2.out, O2.out, K2.out, B2.out⟩
      case round =>
        obtain ⟨k, hk, rfl, hP, hO, hK3, hB⟩ := hrel
        have hck := cnt_le S i k
        have HP := Lib.hid hP
        have HOO := Lib.hid hO
        have HKK := Lib.hid hK3
        have HBB := Lib.hid hB
        clear hP hO hK3 hB
        by_cases hk16 : k < 16
        · have hixk := HIX.out k hk16
          have HS88 : Hid ((Try.prog.info? 88).map (·.size) = some (S k).cells.toArray.size) := Lib.hid size88
          have HO88 : Hid ((S k).cells.toArray.all (·.oneCell') = true) := Lib.hid (all_oneCell_toArray (fun v hv => by
            obtain ⟨j, hj, e⟩ := List.getElem_of_mem hv
            have hj14 : j < 14 := hj
            have h1 := rx_one (S k) j hj14
            unfold Rx.cell at h1
            rw [List.getD, List.getElem?_eq_getElem hj] at h1
            rw [← e]; exact h1))
          obtain ⟨xb, hxb⟩ : ∃ xb, xb = wr.heap.size := ⟨_, rfl⟩
          go_upto_region 9 with (refine wpList_store_row rfl _ _ _ rfl wr.heap.size (S k).cells.toArray rfl rfl 88 _ (Blk.new wr _ _) HS88.out rfl HO88.out ?_)
          obtain ⟨W3, hW3⟩ : ∃ W3, W3 = (wr.alloc (.cells #[.int .i64 0, .int .i64 0, .int .i64 0, .bool false, .int .i64 0, .int .i64 0, .int .i64 0, .int .i64 0, .int .i64 0, .bool false, .int .u8 0, .int .i64 0, .bool false, .int .i64 0] 88)).setRow wr.heap.size (S k).cells.toArray := ⟨_, rfl⟩
          have X3 := Lib.hid (show Blk W3 xb 88 (S k).cells.toArray from by rw [hW3, hxb]; exact Blk.setRow (Blk.new wr _ _))
          have b3 : Below wr.heap.size wr W3 := by rw [hW3]; exact belowRow ((Below.refl _ wr).alloc (Nat.le_refl _) _) (Nat.le_refl _) _
          have P3 := Lib.hid (HP.out.below b3 HP.out.lt)
          have O3 := Lib.hid (HOO.out.below b3 HOO.out.lt)
          have K3 := Lib.hid (HKK.out.below b3 HKK.out.lt)
          have B3 := Lib.hid (below_step HBB.out b3)
          rw [← hW3, ← hxb]
          clear hW3 hxb b3 HP HOO HKK HBB hixk
          simp only [Act.put]
          have x3 : ∀ e : ExtW W3, e.v.cell? ⟨xb, 3, none⟩ = some (.bool (S k).used) := fun e => e.cell (X3.out.cell 3) X3.out.lt
          have x13 : ∀ e : ExtW W3, e.v.cell? ⟨xb, 13, none⟩ = some (.int .i64 (S k).turn) := fun e => e.cell (X3.out.cell 13) X3.out.lt
          have y3 : ∀ e : ExtW W3, e.v.cell? ⟨g, 1 + i * 14 + 3, none⟩ = some (.bool (S i).used) := fun e => e.cell (K3.out.ctx (o := 1 + i * 14) hlt 3 (by decide) (by omega)) K3.out.lt
          have y13 : ∀ e : ExtW W3, e.v.cell? ⟨g, 1 + i * 14 + 13, none⟩ = some (.int .i64 (S i).turn) := fun e => e.cell (K3.out.ctx (o := 1 + i * 14) hlt 13 (by decide) (by omega)) K3.out.lt
          have HCN := Lib.hid (show cnt S i (k + 1) = if older S i k then cnt S i k + 1 else cnt S i k from rfl)
          have HOL := Lib.hid (show older S i k = ((S k).used && ((S i).used && decide ((S k).turn < (S i).turn))) from rfl)
          have HEX := Lib.hid (fun e : ExtW W3 => (⟨P3.out.below e.h P3.out.lt, O3.out.below e.h O3.out.lt, K3.out.below e.h K3.out.lt, below_step B3.out e.h⟩ : PB e.v lb (upd (plainTo S i) i { S i with turn := (cnt S i k : Nat) }) ∧ Blk e.v w.heap.size 89 Z ∧ CB e.v g true S T ∧ Below w.heap.size w e.v))
          obtain ⟨uk, huk⟩ : ∃ uk, uk = (S k).used := ⟨_, rfl⟩
          obtain ⟨ui, hui⟩ : ∃ ui, ui = (S i).used := ⟨_, rfl⟩
          rw [← huk] at x3 HOL
          rw [← hui] at y3 HOL
          have HUK := Lib.hid huk
          have HUI := Lib.hid hui
          clear huk hui
          cases uk
          · have HN := Lib.hid (show cnt S i (k + 1) = cnt S i k from by rw [HCN.out, if_neg (by rw [HOL.out]; simp)])
            refine wp_region_ext (by kernel_rfl) (by kernel_rfl) ?_
            repeat (go_big_quiet_step (fail))
            refine wpQuiet_nil ?_
            rintro _ ⟨ex, rfl⟩
            obtain ⟨e1, e2, e3, e4⟩ := HEX.out ex
            have E1 := Lib.hid e1
            clear e1
            go_wp2
            go_roundw
            case rel => first | exact ⟨k + 1, by omega, by go_num, by rw [HN.out]; exact E1.out, e2, e3, e4⟩ | ((repeat apply Exists.intro); exact ⟨⟨k + 1, by omega, by go_num, by rw [HN.out]; exact E1.out, e2, e3, e4⟩, rfl⟩)
            case measure => simp [intOf]; omega
          cases ui
          · have HN := Lib.hid (show cnt S i (k + 1) = cnt S i k from by rw [HCN.out, if_neg (by rw [HOL.out]; simp)])
            refine wp_region_ext (by kernel_rfl) (by kernel_rfl) ?_
            repeat (go_big_quiet_step (fail))
            refine wpQuiet_nil ?_
            rintro _ ⟨ex, rfl⟩
            obtain ⟨e1, e2, e3, e4⟩ := HEX.out ex
            have E1 := Lib.hid e1
            clear e1
            go_wp2
            go_roundw
            case rel => first | exact ⟨k + 1, by omega, by go_num, by rw [HN.out]; exact E1.out, e2, e3, e4⟩ | ((repeat apply Exists.intro); exact ⟨⟨k + 1, by omega, by go_num, by rw [HN.out]; exact E1.out, e2, e3, e4⟩, rfl⟩)
            case measure => simp [intOf]; omega
          by_cases hlt2 : (S k).turn < (S i).turn
          · have HN := Lib.hid (show cnt S i (k + 1) = cnt S i k + 1 from by rw [HCN.out, if_pos (by rw [HOL.out]; simpa using hlt2)])
            refine wp_region_ext (by kernel_rfl) (by kernel_rfl) ?_
            repeat (go_big_quiet_step (fail))
            refine wpQuiet_nil ?_
            rintro _ ⟨ex, rfl⟩
            obtain ⟨e1, e2, e3, e4⟩ := HEX.out ex
            obtain ⟨Cn, hCn⟩ : ∃ Cn, Cn = cnt S i k := ⟨_, rfl⟩
            rw [← hCn] at e1 HN hck
            have cc : ex.v.cell? ⟨lb, i * 14 + 13, none⟩ = some (.int .i64 (Cn : Nat)) := by
              have := e1.ctx (o := i * 14) hlt 13 (by decide) (by omega)
              rw [upd_same] at this
              exact this
            have ff := e1.fr (i * 14 + 13)
            have tw : IntKind.i64.wrap ((Cn : Int) + 1) = (Cn : Int) + 1 := IntWalk.i64_in _ (by omega)
            have EN := Lib.hid (show PB (ex.v.setCell ⟨lb, i * 14 + 13, none⟩ (.int .i64 ((Cn : Int) + 1))) lb (upd (plainTo S i) i { S i with turn := ((Cn + 1 : Nat) : Int) }) from by
              have := e1.setTurn (o := i * 14) hlt (by omega) ((Cn : Int) + 1)
              rw [upd_upd, upd_same] at this
              exact this)
            have EO := Lib.hid (e2.far (p := ⟨lb, i * 14 + 13, none⟩) hol (.int .i64 ((Cn : Int) + 1)))
            have EK := Lib.hid (e3.far (p := ⟨lb, i * 14 + 13, none⟩) hgo (.int .i64 ((Cn : Int) + 1)))
            have EB := Lib.hid (e4.setCell (p := ⟨lb, i * 14 + 13, none⟩) hlw (.int .i64 ((Cn : Int) + 1)))
            clear e1 e2 e3 e4 hCn
            go_wp2
            go_roundw
            case rel => first | exact ⟨k + 1, by omega, by go_num, by rw [HN.out]; exact EN.out, EO.out, EK.out, EB.out⟩ | ((repeat apply Exists.intro); exact ⟨⟨k + 1, by omega, by go_num, by rw [HN.out]; exact EN.out, EO.out, EK.out, EB.out⟩, rfl⟩)
            case measure => simp [intOf]; omega
          · have HN := Lib.hid (show cnt S i (k + 1) = cnt S i k from by rw [HCN.out, if_neg (by rw [HOL.out]; simpa using hlt2)])
            refine wp_region_ext (by kernel_rfl) (by kernel_rfl) ?_
            repeat (go_big_quiet_step (fail))
            refine wpQuiet_nil ?_
            rintro _ ⟨ex, rfl⟩
            obtain ⟨e1, e2, e3, e4⟩ := HEX.out ex
            have E1 := Lib.hid e1
            clear e1
            go_wp2
            go_roundw
            case rel => first | exact ⟨k + 1, by omega, by go_num, by rw [HN.out]; exact E1.out, e2, e3, e4⟩ | ((repeat apply Exists.intro); exact ⟨⟨k + 1, by omega, by go_num, by rw [HN.out]; exact E1.out, e2, e3, e4⟩, rfl⟩)
            case measure => simp [intOf]; omega
        · obtain rfl : k = 16 := by omega
          have c3 : wr.cell? ⟨lb, i * 14 + 3, none⟩ = some (.bool (S i).used) := by
            have := HP.out.ctx (o := i * 14) hlt 3 (by decide) (by omega)
            rw [upd_same] at this
            exact this
          have c12 : wr.cell? ⟨lb, i * 14 + 12, none⟩ = some (.bool (S i).need) := by
            have := HP.out.ctx (o := i * 14) hlt 12 (by decide) (by omega)
            rw [upd_same] at this
            exact this
          have f12 := HP.out.fr (i * 14 + 12)
          obtain ⟨ui, hui⟩ : ∃ ui, ui = (S i).used := ⟨_, rfl⟩
          rw [← hui] at c3
          have HUI := Lib.hid hui
          clear hui
          cases ui
          · have EN := Lib.hid (show PB (wr.setCell ⟨lb, i * 14 + 12, none⟩ (.bool false)) lb (plainTo S (i + 1)) from by
              have := HP.out.setNeed (o := i * 14) hlt (by omega) false
              rw [upd_upd, upd_same] at this
              rw [← plainTo_next]
              have e : plainX S i = { S i with turn := (cnt S i 16 : Nat), need := false } := by unfold plainX; rw [← HUI.out]; rfl
              rw [e]; exact this)
            have EO := Lib.hid (HOO.out.far (p := ⟨lb, i * 14 + 12, none⟩) hol (.bool false))
            have EB := Lib.hid (HBB.out.setCell (p := ⟨lb, i * 14 + 12, none⟩) hlw (.bool false))
            go_wp2
            go_roundw
            case rel => first | exact ⟨i + 1, by omega, by go_num, EN.out, EO.out, EB.out⟩ | ((repeat apply Exists.intro); exact ⟨⟨i + 1, by omega, by go_num, EN.out, EO.out, EB.out⟩, rfl⟩)
            case measure => simp [intOf]; omega
          · have EN := Lib.hid (show PB wr lb (plainTo S (i + 1)) from by
              rw [← plainTo_next]
              have e : plainX S i = { S i with turn := (cnt S i 16 : Nat) } := by unfold plainX; rw [← HUI.out]; rfl
              rw [e]; exact HP.out)
            go_wp2
            go_roundw
            case rel => first | exact ⟨i + 1, by omega, by go_num, EN.out, HOO.out, HBB.out⟩ | ((repeat apply Exists.intro); exact ⟨⟨i + 1, by omega, by go_num, EN.out, HOO.out, HBB.out⟩, rfl⟩)
            case measure => simp [intOf]; omega
    · obtain rfl : i = 16 := by omega
      obtain ⟨L2, hL2⟩ : ∃ L2, L2 = caArr (plainTo S 16) := ⟨_, rfl⟩
      have HL2 := Lib.hid hL2
      have R2 := Lib.hid (show Blk wr lb 89 L2 from by rw [hL2]; exact PR.out)
      have HSZ2 : Hid ((Try.prog.info? 89).map (·.size) = some L2.size) := Lib.hid (by rw [hL2, caArr_size]; exact size89)
      have HS22 : Hid (Z.size = L2.size) := Lib.hid (by rw [hL2, HZ3.out, caArr_size])
      have HO2 : Hid (L2.all (·.oneCell') = true) := Lib.hid (by rw [hL2]; exact ca_one _)
      clear hL2
      go_wp2_with (first
        | (refine wpList_load_row rfl _ _ rfl lb rfl 89 L2 (0, 0) _ R2.out Try.underlying89 rfl HSZ2.out ?_)
        | (refine wpList_store_row rfl _ _ _ rfl w.heap.size L2 rfl rfl 89 Z OR.out HSZ2.out HS22.out HO2.out ?_))
      refine bodyPost_ret (v := .agg L2) (results_cell_row (g := w.heap.size) (t := 89) (fr := (0, 0)) Try.results72 _ _ L2 _ rfl (Blk.setRow OR.out) Try.underlying89 rfl HSZ2.out) rfl ⟨by rw [HL2.out, plainTo_all], belowRow BR.out (Nat.le_refl _) _⟩
end Go.Proofs.Ytejadoadpgcpjaa
namespace Go.Proofs.Ytejadoadpgcpjaa
open Go.RowKit

def rxEq (a b : Rx) : Bool := (a.hops == b.hops) && (a.ident == b.ident) && (a.time == b.time) && (a.used == b.used) && (a.f0 == b.f0) && (a.f1 == b.f1) && (a.f2 == b.f2) && (a.f3 == b.f3) && (a.f4 == b.f4) && (a.began == b.began) && (a.gen == b.gen) && (a.step == b.step) && (a.need == b.need) && (a.turn == b.turn)
theorem rxEq_iff (a b : Rx) : rxEq a b = true ↔ a = b := by
  unfold rxEq
  simp only [Bool.and_eq_true, beq_iff_eq]
  constructor
  · rintro ⟨⟨⟨⟨⟨⟨⟨⟨⟨⟨⟨⟨⟨h0, h1⟩, h2⟩, h3⟩, h4⟩, h5⟩, h6⟩, h7⟩, h8⟩, h9⟩, h10⟩, h11⟩, h12⟩, h13⟩
    cases a; cases b
    simp_all
  · rintro rfl
    simp
set_option maxHeartbeats 4000000 in
theorem ctx_eq (a b : Rx) (d : Nat) (w : World) : (Op.equalIn (d + 3) 88 (.agg #[.int .i64 a.hops, .int .i64 a.ident, .int .i64 a.time, .bool a.used, .int .i64 a.f0, .int .i64 a.f1, .int .i64 a.f2, .int .i64 a.f3, .int .i64 a.f4, .bool a.began, .int .u8 a.gen, .int .i64 a.step, .bool a.need, .int .i64 a.turn]) (.agg #[.int .i64 b.hops, .int .i64 b.ident, .int .i64 b.time, .bool b.used, .int .i64 b.f0, .int .i64 b.f1, .int .i64 b.f2, .int .i64 b.f3, .int .i64 b.f4, .bool b.began, .int .u8 b.gen, .int .i64 b.step, .bool b.need, .int .i64 b.turn])).run Try.prog w = .ok (rxEq a b) w := by
  unfold rxEq
  by_cases h0 : a.hops = b.hops
  rotate_left
  · simp [go_sem, h0]
  by_cases h1 : a.ident = b.ident
  rotate_left
  · simp [go_sem, h0, h1]
  by_cases h2 : a.time = b.time
  rotate_left
  · simp [go_sem, h0, h1, h2]
  by_cases h3 : a.used = b.used
  rotate_left
  · simp [go_sem, h0, h1, h2, h3]
  by_cases h4 : a.f0 = b.f0
  rotate_left
  · simp [go_sem, h0, h1, h2, h3, h4]
  by_cases h5 : a.f1 = b.f1
  rotate_left
  · simp [go_sem, h0, h1, h2, h3, h4, h5]
  by_cases h6 : a.f2 = b.f2
  rotate_left
  · simp [go_sem, h0, h1, h2, h3, h4, h5, h6]
  by_cases h7 : a.f3 = b.f3
  rotate_left
  · simp [go_sem, h0, h1, h2, h3, h4, h5, h6, h7]
  by_cases h8 : a.f4 = b.f4
  rotate_left
  · simp [go_sem, h0, h1, h2, h3, h4, h5, h6, h7, h8]
  by_cases h9 : a.began = b.began
  rotate_left
  · simp [go_sem, h0, h1, h2, h3, h4, h5, h6, h7, h8, h9]
  by_cases h10 : a.gen = b.gen
  rotate_left
  · simp [go_sem, h0, h1, h2, h3, h4, h5, h6, h7, h8, h9, h10]
  by_cases h11 : a.step = b.step
  rotate_left
  · simp [go_sem, h0, h1, h2, h3, h4, h5, h6, h7, h8, h9, h10, h11]
  by_cases h12 : a.need = b.need
  rotate_left
  · simp [go_sem, h0, h1, h2, h3, h4, h5, h6, h7, h8, h9, h10, h11, h12]
  by_cases h13 : a.turn = b.turn
  rotate_left
  · simp [go_sem, h0, h1, h2, h3, h4, h5, h6, h7, h8, h9, h10, h11, h12, h13]
  simp [go_sem, h0, h1, h2, h3, h4, h5, h6, h7, h8, h9, h10, h11, h12, h13]
/-- are the first contexts from k on, d of them, equal? -/
def casEq (S T : Nat → Rx) : List Nat → Bool
  | [] => true
  | i :: is => rxEq (S i) (T i) && casEq S T is
theorem casEq_iff (S T : Nat → Rx) : ∀ is : List Nat, casEq S T is = true ↔ ∀ i, i ∈ is → S i = T i
  | [] => by simp [casEq]
  | j :: is => by
    unfold casEq
    rw [Bool.and_eq_true, rxEq_iff, casEq_iff S T is]
    simp
theorem ca_partrun (S : Nat → Rx) (i : Nat) (hi : i < 16) (w : World) : (part 88 (caArr S) (i * 14)).run Try.prog w = .ok (.agg (S i).cells.toArray) w := by
  have hu := Try.underlying88
  obtain ⟨q, hq, hqs⟩ : ∃ q, Try.prog.info? 88 = some q ∧ q.size = 14 := by
    have hs := size88
    cases hq : Try.prog.info? 88 with
    | none => rw [hq] at hs; cases hs
    | some q => rw [hq] at hs; exact ⟨q, rfl, by simpa using hs⟩
  have hp := ca_part S i hi
  simp [part, Sem.run_bind, sizeOf, typeInfo, hq, hqs, hp]
  rfl
theorem items_eq (S T : Nat → Rx) (d : Nat) : ∀ (is : List Nat) (_ : ∀ i, i ∈ is → i < 16) (w : World), (Op.eqItems (d + 3) 88 14 (caArr S) (caArr T) is).run Try.prog w = .ok (casEq S T is) w
  | [], _, w => by simp [Op.eqItems, casEq]
  | i :: is, h, w => by
    simp only [Op.eqItems, Sem.run_bind, ca_partrun S i (h i (by simp)) w, ca_partrun T i (h i (by simp)) w, Result.andThen_ok]
    have e := ctx_eq (S i) (T i) d w
    rw [show (Op.equalIn (d + 3) 88 (.agg (S i).cells.toArray) (.agg (T i).cells.toArray)).run Try.prog w = .ok (rxEq (S i) (T i)) w from e]
    simp only [Result.andThen_ok]
    unfold casEq
    cases hr : rxEq (S i) (T i)
    · simp
    · have := items_eq S T d is (fun j hj => h j (by simp [hj])) w
      simp [this]
theorem cells88 : Try.prog.cellsOf 88 = 14 := by kernel_rfl
theorem ca_eql (S T : Nat → Rx) (w : World) : (binOp .eql 89 (.agg (caArr S)) (.agg (caArr T))).run Try.prog w = .ok (.bool (casEq S T (List.range 16))) w := by
  obtain ⟨q, hq⟩ : ∃ q, Try.prog.info? 88 = some q := by
    have hs := size88
    cases hq : Try.prog.info? 88 with
    | none => rw [hq] at hs; cases hs
    | some q => exact ⟨q, rfl⟩
  rw [run_eql_struct, run_equalIn_array w 9999 (caArr S) (caArr T) Try.underlying89 hq, cells88, items_eq S T 9996 (List.range 16) (fun i hi => by simpa using hi) w]
  rfl
end Go.Proofs.Ytejadoadpgcpjaa
namespace Go.Proofs.Ytejadoadpgcpjaa
open Go.RowKit

attribute [local go_sem ↓] Go.wp_at_zero Go.wp_at_succ

def sameS (S T : Nat → Rx) : Bool := casEq (plainS S) (plainS T) (List.range 16)
set_option maxRecDepth 100000 in
theorem same_ok (ga gb : Nat) (S S' : Nat → Rx) (T T' : Int) (w : World) (ha : CB w ga true S T) (hb : CB w gb true S' T') :
    Calls Try.prog 43 #[.pointer (some ⟨ga, 0, none⟩), .pointer (some ⟨gb, 0, none⟩)] w fun e w' => e = .returned (.bool (sameS S S')) ∧ Below w.heap.size w w' := by
  have HA := Lib.hid (none_ok ga true S T w ha)
  have HB := Lib.hid (none_ok gb true S' T' w hb)
  have PA := Lib.hid (plain_ok ga S T w ha)
  have PB' := Lib.hid (fun (W : World) (hW : Below w.heap.size w W) => plain_ok gb S' T' W (hb.below hW hb.lt))
  have heq := fun W => ca_eql (plainS S) (plainS S') W
  obtain ⟨LA, hLA⟩ : ∃ LA, LA = caArr (plainS S) := ⟨_, rfl⟩
  obtain ⟨LB, hLB⟩ : ∃ LB, LB = caArr (plainS S') := ⟨_, rfl⟩
  unfold sameS
  obtain ⟨r, hr⟩ : ∃ r, r = casEq (plainS S) (plainS S') (List.range 16) := ⟨_, rfl⟩
  rw [← hLA] at PA heq
  rw [← hLB] at PB' heq
  rw [← hr] at heq ⊢
  clear hLA hLB hr ha hb
  go_enter Try.func43, Try.ntmps43
  go_wp2_with (first
    | (go_at_call 62; ((with_reducible refine (HA.out).mono ?_); rintro e w1 ⟨rfl, rfl⟩))
    | (go_at_call 62; ((with_reducible refine (HB.out).mono ?_); rintro e w1 ⟨rfl, rfl⟩))
    | (go_at_call 72; ((with_reducible refine (PA.out).mono ?_); rintro e w2 ⟨rfl, hB2⟩; have B2 := Lib.hid hB2; clear hB2))
    | (go_at_call 72; ((with_reducible refine (PB'.out w2 B2.out).mono ?_); rintro e w3 ⟨rfl, hB3⟩; have B3 := Lib.hid hB3; clear hB3)))
  go_ret
  exact ⟨rfl, below_step B2.out B3.out⟩
end Go.Proofs.Ytejadoadpgcpjaa
namespace Go.Proofs.Ytejadoadpgcpjaa
open Go.RowKit

attribute [local go_sem ↓] Go.wp_at_zero Go.wp_at_succ

def olderC (C : Nat → Cx) (i k : Nat) : Bool := (C i).used && ((C k).used && decide ((C k).turn < (C i).turn))
def cntC (C : Nat → Cx) (i : Nat) : Nat → Nat
  | 0 => 0
  | k + 1 => if olderC C i k then cntC C i k + 1 else cntC C i k
theorem cntC_le (C : Nat → Cx) (i : Nat) : ∀ k, cntC C i k ≤ k
  | 0 => Nat.le_refl _
  | k + 1 => by
    unfold cntC
    have := cntC_le C i k
    split <;> omega
def turnArr (n : Nat → Nat) : Array Value := Array.ofFn (n := 16) fun i => Value.int .i64 (n i.1 : Nat)
theorem turnArr_size (n : Nat → Nat) : (turnArr n).size = 16 := by simp [turnArr]
theorem turnArr_at (n : Nat → Nat) (j : Nat) (hj : j < 16) : (turnArr n)[j]? = some (.int .i64 (n j : Nat)) := by
  unfold turnArr; simp [hj]
def cntTo (C : Nat → Cx) (i k : Nat) : Nat → Nat := fun j => if j < i then cntC C j 16 else if j = i then cntC C i k else 0
theorem turnArr_ext {n m : Nat → Nat} (h : ∀ j, j < 16 → n j = m j) : turnArr n = turnArr m := by
  apply Array.ext_getElem?
  intro j
  by_cases hj : j < 16
  · rw [turnArr_at _ _ hj, turnArr_at _ _ hj, h j hj]
  · rw [Array.getElem?_eq_none (by rw [turnArr_size]; omega), Array.getElem?_eq_none (by rw [turnArr_size]; omega)]
theorem turnArr_set (n m : Nat → Nat) (i : Nat) (hm : ∀ j, j < 16 → m j = if j = i then m i else n j) : (turnArr n).setIfInBounds i (.int .i64 (m i : Nat)) = turnArr m := by
  apply Array.ext_getElem?
  intro j
  rw [Array.getElem?_setIfInBounds]
  by_cases hj : j < 16
  · have := hm j hj
    by_cases hi : i = j
    · subst hi; rw [if_pos rfl, if_pos (by rw [turnArr_size]; exact hj), turnArr_at _ _ hj]
    · rw [if_neg hi, turnArr_at _ _ hj, turnArr_at _ _ hj, this, if_neg (fun e => hi e.symm)]
  · rw [Array.getElem?_eq_none (by rw [turnArr_size]; omega), Array.getElem?_eq_none (by rw [turnArr_size]; omega)]
    split
    · rw [if_neg (by rw [turnArr_size]; omega)]
    · rfl
theorem cntTo_next (C : Nat → Cx) (i : Nat) : turnArr (cntTo C i 16) = turnArr (cntTo C (i + 1) 0) := by
  refine turnArr_ext (fun j hj => ?_)
  unfold cntTo
  by_cases h : j < i
  · rw [if_pos h, if_pos (by omega)]
  · by_cases h2 : j = i
    · subst h2; rw [if_neg h, if_pos rfl, if_pos (by omega)]
    · rw [if_neg h, if_neg h2, if_neg (by omega)]
      by_cases h3 : j = i + 1
      · subst h3; rw [if_pos rfl]; rfl
      · rw [if_neg h3]
theorem cntTo_same (C : Nat → Cx) (i k : Nat) : cntTo C i k i = cntC C i k := by unfold cntTo; rw [if_neg (by omega), if_pos rfl]
theorem cntTo_zero (C : Nat → Cx) : turnArr (cntTo C 0 0) = turnArr (fun _ => 0) := by
  refine turnArr_ext (fun j hj => ?_)
  unfold cntTo
  rw [if_neg (by omega)]
  split
  · rfl
  · rfl
theorem zeroTurn : (#[.int .i64 0, .int .i64 0, .int .i64 0, .int .i64 0, .int .i64 0, .int .i64 0, .int .i64 0, .int .i64 0, .int .i64 0, .int .i64 0, .int .i64 0, .int .i64 0, .int .i64 0, .int .i64 0, .int .i64 0, .int .i64 0] : Array Value) = turnArr (fun _ => 0) := by kernel_rfl
theorem size136 : (Try.prog.info? 136).map (·.size) = some 16 := by kernel_rfl
def TB (w : World) (g : Nat) (n : Nat → Nat) : Prop := Blk w g 136 (turnArr n)

set_option maxRecDepth 100000 in
set_option maxHeartbeats 6400000 in
theorem turns_ok (C : Nat → Cx) (N : Int) (w : World) :
    Calls Try.prog 73 #[.agg (rcArr C N)] w fun e w' => e = .returned (.agg (turnArr (fun i => cntC C i 16))) ∧ Below w.heap.size w w' := by
  go_enter Try.func73, Try.ntmps73
  go_wp2
  simp only [zeroTurn]
  obtain ⟨g, hg⟩ : ∃ g, g = w.heap.size := ⟨_, rfl⟩
  obtain ⟨Z, hZ⟩ : ∃ Z, Z = turnArr (fun _ => 0) := ⟨_, rfl⟩
  have hzs : Z.size = 16 := by rw [hZ, turnArr_size]
  have HZS := Lib.hid hzs
  obtain ⟨rb, hrb⟩ : ∃ rb, rb = g + 1 := ⟨_, rfl⟩
  obtain ⟨ob, hob⟩ : ∃ ob, ob = g + 1 + 1 := ⟨_, rfl⟩
  obtain ⟨W1, hW1⟩ : ∃ W1, W1 = ((w.alloc (.cells (rcArr C N) 70)).alloc (.cells Z 136)).alloc (.cells Z 136) := ⟨_, rfl⟩
  have G1 := Lib.hid (show RB W1 g C N from by rw [hW1, hg]; exact ((Blk.new _ _ _).alloc _).alloc _)
  have R1 := Lib.hid (show Blk W1 rb 136 Z from by rw [hW1, hrb, hg]; exact (blk_at _ _ _ _ (by simp)).alloc _)
  have O1 := Lib.hid (show TB W1 ob (cntTo C 0 0) from by unfold TB; rw [cntTo_zero, ← hZ, hW1, hob, hg]; exact blk_at _ _ _ _ (by simp))
  have B1 := Lib.hid (show Below w.heap.size w W1 from by rw [hW1]; exact (((Below.refl _ w).alloc (Nat.le_refl _) _).alloc (by simp) _).alloc (by simp; omega) _)
  have hgo : g ≠ ob := by omega
  have hro : rb ≠ ob := by omega
  have hlw : w.heap.size ≤ ob := by omega
  have hlr : w.heap.size ≤ rb := by omega
  rw [← hZ, ← hW1, ← hg, ← hob, ← hrb]
  clear hW1 hg hob hrb hZ
  go_loopw [4] (fun v wr => ∃ i : Nat, i ≤ 16 ∧ v = .int .i64 i ∧ RB wr g C N ∧ Blk wr rb 136 Z ∧ TB wr ob (cntTo C i 0) ∧ Below w.heap.size w wr) (fun v _ => 16 - (intOf v).toNat)
  case atStart => exact ⟨0, by omega, rfl, G1.out, R1.out, O1.out, B1.out⟩
  case round =>
    obtain ⟨i, hi, rfl, hG, hR, hO, hB⟩ := hrel
    have GR := Lib.hid hG
    have RR := Lib.hid hR
    have OR := Lib.hid hO
    have BR := Lib.hid hB
    clear hG hR hO hB
    by_cases hlt : i < 16
    · have i0 : (0 : Int) ≤ (i : Int) := by omega
      have i1 : (i : Int) < 16 := by omega
      go_wp2
      go_loopw [5] (fun v wq => ∃ k : Nat, k ≤ 16 ∧ v = .int .i64 k ∧ RB wq g C N ∧ Blk wq rb 136 Z ∧ TB wq ob (cntTo C i k) ∧ Below w.heap.size w wq) (fun v _ => 16 - (intOf v).toNat)
      case atStart => exact ⟨0, by omega, rfl, GR.out, RR.out, OR.out, BR.out⟩
      case round =>
        obtain ⟨k, hk, rfl, hG, hR, hO, hB⟩ := hrel
        have hck := cntC_le C i k
        have HG := Lib.hid hG
        have HR := Lib.hid hR
        have HO := Lib.hid hO
        have HB := Lib.hid hB
        clear hG hR hO hB
        by_cases hk16 : k < 16
        · have k0 : (0 : Int) ≤ (k : Int) := by omega
          have k1 : (k : Int) < 16 := by omega
          have xi0 : wr.cell? ⟨g, i * 14, none⟩ = some (.bool (C i).used) := HG.out.ctx (o := i * 14) hlt 0 (by decide) (by omega)
          have xi13 : wr.cell? ⟨g, i * 14 + 13, none⟩ = some (.int .i64 (C i).turn) := HG.out.ctx (o := i * 14) hlt 13 (by decide) (by omega)
          have xk0 : wr.cell? ⟨g, k * 14, none⟩ = some (.bool (C k).used) := HG.out.ctx (o := k * 14) hk16 0 (by decide) (by omega)
          have xk13 : wr.cell? ⟨g, k * 14 + 13, none⟩ = some (.int .i64 (C k).turn) := HG.out.ctx (o := k * 14) hk16 13 (by decide) (by omega)
          have HCN := Lib.hid (show cntC C i (k + 1) = if olderC C i k then cntC C i k + 1 else cntC C i k from rfl)
          have HOL := Lib.hid (show olderC C i k = ((C i).used && ((C k).used && decide ((C k).turn < (C i).turn))) from rfl)
          have gl := HG.out.lt
          have y1 : ∀ e : ExtW wr, e.v.cell? ⟨g, i * 14, none⟩ = some (.bool (C i).used) := fun e => e.cell xi0 gl
          have y2 : ∀ e : ExtW wr, e.v.cell? ⟨g, i * 14 + 13, none⟩ = some (.int .i64 (C i).turn) := fun e => e.cell xi13 gl
          have y3 : ∀ e : ExtW wr, e.v.cell? ⟨g, k * 14, none⟩ = some (.bool (C k).used) := fun e => e.cell xk0 gl
          have y4 : ∀ e : ExtW wr, e.v.cell? ⟨g, k * 14 + 13, none⟩ = some (.int .i64 (C k).turn) := fun e => e.cell xk13 gl
          have HEX := Lib.hid (fun e : ExtW wr => (⟨HG.out.below e.h HG.out.lt, HR.out.below e.h HR.out.lt, HO.out.below e.h HO.out.lt, below_step HB.out e.h⟩ : RB e.v g C N ∧ Blk e.v rb 136 Z ∧ TB e.v ob (cntTo C i k) ∧ Below w.heap.size w e.v))
          clear xi0 xi13 xk0 xk13
          obtain ⟨uk, huk⟩ : ∃ uk, uk = (C k).used := ⟨_, rfl⟩
          obtain ⟨ui, hui⟩ : ∃ ui, ui = (C i).used := ⟨_, rfl⟩
          rw [← huk] at y3 HOL
          rw [← hui] at y1 HOL
          clear huk hui
          cases ui
          · have HN := Lib.hid (show cntTo C i k = cntTo C i (k + 1) from by
              have e : cntC C i (k + 1) = cntC C i k := by rw [HCN.out, if_neg (by rw [HOL.out]; simp)]
              funext j; unfold cntTo; rw [e])
            go_upto_region 8 with (fail)
            refine wp_region_ext (by kernel_rfl) (by kernel_rfl) ?_
            repeat (go_big_quiet_step (fail))
            refine wpQuiet_nil ?_
            rintro _ ⟨ex, rfl⟩
            obtain ⟨e1, e2, e3, e4⟩ := HEX.out ex
            rw [HN.out] at e3
            have E3 := Lib.hid e3
            clear e3
            go_wp2
            go_roundw
            case rel => first | exact ⟨k + 1, by omega, by go_num, e1, e2, E3.out, e4⟩ | ((repeat apply Exists.intro); exact ⟨⟨k + 1, by omega, by go_num, e1, e2, E3.out, e4⟩, rfl⟩)
            case measure => simp [intOf]; omega
          cases uk
          · have HN := Lib.hid (show cntTo C i k = cntTo C i (k + 1) from by
              have e : cntC C i (k + 1) = cntC C i k := by rw [HCN.out, if_neg (by rw [HOL.out]; simp)]
              funext j; unfold cntTo; rw [e])
            go_upto_region 8 with (fail)
            refine wp_region_ext (by kernel_rfl) (by kernel_rfl) ?_
            repeat (go_big_quiet_step (fail))
            refine wpQuiet_nil ?_
            rintro _ ⟨ex, rfl⟩
            obtain ⟨e1, e2, e3, e4⟩ := HEX.out ex
            rw [HN.out] at e3
            have E3 := Lib.hid e3
            clear e3
            go_wp2
            go_roundw
            case rel => first | exact ⟨k + 1, by omega, by go_num, e1, e2, E3.out, e4⟩ | ((repeat apply Exists.intro); exact ⟨⟨k + 1, by omega, by go_num, e1, e2, E3.out, e4⟩, rfl⟩)
            case measure => simp [intOf]; omega
          by_cases hlt2 : (C k).turn < (C i).turn
          · have HN := Lib.hid (show cntC C i (k + 1) = cntC C i k + 1 from by rw [HCN.out, if_pos (by rw [HOL.out]; simpa using hlt2)])
            go_upto_region 8 with (fail)
            refine wp_region_ext (by kernel_rfl) (by kernel_rfl) ?_
            repeat (go_big_quiet_step (fail))
            refine wpQuiet_nil ?_
            rintro _ ⟨ex, rfl⟩
            obtain ⟨e1, e2, e3, e4⟩ := HEX.out ex
            obtain ⟨Cn, hCn⟩ : ∃ Cn, Cn = cntC C i k := ⟨_, rfl⟩
            rw [← hCn] at HN hck
            have cc : ex.v.cell? ⟨ob, i, none⟩ = some (.int .i64 (Cn : Nat)) := by
              have := (Blk.cell e3 i).trans (turnArr_at _ i hlt)
              rw [cntTo_same, ← hCn] at this
              exact this
            have ff : ex.v.frozen? ⟨ob, i, none⟩ = false := Blk.frozen e3 i
            have tw : IntKind.i64.wrap ((Cn : Int) + 1) = (Cn : Int) + 1 := IntWalk.i64_in _ (by omega)
            have EN := Lib.hid (show TB (ex.v.setCell ⟨ob, i, none⟩ (.int .i64 ((Cn : Int) + 1))) ob (cntTo C i (k + 1)) from by
              have h2 := Blk.set_ e3 i (.int .i64 ((Cn : Int) + 1))
              have e : (turnArr (cntTo C i k)).setIfInBounds i (.int .i64 ((Cn : Int) + 1)) = turnArr (cntTo C i (k + 1)) := by
                have h3 := turnArr_set (cntTo C i k) (cntTo C i (k + 1)) i (fun j _ => by
                  unfold cntTo
                  by_cases hj : j = i
                  · subst hj; simp
                  · rw [if_neg hj]; simp [hj])
                rw [cntTo_same, HN.out] at h3
                exact h3
              unfold TB
              rw [e] at h2
              exact h2)
            have EG := Lib.hid (e1.far (p := ⟨ob, i, none⟩) hgo (.int .i64 ((Cn : Int) + 1)))
            have ER := Lib.hid (e2.far (p := ⟨ob, i, none⟩) hro (.int .i64 ((Cn : Int) + 1)))
            have EB := Lib.hid (e4.setCell (p := ⟨ob, i, none⟩) hlw (.int .i64 ((Cn : Int) + 1)))
            clear e1 e2 e3 e4 hCn
            go_wp2
            go_roundw
            case rel => first | exact ⟨k + 1, by omega, by go_num, EG.out, ER.out, EN.out, EB.out⟩ | ((repeat apply Exists.intro); exact ⟨⟨k + 1, by omega, by go_num, EG.out, ER.out, EN.out, EB.out⟩, rfl⟩)
            case measure => simp [intOf]; omega
          · have HN := Lib.hid (show cntTo C i k = cntTo C i (k + 1) from by
              have e : cntC C i (k + 1) = cntC C i k := by rw [HCN.out, if_neg (by rw [HOL.out]; simpa using hlt2)]
              funext j; unfold cntTo; rw [e])
            go_upto_region 8 with (fail)
            refine wp_region_ext (by kernel_rfl) (by kernel_rfl) ?_
            repeat (go_big_quiet_step (fail))
            refine wpQuiet_nil ?_
            rintro _ ⟨ex, rfl⟩
            obtain ⟨e1, e2, e3, e4⟩ := HEX.out ex
            rw [HN.out] at e3
            have E3 := Lib.hid e3
            clear e3
            go_wp2
            go_roundw
            case rel => first | exact ⟨k + 1, by omega, by go_num, e1, e2, E3.out, e4⟩ | ((repeat apply Exists.intro); exact ⟨⟨k + 1, by omega, by go_num, e1, e2, E3.out, e4⟩, rfl⟩)
            case measure => simp [intOf]; omega
        · obtain rfl : k = 16 := by omega
          have EN := Lib.hid (show TB wr ob (cntTo C (i + 1) 0) from by have := HO.out; unfold TB at this ⊢; rw [← cntTo_next]; exact this)
          go_wp2
          go_roundw
          case rel => first | exact ⟨i + 1, by omega, by go_num, HG.out, HR.out, EN.out, HB.out⟩ | ((repeat apply Exists.intro); exact ⟨⟨i + 1, by omega, by go_num, HG.out, HR.out, EN.out, HB.out⟩, rfl⟩)
          case measure => simp [intOf]; omega
    · obtain rfl : i = 16 := by omega
      obtain ⟨L2, hL2⟩ : ∃ L2, L2 = turnArr (cntTo C 16 0) := ⟨_, rfl⟩
      have HL2 := Lib.hid (show L2 = turnArr (fun i => cntC C i 16) from by rw [hL2]; exact turnArr_ext (fun j hj => by unfold cntTo; rw [if_pos hj]))
      have R2 := Lib.hid (show Blk wr ob 136 L2 from by rw [hL2]; exact OR.out)
      have HSZ2 : Hid ((Try.prog.info? 136).map (·.size) = some L2.size) := Lib.hid (by rw [hL2, turnArr_size]; exact size136)
      have HS22 : Hid (Z.size = L2.size) := Lib.hid (by rw [hL2, HZS.out, turnArr_size])
      have HO2 : Hid (L2.all (·.oneCell') = true) := Lib.hid (by
        rw [hL2, Array.all_eq_true]
        intro j hj
        have hj2 : j < 16 := by rw [turnArr_size] at hj; exact hj
        have e := turnArr_at (cntTo C 16 0) j hj2
        rw [Array.getElem?_eq_getElem hj] at e
        rw [Option.some.inj e]; rfl)
      clear hL2
      go_wp2_with (first
        | (refine wpList_load_row rfl _ _ rfl ob rfl 136 L2 (0, 0) _ R2.out Try.underlying136 rfl HSZ2.out ?_)
        | (refine wpList_store_row rfl _ _ _ rfl rb L2 rfl rfl 136 Z RR.out HSZ2.out HS22.out HO2.out ?_))
      refine bodyPost_ret (v := .agg L2) (results_cell_row (g := rb) (t := 136) (fr := (0, 0)) Try.results73 _ _ L2 _ rfl (Blk.setRow RR.out) Try.underlying136 rfl HSZ2.out) rfl ⟨by rw [HL2.out], belowRow BR.out hlr _⟩
end Go.Proofs.Ytejadoadpgcpjaa
namespace Go.Proofs.Ytejadoadpgcpjaa
open Go.RowKit

def cxEq (a b : Cx) : Bool := (a.used == b.used) && (a.h0 == b.h0) && (a.h1 == b.h1) && (a.h2 == b.h2) && (a.h3 == b.h3) && (a.h4 == b.h4) && (a.h5 == b.h5) && (a.h6 == b.h6) && (a.h7 == b.h7) && (a.h8 == b.h8) && (a.gen == b.gen) && (a.step == b.step) && (a.need == b.need) && (a.turn == b.turn)
theorem cxEq_iff (a b : Cx) : cxEq a b = true ↔ a = b := by
  unfold cxEq
  simp only [Bool.and_eq_true, beq_iff_eq]
  constructor
  · rintro ⟨⟨⟨⟨⟨⟨⟨⟨⟨⟨⟨⟨⟨h0, h1⟩, h2⟩, h3⟩, h4⟩, h5⟩, h6⟩, h7⟩, h8⟩, h9⟩, h10⟩, h11⟩, h12⟩, h13⟩
    cases a; cases b
    simp_all
  · rintro rfl
    simp
set_option maxHeartbeats 4000000 in
theorem cx_eq (a b : Cx) (d : Nat) (w : World) : (Op.equalIn (d + 3) 67 (.agg #[.bool a.used, .int .i64 a.h0, .int .i64 a.h1, .int .i64 a.h2, .int .i64 a.h3, .int .i64 a.h4, .int .i64 a.h5, .int .i64 a.h6, .int .i64 a.h7, .int .i64 a.h8, .int .i64 a.gen, .int .i64 a.step, .bool a.need, .int .i64 a.turn]) (.agg #[.bool b.used, .int .i64 b.h0, .int .i64 b.h1, .int .i64 b.h2, .int .i64 b.h3, .int .i64 b.h4, .int .i64 b.h5, .int .i64 b.h6, .int .i64 b.h7, .int .i64 b.h8, .int .i64 b.gen, .int .i64 b.step, .bool b.need, .int .i64 b.turn])).run Try.prog w = .ok (cxEq a b) w := by
  unfold cxEq
  by_cases h0 : a.used = b.used
  rotate_left
  · simp [go_sem, h0]
  by_cases h1 : a.h0 = b.h0
  rotate_left
  · simp [go_sem, h0, h1]
  by_cases h2 : a.h1 = b.h1
  rotate_left
  · simp [go_sem, h0, h1, h2]
  by_cases h3 : a.h2 = b.h2
  rotate_left
  · simp [go_sem, h0, h1, h2, h3]
  by_cases h4 : a.h3 = b.h3
  rotate_left
  · simp [go_sem, h0, h1, h2, h3, h4]
  by_cases h5 : a.h4 = b.h4
  rotate_left
  · simp [go_sem, h0, h1, h2, h3, h4, h5]
  by_cases h6 : a.h5 = b.h5
  rotate_left
  · simp [go_sem, h0, h1, h2, h3, h4, h5, h6]
  by_cases h7 : a.h6 = b.h6
  rotate_left
  · simp [go_sem, h0, h1, h2, h3, h4, h5, h6, h7]
  by_cases h8 : a.h7 = b.h7
  rotate_left
  · simp [go_sem, h0, h1, h2, h3, h4, h5, h6, h7, h8]
  by_cases h9 : a.h8 = b.h8
  rotate_left
  · simp [go_sem, h0, h1, h2, h3, h4, h5, h6, h7, h8, h9]
  by_cases h10 : a.gen = b.gen
  rotate_left
  · simp [go_sem, h0, h1, h2, h3, h4, h5, h6, h7, h8, h9, h10]
  by_cases h11 : a.step = b.step
  rotate_left
  · simp [go_sem, h0, h1, h2, h3, h4, h5, h6, h7, h8, h9, h10, h11]
  by_cases h12 : a.need = b.need
  rotate_left
  · simp [go_sem, h0, h1, h2, h3, h4, h5, h6, h7, h8, h9, h10, h11, h12]
  by_cases h13 : a.turn = b.turn
  rotate_left
  · simp [go_sem, h0, h1, h2, h3, h4, h5, h6, h7, h8, h9, h10, h11, h12, h13]
  simp [go_sem, h0, h1, h2, h3, h4, h5, h6, h7, h8, h9, h10, h11, h12, h13]
def tnEq (n m : Nat → Nat) : List Nat → Bool
  | [] => true
  | i :: is => (n i == m i) && tnEq n m is
theorem tnEq_iff (n m : Nat → Nat) : ∀ is : List Nat, tnEq n m is = true ↔ ∀ i, i ∈ is → n i = m i
  | [] => by simp [tnEq]
  | j :: is => by
    unfold tnEq
    rw [Bool.and_eq_true, beq_iff_eq, tnEq_iff n m is]
    simp
theorem cx_neq (a b : Cx) (w : World) : (binOp .neq 67 (.agg #[.bool a.used, .int .i64 a.h0, .int .i64 a.h1, .int .i64 a.h2, .int .i64 a.h3, .int .i64 a.h4, .int .i64 a.h5, .int .i64 a.h6, .int .i64 a.h7, .int .i64 a.h8, .int .i64 a.gen, .int .i64 a.step, .bool a.need, .int .i64 a.turn]) (.agg #[.bool b.used, .int .i64 b.h0, .int .i64 b.h1, .int .i64 b.h2, .int .i64 b.h3, .int .i64 b.h4, .int .i64 b.h5, .int .i64 b.h6, .int .i64 b.h7, .int .i64 b.h8, .int .i64 b.gen, .int .i64 b.step, .bool b.need, .int .i64 b.turn])).run Try.prog w = .ok (.bool (!cxEq a b)) w := by
  have e := cx_eq a b 9997 w
  rw [run_neq_struct, e]
  rfl
theorem cells3 : Try.prog.cellsOf 3 = 1 := by kernel_rfl
theorem infoInt : ∃ q, Try.prog.info? 3 = some q ∧ q.size = 1 := by
  have hs : (Try.prog.info? 3).map (·.size) = some 1 := by kernel_rfl
  cases hq : Try.prog.info? 3 with
  | none => rw [hq] at hs; cases hs
  | some q => rw [hq] at hs; exact ⟨q, rfl, by simpa using hs⟩
theorem tn_part (n : Nat → Nat) (i : Nat) (hi : i < 16) (w : World) : (part 3 (turnArr n) (i * 1)).run Try.prog w = .ok (.int .i64 (n i : Nat)) w := by
  obtain ⟨q, hq, hqs⟩ := infoInt
  have h := turnArr_at n i hi
  simp [part, Sem.run_bind, sizeOf, typeInfo, hq, hqs, h]
theorem tn_items (n m : Nat → Nat) (d : Nat) : ∀ (is : List Nat) (_ : ∀ i, i ∈ is → i < 16) (w : World), (Op.eqItems (d + 1) 3 1 (turnArr n) (turnArr m) is).run Try.prog w = .ok (tnEq n m is) w
  | [], _, w => by simp [Op.eqItems, tnEq]
  | i :: is, h, w => by
    simp only [Op.eqItems, Sem.run_bind, tn_part n i (h i (by simp)) w, tn_part m i (h i (by simp)) w, Result.andThen_ok]
    have hr := tn_items n m d is (fun j hj => h j (by simp [hj])) w
    unfold tnEq
    by_cases he : n i = m i
    · simp [go_sem, he, hr]
    · have he2 : ¬ ((n i : Int) = (m i : Int)) := by omega
      simp [go_sem, he, he2]
theorem tn_eql (n m : Nat → Nat) (w : World) : (binOp .eql 136 (.agg (turnArr n)) (.agg (turnArr m))).run Try.prog w = .ok (.bool (tnEq n m (List.range 16))) w := by
  obtain ⟨q, hq, _⟩ := infoInt
  rw [run_eql_struct, run_equalIn_array w 9999 (turnArr n) (turnArr m) Try.underlying136 hq, cells3, tn_items n m 9998 (List.range 16) (fun i hi => by simpa using hi) w]
  rfl
end Go.Proofs.Ytejadoadpgcpjaa
namespace Go.Proofs.Ytejadoadpgcpjaa
open Go.RowKit

attribute [local go_sem ↓] Go.wp_at_zero Go.wp_at_succ

/-- a context without its turn and its length -/
def Cx.blank (c : Cx) : Cx := { c with h8 := 0, turn := 0 }
def cxAll (C D : Nat → Cx) : Nat → Bool
  | 0 => true
  | k + 1 => cxAll C D k && cxEq (C k).blank (D k).blank
def rsame (C D : Nat → Cx) : Bool := cxAll C D 16 && tnEq (fun i => cntC C i 16) (fun i => cntC D i 16) (List.range 16)
theorem cxAll_step {C D : Nat → Cx} {k : Nat} (h : cxAll C D k = true) (h2 : cxEq (C k).blank (D k).blank = true) : cxAll C D (k + 1) = true := by
  unfold cxAll; rw [h, h2]; rfl
theorem cxAll_stop {C D : Nat → Cx} {k : Nat} (hk : cxEq (C k).blank (D k).blank = false) : ∀ n, k < n → cxAll C D n = false
  | 0, h => by omega
  | n + 1, h => by
    unfold cxAll
    by_cases e : n = k
    · subst e; rw [hk, Bool.and_false]
    · rw [cxAll_stop hk n (by omega), Bool.false_and]
theorem rsame_iff (C D : Nat → Cx) : rsame C D = true ↔ (∀ i, i < 16 → (C i).blank = (D i).blank) ∧ (∀ i, i < 16 → cntC C i 16 = cntC D i 16) := by
  have key : ∀ n, cxAll C D n = true ↔ ∀ i, i < n → (C i).blank = (D i).blank := by
    intro n
    induction n with
    | zero => simp [cxAll]
    | succ n ih =>
      unfold cxAll
      rw [Bool.and_eq_true, ih, cxEq_iff]
      constructor
      · rintro ⟨h1, h2⟩ i hi
        by_cases e : i = n
        · subst e; exact h2
        · exact h1 i (by omega)
      · intro h
        exact ⟨fun i hi => h i (by omega), h n (by omega)⟩
  unfold rsame
  rw [Bool.and_eq_true, key, tnEq_iff]
  simp
end Go.Proofs.Ytejadoadpgcpjaa
namespace Go.Proofs.Ytejadoadpgcpjaa
open Go.RowKit

attribute [local go_sem ↓] Go.wp_at_zero Go.wp_at_succ

def Two (B : Nat) (w0 : World) (p q : List Value) (vx vy : Value) (W : World) : Prop :=
  ∃ x y : Nat, vx = .pointer (some ⟨x, 0, none⟩) ∧ vy = .pointer (some ⟨y, 0, none⟩) ∧ x ≠ y ∧ B ≤ x ∧ B ≤ y ∧ Blk W x 67 p.toArray ∧ Blk W y 67 q.toArray ∧ Below B w0 W
theorem tn_equal (n m : Nat → Nat) (w : World) : (Op.equalIn 10000 136 (.agg (turnArr n)) (.agg (turnArr m))).run Try.prog w = .ok (tnEq n m (List.range 16)) w := by
  obtain ⟨q, hq, _⟩ := infoInt
  rw [run_equalIn_array w 9999 (turnArr n) (turnArr m) Try.underlying136 hq, cells3, tn_items n m 9998 (List.range 16) (fun i hi => by simpa using hi) w]
theorem cx_len (c : Cx) : c.cells.length = 14 := rfl
theorem blankCells (c : Cx) : ((c.cells.toArray.setIfInBounds 13 (.int .i64 0)).setIfInBounds 9 (.int .i64 0)) = c.blank.cells.toArray := rfl

set_option maxRecDepth 100000 in
set_option maxHeartbeats 6400000 in
theorem rsame_ok (C D : Nat → Cx) (N M : Int) (w : World) :
    Calls Try.prog 44 #[.agg (rcArr C N), .agg (rcArr D M)] w fun e w' => e = .returned (.bool (rsame C D)) ∧ Below w.heap.size w w' := by
  obtain ⟨LA, hLA⟩ : ∃ LA : List Value, LA = (rcArr C N).toList := ⟨_, rfl⟩
  obtain ⟨LB, hLB⟩ : ∃ LB : List Value, LB = (rcArr D M).toList := ⟨_, rfl⟩
  have hLAa : rcArr C N = LA.toArray := by rw [hLA]
  have hLBa : rcArr D M = LB.toArray := by rw [hLB]
  have hla : LA.length = 225 := by rw [hLA, Array.length_toList, rcArr_size]
  have hlb : LB.length = 225 := by rw [hLB, Array.length_toList, rcArr_size]
  have HIA : Hid ((Try.prog.info? 70).map (·.size) = some LA.length) := Lib.hid (by rw [hla]; exact size70)
  have HIB : Hid ((Try.prog.info? 70).map (·.size) = some LB.length) := Lib.hid (by rw [hlb]; exact size70)
  have HLA := Lib.hid hLAa
  have HLB := Lib.hid hLBa
  have HTA := Lib.hid (fun W => turns_ok C N W)
  have HTB := Lib.hid (fun W => turns_ok D M W)
  rw [hLAa] at HTA ⊢
  rw [hLBa] at HTB ⊢
  clear hLA hLB hLAa hLBa hla hlb
  obtain ⟨A, hA⟩ : ∃ A, A = turnArr (fun i => cntC C i 16) := ⟨_, rfl⟩
  obtain ⟨A2, hA2⟩ : ∃ A2, A2 = turnArr (fun i => cntC D i 16) := ⟨_, rfl⟩
  obtain ⟨tq, htq⟩ : ∃ tq, tq = tnEq (fun i => cntC C i 16) (fun i => cntC D i 16) (List.range 16) := ⟨_, rfl⟩
  have HTQ := Lib.hid (show ∀ W : World, (Op.equalIn 10000 136 (.agg A) (.agg A2)).run Try.prog W = .ok tq W from fun W => by rw [hA, hA2, htq]; exact tn_equal _ _ W)
  rw [← hA] at HTA
  rw [← hA2] at HTB
  have HRS := Lib.hid (show rsame C D = (cxAll C D 16 && tq) from by rw [htq]; rfl)
  clear hA hA2 htq
  have hu67 := Try.underlying67
  have hs67 := size67
  have hu70 := Try.underlying70
  have HU67 := Lib.hid hu67
  have HS67 := Lib.hid hs67
  have HU70 := Lib.hid hu70
  clear hu67 hs67 hu70
  go_enter Try.func44, Try.ntmps44
  go_wp2
  obtain ⟨ga, hga⟩ : ∃ ga, ga = w.heap.size := ⟨_, rfl⟩
  obtain ⟨gb, hgb⟩ : ∃ gb, gb = ga + 1 := ⟨_, rfl⟩
  obtain ⟨W1, hW1⟩ : ∃ W1, W1 = (w.alloc (.cells LA.toArray 70)).alloc (.cells LB.toArray 70) := ⟨_, rfl⟩
  have G1 := Lib.hid (show RB W1 ga C N from by unfold RB; rw [HLA.out, hW1, hga]; exact (Blk.new _ _ _).alloc _)
  have H1 := Lib.hid (show RB W1 gb D M from by unfold RB; rw [HLB.out, hW1, hgb, hga]; exact blk_at _ _ _ _ (by simp))
  have B1 := Lib.hid (show Below ga w W1 from by rw [hW1, hga]; exact ((Below.refl _ w).alloc (Nat.le_refl _) _).alloc (by simp) _)
  have HGA := Lib.hid hga
  rw [← hW1, ← hga, ← hgb]
  clear hW1 hgb hga
  go_loopw [5] (fun v wr => ∃ i : Nat, i ≤ 16 ∧ v = .int .i64 i ∧ cxAll C D i = true ∧ RB wr ga C N ∧ RB wr gb D M ∧ Below ga w wr) (fun v _ => 16 - (intOf v).toNat)
  case atStart => exact ⟨0, by omega, rfl, rfl, G1.out, H1.out, B1.out⟩
  case round =>
    obtain ⟨i, hi, rfl, hall, hG, hH, hB⟩ := hrel
    have GR := Lib.hid hG
    have HR := Lib.hid hH
    have BR := Lib.hid hB
    have HALL := Lib.hid hall
    clear hG hH hB hall
    by_cases hlt : i < 16
    · have i0 : (0 : Int) ≤ (i : Int) := by omega
      have i1 : (i : Int) < 16 := by omega
      obtain ⟨PX, hPX⟩ : ∃ PX : List Value, PX = (C i).cells := ⟨_, rfl⟩
      obtain ⟨PY, hPY⟩ : ∃ PY : List Value, PY = (D i).cells := ⟨_, rfl⟩
      have hpx : PX.length = 14 := by rw [hPX]; rfl
      have hpy : PY.length = 14 := by rw [hPY]; rfl
      obtain ⟨Bn, hBn⟩ : ∃ Bn, Bn = wr.heap.size := ⟨_, rfl⟩
      have hgal : ga < Bn := by rw [hBn]; exact GR.out.lt
      have hgbl : gb < Bn := by rw [hBn]; exact HR.out.lt
      have HXR := Lib.hid (fun (W : World) (hW : Below Bn wr W) => (show W.rangeAt ga (i * 14) PX from fun j v hv => by
        have hj : j < 14 := by have := (List.getElem?_eq_some_iff.1 hv).1; omega
        rw [hPX] at hv
        have h1 := (GR.out.below hW hgal).ctx (o := i * 14) hlt j hj (by omega)
        rw [h1, ← Cx.cell_at _ _ hj]; exact hv))
      have HYR := Lib.hid (fun (W : World) (hW : Below Bn wr W) => (show W.rangeAt gb (i * 14) PY from fun j v hv => by
        have hj : j < 14 := by have := (List.getElem?_eq_some_iff.1 hv).1; omega
        rw [hPY] at hv
        have h1 := (HR.out.below hW hgbl).ctx (o := i * 14) hlt j hj (by omega)
        rw [h1, ← Cx.cell_at _ _ hj]; exact hv))
      have HSX : Hid ((Try.prog.info? 67).map (·.size) = some PX.length) := Lib.hid (by rw [hpx]; exact HS67.out)
      have HSY : Hid ((Try.prog.info? 67).map (·.size) = some PY.length) := Lib.hid (by rw [hpy]; exact HS67.out)
      have HOX : Hid (∀ v ∈ PX, v.oneCell' = true) := Lib.hid (by rw [hPX]; exact cx_one _)
      have HOY : Hid (∀ v ∈ PY, v.oneCell' = true) := Lib.hid (by rw [hPY]; exact cx_one _)
      have HPX := Lib.hid hPX
      have HPY := Lib.hid hPY
      have HLX := Lib.hid hpx
      have HLY := Lib.hid hpy
      have HBN := Lib.hid hBn
      clear hPX hPY hpx hpy
      go_upto_region 4 with (fail)
      go_cut [6, 7] from 12 to 19 (fun v6 v7 wx => Two Bn wr PX PY v6 v7 wx)
      case first =>
        obtain ⟨w0, hw0⟩ : ∃ w0, w0 = wr.drew := ⟨_, rfl⟩
        have hb0 : Below Bn wr w0 := by rw [hw0, hBn]; exact (Below.refl _ wr).drew
        have hz0 : Bn ≤ w0.heap.size := by rw [hw0, hBn]; exact Nat.le_refl _
        refine wp_region_held_drew (S := fun w' => Below Bn wr w') (by kernel_rfl) (by rw [← hw0]; exact hb0) (fun hHeld => ?_)
        rw [← hw0]
        rw [← hw0] at hHeld
        clear hw0 hBn hHeld
        have hHeld := hb0
        refine wpAnyH_take (i := 0) (oi := ⟨some 12, _, _, _, _, _⟩) (v := .int .i64 (i : Int)) rfl (by kernel_rfl) (by kernel_rfl) (by kernel_rfl) (fun _ _ _ h => h) (Or.inl ⟨by rfl, fun W hW => (by rfl)⟩) (by assumption) ?_
        simp only [Act.put, List.setIfInBounds_toArray, List.set_cons_zero, List.set_cons_succ]
        refine wpAnyH_take (i := 1) (oi := ⟨some 13, _, _, _, _, _⟩) (v := .pointer (some ⟨ga, 0, none⟩)) rfl (by kernel_rfl) (by kernel_rfl) (by kernel_rfl) (fun _ _ _ h => h) (Or.inl ⟨by rfl, fun W hW => (by go_simp)⟩) (by assumption) ?_
        simp only [Act.put, List.setIfInBounds_toArray, List.set_cons_zero, List.set_cons_succ]
        refine wpAnyH_take (i := 2) (oi := ⟨some 14, _, _, _, _, _⟩) (v := .pointer (some ⟨ga, i * 14, none⟩)) rfl (by kernel_rfl) (by kernel_rfl) (by kernel_rfl) (fun _ _ _ h => h) (Or.inl ⟨by rfl, fun W hW => (by go_simp)⟩) (by assumption) ?_
        simp only [Act.put, List.setIfInBounds_toArray, List.set_cons_zero, List.set_cons_succ]
        refine' wpAnyH_take (i := 3) (oi := ⟨some 15, _, _, _, _, _⟩) (v := _) rfl (by kernel_rfl) (by kernel_rfl) (by kernel_rfl) (fun _ _ _ h => h) (yieldsIf_load_mid (by rfl) _ _ rfl ga (i * 14) rfl PX _ (fun w h => HXR.out w h) HU67.out rfl HSX.out) (by assumption) ?_
        simp only [Act.put, List.setIfInBounds_toArray, List.set_cons_zero, List.set_cons_succ]
        refine wpAnyH_take (i := 4) (oi := ⟨some 16, _, _, _, _, _⟩) (v := .int .i64 (i : Int)) rfl (by kernel_rfl) (by kernel_rfl) (by kernel_rfl) (fun _ _ _ h => h) (Or.inl ⟨by rfl, fun W hW => (by rfl)⟩) (by assumption) ?_
        simp only [Act.put, List.setIfInBounds_toArray, List.set_cons_zero, List.set_cons_succ]
        refine wpAnyH_take (i := 5) (oi := ⟨some 17, _, _, _, _, _⟩) (v := .pointer (some ⟨gb, 0, none⟩)) rfl (by kernel_rfl) (by kernel_rfl) (by kernel_rfl) (fun _ _ _ h => h) (Or.inl ⟨by rfl, fun W hW => (by go_simp)⟩) (by assumption) ?_
        simp only [Act.put, List.setIfInBounds_toArray, List.set_cons_zero, List.set_cons_succ]
        refine wpAnyH_take (i := 6) (oi := ⟨some 18, _, _, _, _, _⟩) (v := .pointer (some ⟨gb, i * 14, none⟩)) rfl (by kernel_rfl) (by kernel_rfl) (by kernel_rfl) (fun _ _ _ h => h) (Or.inl ⟨by rfl, fun W hW => (by go_simp)⟩) (by assumption) ?_
        simp only [Act.put, List.setIfInBounds_toArray, List.set_cons_zero, List.set_cons_succ]
        refine' wpAnyH_take (i := 7) (oi := ⟨some 19, _, _, _, _, _⟩) (v := _) rfl (by kernel_rfl) (by kernel_rfl) (by kernel_rfl) (fun _ _ _ h => h) (yieldsIf_load_mid (by rfl) _ _ rfl gb (i * 14) rfl PY _ (fun w h => HYR.out w h) HU67.out rfl HSY.out) (by assumption) ?_
        simp only [Act.put, List.setIfInBounds_toArray, List.set_cons_zero, List.set_cons_succ]
        refine wpAnyH_ready (rs := [8, 9]) (by kernel_rfl) (by simp) ?_
        refine AllReadyH.cons (o := ⟨some 6, _, _, _, _, _⟩) rfl (fun K hK => ?_) (AllReadyH.cons (o := ⟨some 7, _, _, _, _, _⟩) rfl (fun K hK => ?_) AllReadyH.nil)
        · go_simp
          obtain ⟨w1, hv⟩ : ∃ w1, w1 = w0.alloc (.cells #[.bool false, .int .i64 0, .int .i64 0, .int .i64 0, .int .i64 0, .int .i64 0, .int .i64 0, .int .i64 0, .int .i64 0, .int .i64 0, .int .i64 0, .int .i64 0, .bool false, .int .i64 0] 67) := ⟨_, rfl⟩
          obtain ⟨xb, hb⟩ : ∃ xb, xb = w0.heap.size := ⟨_, rfl⟩
          have hH2 : Below Bn wr w1 := by rw [hv]; exact hHeld.alloc hz0 _
          have hz1 : Bn ≤ w1.heap.size := by rw [hv, World.size_alloc]; omega
          have X : Blk w1 xb 67 #[.bool false, .int .i64 0, .int .i64 0, .int .i64 0, .int .i64 0, .int .i64 0, .int .i64 0, .int .i64 0, .int .i64 0, .int .i64 0, .int .i64 0, .int .i64 0, .bool false, .int .i64 0] := by rw [hv, hb]; exact Blk.new _ _ _
          have hxl : Bn ≤ xb := by omega
          rw [← hv, ← hb]
          clear hv hb
          refine hK.out _ _ hH2 (fun hHeld => ?_)
          clear hK K hH2
          refine wpAnyH_ready (rs := [9]) (by kernel_rfl) (by simp) ?_
          refine AllReadyH.cons (o := ⟨some 7, _, _, _, _, _⟩) rfl (fun K hK => ?_) AllReadyH.nil
          go_simp
          obtain ⟨w2, hv⟩ : ∃ w2, w2 = w1.alloc (.cells #[.bool false, .int .i64 0, .int .i64 0, .int .i64 0, .int .i64 0, .int .i64 0, .int .i64 0, .int .i64 0, .int .i64 0, .int .i64 0, .int .i64 0, .int .i64 0, .bool false, .int .i64 0] 67) := ⟨_, rfl⟩
          obtain ⟨yb, hb⟩ : ∃ yb, yb = w1.heap.size := ⟨_, rfl⟩
          have hH2 : Below Bn wr w2 := by rw [hv]; exact hHeld.alloc hz1 _
          have hz2 : Bn ≤ w2.heap.size := by rw [hv, World.size_alloc]; omega
          have Y : Blk w2 yb 67 #[.bool false, .int .i64 0, .int .i64 0, .int .i64 0, .int .i64 0, .int .i64 0, .int .i64 0, .int .i64 0, .int .i64 0, .int .i64 0, .int .i64 0, .int .i64 0, .bool false, .int .i64 0] := by rw [hv, hb]; exact Blk.new _ _ _
          have hyl : Bn ≤ yb := by omega
          have hxy : xb ≠ yb := by have := X.lt; omega
          replace X := (show Blk w2 xb 67 _ from by rw [hv]; exact X.alloc _)
          rw [← hv, ← hb]
          clear hv hb
          refine hK.out _ _ hH2 (fun hHeld => ?_)
          clear hK K hH2
          refine wpAnyH_ready (rs := [10]) (by kernel_rfl) (by simp) ?_
          refine AllReadyH.cons (o := ⟨none, _, _, _, _, _⟩) rfl (fun K hK => ?_) AllReadyH.nil
          rw [if_pos (by rfl)]
          refine wp_store_mid _ _ _ rfl xb 0 PX.toArray rfl rfl (by have := X.there 14 (by decide); simpa [HLX.out] using this) (by simpa using HSX.out) (all_oneCell_toArray HOX.out) ?_
          obtain ⟨w3, hv⟩ : ∃ w3, w3 = w2.setCells xb 0 PX := ⟨_, rfl⟩
          have KS : Keep1 xb w2 w3 := by rw [hv]; exact grownBy_setCells xb PX 0 w2
          have hH2 : Below Bn wr w3 := by rw [hv]; exact below_setCells hHeld hxl hz2 _ _
          have hz3 : Bn ≤ w3.heap.size := Nat.le_trans hz2 KS.size
          replace X := (show Blk w3 xb 67 PX.toArray from by rw [hv]; exact X.setWhole PX (by rw [HLX.out]; rfl))
          replace Y := KS.blk Y (by omega)
          rw [← hv]
          clear hv KS
          refine hK.out _ _ hH2 (fun hHeld => ?_)
          clear hK K hH2
          simp only [Act.put]
          refine wpAnyH_ready (rs := [11]) (by kernel_rfl) (by simp) ?_
          refine AllReadyH.cons (o := ⟨none, _, _, _, _, _⟩) rfl (fun K hK => ?_) AllReadyH.nil
          rw [if_pos (by rfl)]
          refine wp_store_mid _ _ _ rfl yb 0 PY.toArray rfl rfl (by have := Y.there 14 (by decide); simpa [HLY.out] using this) (by simpa using HSY.out) (all_oneCell_toArray HOY.out) ?_
          obtain ⟨w4, hv⟩ : ∃ w4, w4 = w3.setCells yb 0 PY := ⟨_, rfl⟩
          have KS : Keep1 yb w3 w4 := by rw [hv]; exact grownBy_setCells yb PY 0 w3
          have hH2 : Below Bn wr w4 := by rw [hv]; exact below_setCells hHeld hyl hz3 _ _
          have hz4 : Bn ≤ w4.heap.size := Nat.le_trans hz3 KS.size
          replace Y := (show Blk w4 yb 67 PY.toArray from by rw [hv]; exact Y.setWhole PY (by rw [HLY.out]; rfl))
          replace X := KS.blk X (by omega)
          rw [← hv]
          clear hv KS
          refine hK.out _ _ hH2 (fun hHeld => ?_)
          clear hK K hH2
          simp only [Act.put]
          refine wpAnyH_done (by kernel_rfl) ?_ _
          go_wp2
          go_meet
          exact ⟨xb, yb, rfl, rfl, hxy, hxl, hyl, X, Y, hHeld⟩
        · go_simp
          obtain ⟨w1, hv⟩ : ∃ w1, w1 = w0.alloc (.cells #[.bool false, .int .i64 0, .int .i64 0, .int .i64 0, .int .i64 0, .int .i64 0, .int .i64 0, .int .i64 0, .int .i64 0, .int .i64 0, .int .i64 0, .int .i64 0, .bool false, .int .i64 0] 67) := ⟨_, rfl⟩
          obtain ⟨yb, hb⟩ : ∃ yb, yb = w0.heap.size := ⟨_, rfl⟩
          have hH2 : Below Bn wr w1 := by rw [hv]; exact hHeld.alloc hz0 _
          have hz1 : Bn ≤ w1.heap.size := by rw [hv, World.size_alloc]; omega
          have Y : Blk w1 yb 67 #[.bool false, .int .i64 0, .int .i64 0, .int .i64 0, .int .i64 0, .int .i64 0, .int .i64 0, .int .i64 0, .int .i64 0, .int .i64 0, .int .i64 0, .int .i64 0, .bool false, .int .i64 0] := by rw [hv, hb]; exact Blk.new _ _ _
          have hyl : Bn ≤ yb := by omega
          rw [← hv, ← hb]
          clear hv hb
          refine hK.out _ _ hH2 (fun hHeld => ?_)
          clear hK K hH2
          refine wpAnyH_ready (rs := [8]) (by kernel_rfl) (by simp) ?_
          refine AllReadyH.cons (o := ⟨some 6, _, _, _, _, _⟩) rfl (fun K hK => ?_) AllReadyH.nil
          go_simp
          obtain ⟨w2, hv⟩ : ∃ w2, w2 = w1.alloc (.cells #[.bool false, .int .i64 0, .int .i64 0, .int .i64 0, .int .i64 0, .int .i64 0, .int .i64 0, .int .i64 0, .int .i64 0, .int .i64 0, .int .i64 0, .int .i64 0, .bool false, .int .i64 0] 67) := ⟨_, rfl⟩
          obtain ⟨xb, hb⟩ : ∃ xb, xb = w1.heap.size := ⟨_, rfl⟩
          have hH2 : Below Bn wr w2 := by rw [hv]; exact hHeld.alloc hz1 _
          have hz2 : Bn ≤ w2.heap.size := by rw [hv, World.size_alloc]; omega
          have X : Blk w2 xb 67 #[.bool false, .int .i64 0, .int .i64 0, .int .i64 0, .int .i64 0, .int .i64 0, .int .i64 0, .int .i64 0, .int .i64 0, .int .i64 0, .int .i64 0, .int .i64 0, .bool false, .int .i64 0] := by rw [hv, hb]; exact Blk.new _ _ _
          have hxl : Bn ≤ xb := by omega
          have hxy : xb ≠ yb := by have := Y.lt; omega
          replace Y := (show Blk w2 yb 67 _ from by rw [hv]; exact Y.alloc _)
          rw [← hv, ← hb]
          clear hv hb
          refine hK.out _ _ hH2 (fun hHeld => ?_)
          clear hK K hH2
          refine wpAnyH_ready (rs := [10]) (by kernel_rfl) (by simp) ?_
          refine AllReadyH.cons (o := ⟨none, _, _, _, _, _⟩) rfl (fun K hK => ?_) AllReadyH.nil
          rw [if_pos (by rfl)]
          refine wp_store_mid _ _ _ rfl xb 0 PX.toArray rfl rfl (by have := X.there 14 (by decide); simpa [HLX.out] using this) (by simpa using HSX.out) (all_oneCell_toArray HOX.out) ?_
          obtain ⟨w3, hv⟩ : ∃ w3, w3 = w2.setCells xb 0 PX := ⟨_, rfl⟩
          have KS : Keep1 xb w2 w3 := by rw [hv]; exact grownBy_setCells xb PX 0 w2
          have hH2 : Below Bn wr w3 := by rw [hv]; exact below_setCells hHeld hxl hz2 _ _
          have hz3 : Bn ≤ w3.heap.size := Nat.le_trans hz2 KS.size
          replace X := (show Blk w3 xb 67 PX.toArray from by rw [hv]; exact X.setWhole PX (by rw [HLX.out]; rfl))
          replace Y := KS.blk Y (by omega)
          rw [← hv]
          clear hv KS
          refine hK.out _ _ hH2 (fun hHeld => ?_)
          clear hK K hH2
          simp only [Act.put]
          refine wpAnyH_ready (rs := [11]) (by kernel_rfl) (by simp) ?_
          refine AllReadyH.cons (o := ⟨none, _, _, _, _, _⟩) rfl (fun K hK => ?_) AllReadyH.nil
          rw [if_pos (by rfl)]
          refine wp_store_mid _ _ _ rfl yb 0 PY.toArray rfl rfl (by have := Y.there 14 (by decide); simpa [HLY.out] using this) (by simpa using HSY.out) (all_oneCell_toArray HOY.out) ?_
          obtain ⟨w4, hv⟩ : ∃ w4, w4 = w3.setCells yb 0 PY := ⟨_, rfl⟩
          have KS : Keep1 yb w3 w4 := by rw [hv]; exact grownBy_setCells yb PY 0 w3
          have hH2 : Below Bn wr w4 := by rw [hv]; exact below_setCells hHeld hyl hz3 _ _
          have hz4 : Bn ≤ w4.heap.size := Nat.le_trans hz3 KS.size
          replace Y := (show Blk w4 yb 67 PY.toArray from by rw [hv]; exact Y.setWhole PY (by rw [HLY.out]; rfl))
          replace X := KS.blk X (by omega)
          rw [← hv]
          clear hv KS
          refine hK.out _ _ hH2 (fun hHeld => ?_)
          clear hK K hH2
          simp only [Act.put]
          refine wpAnyH_done (by kernel_rfl) ?_ _
          go_wp2
          go_meet
          exact ⟨xb, yb, rfl, rfl, hxy, hxl, hyl, X, Y, hHeld⟩
      case rest =>
        obtain ⟨x, y, rfl, rfl, hxy, hxl, hyl, hX, hY, hB⟩ := hcut
        have hz := hB.size
        rw [← HBN.out] at hz
        have cx13 : wc.cell? ⟨x, 13, none⟩ = some (.int .i64 (C i).turn) := by rw [hX.cell 13, HPX.out]; rfl
        have cy13 : wc.cell? ⟨y, 13, none⟩ = some (.int .i64 (D i).turn) := by rw [hY.cell 13, HPY.out]; rfl
        have cx9 : wc.cell? ⟨x, 9, none⟩ = some (.int .i64 (C i).h8) := by rw [hX.cell 9, HPX.out]; rfl
        have cy9 : wc.cell? ⟨y, 9, none⟩ = some (.int .i64 (D i).h8) := by rw [hY.cell 9, HPY.out]; rfl
        have fx13 := hX.frozen 13
        have fx9 := hX.frozen 9
        have fy13 := hY.frozen 13
        have fy9 := hY.frozen 9
        have hyx : y ≠ x := fun e => hxy e.symm
        obtain ⟨W4, hW4⟩ : ∃ W4, W4 = (((wc.setCell ⟨x, 13, none⟩ (.int .i64 0)).setCell ⟨y, 13, none⟩ (.int .i64 0)).setCell ⟨x, 9, none⟩ (.int .i64 0)).setCell ⟨y, 9, none⟩ (.int .i64 0) := ⟨_, rfl⟩
        obtain ⟨QX, hQX⟩ : ∃ QX, QX = (C i).blank.cells.toArray := ⟨_, rfl⟩
        obtain ⟨QY, hQY⟩ : ∃ QY, QY = (D i).blank.cells.toArray := ⟨_, rfl⟩
        have X4 := Lib.hid (show Blk W4 x 67 QX from by
          rw [hW4, hQX, ← blankCells, ← HPX.out]
          exact (((hX.set_ 13 _).far (p := ⟨y, 13, none⟩) hxy _).set_ 9 _).far (p := ⟨y, 9, none⟩) hxy _)
        have Y4 := Lib.hid (show Blk W4 y 67 QY from by
          rw [hW4, hQY, ← blankCells, ← HPY.out]
          exact (((hY.far (p := ⟨x, 13, none⟩) hyx _).set_ 13 _).far (p := ⟨x, 9, none⟩) hyx _).set_ 9 _)
        have B4 : Below Bn wr W4 := by
          rw [hW4]
          exact (((hB.setCell (p := ⟨x, 13, none⟩) hxl _).setCell (p := ⟨y, 13, none⟩) hyl _).setCell (p := ⟨x, 9, none⟩) hxl _).setCell (p := ⟨y, 9, none⟩) hyl _
        have GR4 := Lib.hid (GR.out.below B4 hgal)
        have HR4 := Lib.hid (HR.out.below B4 hgbl)
        have BR4 := Lib.hid (BR.out.trans (B4.mono (Nat.le_of_lt hgal)))
        have HSQX : Hid ((Try.prog.info? 67).map (·.size) = some QX.size) := Lib.hid (by rw [hQX]; exact HS67.out)
        have HSQY : Hid ((Try.prog.info? 67).map (·.size) = some QY.size) := Lib.hid (by rw [hQY]; exact HS67.out)
        obtain ⟨r, hr⟩ : ∃ r, r = cxEq (C i).blank (D i).blank := ⟨_, rfl⟩
        have HNE := Lib.hid (show ∀ W : World, (binOp .neq 67 (.agg QX) (.agg QY)).run Try.prog W = .ok (.bool (!r)) W from fun W => by rw [hQX, hQY, hr]; exact cx_neq _ _ W)
        have HRR := Lib.hid hr
        have hW4' := Lib.hid hW4
        clear hr hX hY hB B4 hQX hQY hW4 hz HXR HYR
        go_upto_region 7 with (fail)
        rw [← hW4'.out]
        clear cx13 cy13 cx9 cy9 fx13 fx9 fy13 fy9
        have hne := HNE.out
        cases r
        · simp only [Bool.not_false] at hne
          go_wp2_with (first
            | (refine wpList_load_row rfl _ _ rfl x rfl 67 QX (0, 0) _ X4.out HU67.out rfl HSQX.out ?_)
            | (refine wpList_load_row rfl _ _ rfl y rfl 67 QY (0, 0) _ Y4.out HU67.out rfl HSQY.out ?_))
          go_ret
          exact ⟨by rw [HRS.out, cxAll_stop HRR.out.symm 16 hlt]; rfl, by rw [← HGA.out]; exact BR4.out⟩
        · simp only [Bool.not_true] at hne
          go_wp2_with (first
            | (refine wpList_load_row rfl _ _ rfl x rfl 67 QX (0, 0) _ X4.out HU67.out rfl HSQX.out ?_)
            | (refine wpList_load_row rfl _ _ rfl y rfl 67 QY (0, 0) _ Y4.out HU67.out rfl HSQY.out ?_))
          go_roundw
          case rel => first | exact ⟨i + 1, by omega, by go_num, cxAll_step HALL.out HRR.out.symm, GR4.out, HR4.out, BR4.out⟩ | ((repeat apply Exists.intro); exact ⟨⟨i + 1, by omega, by go_num, cxAll_step HALL.out HRR.out.symm, GR4.out, HR4.out, BR4.out⟩, rfl⟩)
          case measure => simp [intOf]; omega
    · obtain rfl : i = 16 := by omega
      obtain ⟨Bn, hBn⟩ : ∃ Bn, Bn = wr.heap.size := ⟨_, rfl⟩
      have hgal : ga < Bn := by rw [hBn]; exact GR.out.lt
      have hgbl : gb < Bn := by rw [hBn]; exact HR.out.lt
      have HXR := Lib.hid (fun (W : World) (hW : Below Bn wr W) => (show W.rangeAt ga 0 LA from by
        have h1 := GR.out.below hW hgal
        unfold RB at h1
        rw [HLA.out] at h1
        exact h1.range LA rfl))
      have HYR := Lib.hid (fun (W : World) (hW : Below Bn wr W) => (show W.rangeAt gb 0 LB from by
        have h1 := HR.out.below hW hgbl
        unfold RB at h1
        rw [HLB.out] at h1
        exact h1.range LB rfl))
      go_upto_region 9 with (fail)
      obtain ⟨w0, hw0⟩ : ∃ w0, w0 = wr.drew := ⟨_, rfl⟩
      have hb0 : Below Bn wr w0 := by rw [hw0, hBn]; exact (Below.refl _ wr).drew
      have hz0 : Bn ≤ w0.heap.size := by rw [hw0, hBn]; exact Nat.le_refl _
      refine wp_region_held_drew (S := fun w' => Below Bn wr w') (by kernel_rfl) (by rw [← hw0]; exact hb0) (fun hHeld => ?_)
      rw [← hw0]
      rw [← hw0] at hHeld
      clear hw0 hBn hHeld
      have hHeld := hb0
      refine' wpAnyH_take (i := 0) (oi := ⟨some 29, _, _, _, _, _⟩) (v := _) rfl (by kernel_rfl) (by kernel_rfl) (by kernel_rfl) (fun _ _ _ h => h) (yieldsIf_load_mid (by rfl) _ _ rfl ga 0 rfl LA _ (fun w h => HXR.out w h) HU70.out rfl HIA.out) (by assumption) ?_
      simp only [Act.put, List.setIfInBounds_toArray, List.set_cons_zero, List.set_cons_succ]
      refine' wpAnyH_take (i := 2) (oi := ⟨some 31, _, _, _, _, _⟩) (v := _) rfl (by kernel_rfl) (by kernel_rfl) (by kernel_rfl) (fun _ _ _ h => h) (yieldsIf_load_mid (by rfl) _ _ rfl gb 0 rfl LB _ (fun w h => HYR.out w h) HU70.out rfl HIB.out) (by assumption) ?_
      simp only [Act.put, List.setIfInBounds_toArray, List.set_cons_zero, List.set_cons_succ]
      refine wpAnyH_ready (rs := [1]) (by kernel_rfl) (by simp) ?_
      refine AllReadyH.cons (o := ⟨some 30, _, _, _, _, _⟩) rfl (fun K hK => ?_) AllReadyH.nil
      · go_simp
        refine (HTA.out w0).mono ?_
        rintro e w1 ⟨rfl, hb1⟩
        dsimp only
        have hH2 : Below Bn wr w1 := hHeld.trans (hb1.mono hz0)
        have hz1 : Bn ≤ w1.heap.size := Nat.le_trans hz0 hb1.size
        refine hK.out _ _ hH2 (fun hHeld => ?_)
        clear hK K hH2 hb1
        try simp only [Act.put, List.setIfInBounds_toArray, List.set_cons_zero, List.set_cons_succ]
        refine wpAnyH_ready (rs := [3]) (by kernel_rfl) (by simp) ?_
        refine AllReadyH.cons (o := ⟨some 32, _, _, _, _, _⟩) rfl (fun K hK => ?_) AllReadyH.nil
        go_simp
        refine (HTB.out w1).mono ?_
        rintro e w2 ⟨rfl, hb2⟩
        dsimp only
        have hH2 : Below Bn wr w2 := hHeld.trans (hb2.mono hz1)
        refine hK.out _ _ hH2 (fun hHeld => ?_)
        clear hK K hH2 hb2
        try simp only [Act.put, List.setIfInBounds_toArray, List.set_cons_zero, List.set_cons_succ]
        refine wpAnyH_take (i := 4) (oi := ⟨some 33, _, _, _, _, _⟩) (v := .bool tq) rfl (by kernel_rfl) (by kernel_rfl) (by kernel_rfl) (fun _ _ _ h => h) (Or.inl ⟨by rfl, fun W hW => (by have q := HTQ.out W; go_simp)⟩) (by assumption) ?_
        simp only [Act.put, List.setIfInBounds_toArray, List.set_cons_zero, List.set_cons_succ]
        refine wpAnyH_take (i := 5) (oi := ⟨some 4, _, _, _, _, _⟩) (v := .bool tq) rfl (by kernel_rfl) (by kernel_rfl) (by kernel_rfl) (fun _ _ _ h => h) (Or.inl ⟨by rfl, fun W hW => by rfl⟩) (by assumption) ?_
        simp only [Act.put, List.setIfInBounds_toArray, List.set_cons_zero, List.set_cons_succ]
        refine wpAnyH_done (by kernel_rfl) ?_ _
        go_wp2
        go_ret
        exact ⟨by rw [HRS.out, HALL.out]; rfl, by rw [← HGA.out]; exact BR.out.trans (hHeld.mono (Nat.le_of_lt hgal))⟩
end Go.Proofs.Ytejadoadpgcpjaa
namespace Go.Proofs.Ytejadoadpgcpjaa

theorem alike_turn {x : Rx} {c : Cx} (h : Alike x c) : x.turn = c.turn := by rw [h.form]; rfl
theorem older_alike {S : Nat → Rx} {C : Nat → Cx} (H : ∀ k, Alike (S k) (C k)) (i k : Nat) : older S i k = olderC C i k := by
  unfold older olderC
  rw [(H i).used, (H k).used, alike_turn (H i), alike_turn (H k)]
  cases (C i).used <;> cases (C k).used <;> rfl
theorem cnt_alike {S : Nat → Rx} {C : Nat → Cx} (H : ∀ k, Alike (S k) (C k)) (i : Nat) : ∀ n, cnt S i n = cntC C i n
  | 0 => rfl
  | n + 1 => by
    unfold cnt cntC
    rw [older_alike H, cnt_alike H i n]
theorem new_rx (x : Rx) (h : Alike x Cx.new) (n : Int) : ({ x with turn := n, need := x.used && x.need } : Rx) = { Cx.new.rx with turn := n } := by
  rw [h.form]
  rfl
theorem sameS_alike {S T : Nat → Rx} {C D : Nat → Cx} (H : ∀ k, Alike (S k) (C k)) (K : ∀ k, Alike (T k) (D k)) : sameS S T = rsame C D := by
  rw [Bool.eq_iff_iff, rsame_iff]
  unfold sameS
  rw [casEq_iff]
  constructor
  · intro h
    have hh : ∀ i, i < 16 → plainX S i = plainX T i := fun i hi => h i (by simpa using hi)
    refine ⟨fun i hi => ?_, fun i hi => ?_⟩
    · have e := hh i hi
      have eu0 : (plainX S i).used = (plainX T i).used := by rw [e]
      have eu : (S i).used = (T i).used := eu0
      rw [(H i).used, (K i).used] at eu
      by_cases hu : (C i).used = true
      · have hv : (D i).used = true := eu ▸ hu
        have a := (H i).same hu
        have b := (K i).same hv
        have ga := (H i).gen hu
        have gb := (K i).gen hv
        have hga : 0 ≤ (C i).gen := ga.1
        have hgb : 0 ≤ (D i).gen := gb.1
        have f00 : (plainX S i).f0 = (plainX T i).f0 := by rw [e]
        have f0 : (C i).h0 = (D i).h0 := by
          have q : (S i).f0 = (T i).f0 := f00
          rw [a, b] at q
          exact q
        have f10 : (plainX S i).f1 = (plainX T i).f1 := by rw [e]
        have f1 : (C i).h1 = (D i).h1 := by
          have q : (S i).f1 = (T i).f1 := f10
          rw [a, b] at q
          exact q
        have f20 : (plainX S i).f2 = (plainX T i).f2 := by rw [e]
        have f2 : (C i).h2 = (D i).h2 := by
          have q : (S i).f2 = (T i).f2 := f20
          rw [a, b] at q
          exact q
        have f30 : (plainX S i).f3 = (plainX T i).f3 := by rw [e]
        have f3 : (C i).h3 = (D i).h3 := by
          have q : (S i).f3 = (T i).f3 := f30
          rw [a, b] at q
          exact q
        have f40 : (plainX S i).f4 = (plainX T i).f4 := by rw [e]
        have f4 : (C i).h4 = (D i).h4 := by
          have q : (S i).f4 = (T i).f4 := f40
          rw [a, b] at q
          exact q
        have f50 : (plainX S i).hops = (plainX T i).hops := by rw [e]
        have f5 : (C i).h5 = (D i).h5 := by
          have q : (S i).hops = (T i).hops := f50
          rw [a, b] at q
          exact q
        have f60 : (plainX S i).ident = (plainX T i).ident := by rw [e]
        have f6 : (C i).h6 = (D i).h6 := by
          have q : (S i).ident = (T i).ident := f60
          rw [a, b] at q
          exact q
        have f70 : (plainX S i).time = (plainX T i).time := by rw [e]
        have f7 : (C i).h7 = (D i).h7 := by
          have q : (S i).time = (T i).time := f70
          rw [a, b] at q
          exact q
        have fs0 : (plainX S i).step = (plainX T i).step := by rw [e]
        have fs : (C i).step = (D i).step := by
          have q : (S i).step = (T i).step := fs0
          rw [a, b] at q
          exact q
        have fg0 : (plainX S i).gen = (plainX T i).gen := by rw [e]
        have fg : (C i).gen = (D i).gen := by
          have q : (S i).gen = (T i).gen := fg0
          rw [a, b] at q
          have q2 : (if 0 ≤ (C i).gen then (C i).gen else 0) = (if 0 ≤ (D i).gen then (D i).gen else 0) := q
          rwa [if_pos hga, if_pos hgb] at q2
        have fn0 : (plainX S i).need = (plainX T i).need := by rw [e]
        have fn : (C i).need = (D i).need := by
          have q : ((S i).used && (S i).need) = ((T i).used && (T i).need) := fn0
          rw [a, b] at q
          have q2 : ((C i).used && (C i).need) = ((D i).used && (D i).need) := q
          rwa [hu, hv, Bool.true_and, Bool.true_and] at q2
        unfold Cx.blank
        rw [hu, hv, f0, f1, f2, f3, f4, f5, f6, f7, fs, fg, fn]
      · have hu' : (C i).used = false := by simpa using hu
        have hv' : (D i).used = false := eu ▸ hu'
        rw [(H i).fresh hu', (K i).fresh hv']
    · have e : (plainX S i).turn = (plainX T i).turn := by rw [hh i hi]
      have e2 : ((cnt S i 16 : Nat) : Int) = ((cnt T i 16 : Nat) : Int) := e
      rw [← cnt_alike H, ← cnt_alike K]
      omega
  · rintro ⟨h1, h2⟩ i hi
    have hi16 : i < 16 := by simpa using hi
    show plainX S i = plainX T i
    have e := h1 i hi16
    have ec : cnt S i 16 = cnt T i 16 := by rw [cnt_alike H, cnt_alike K]; exact h2 i hi16
    unfold plainX
    rw [ec]
    have eu0 : (C i).blank.used = (D i).blank.used := by rw [e]
    have eu : (C i).used = (D i).used := eu0
    by_cases hu : (C i).used = true
    · have hv : (D i).used = true := eu ▸ hu
      rw [(H i).same hu, (K i).same hv]
      have f00 : (C i).blank.h0 = (D i).blank.h0 := by rw [e]
      have f0 : (C i).h0 = (D i).h0 := f00
      have f10 : (C i).blank.h1 = (D i).blank.h1 := by rw [e]
      have f1 : (C i).h1 = (D i).h1 := f10
      have f20 : (C i).blank.h2 = (D i).blank.h2 := by rw [e]
      have f2 : (C i).h2 = (D i).h2 := f20
      have f30 : (C i).blank.h3 = (D i).blank.h3 := by rw [e]
      have f3 : (C i).h3 = (D i).h3 := f30
      have f40 : (C i).blank.h4 = (D i).blank.h4 := by rw [e]
      have f4 : (C i).h4 = (D i).h4 := f40
      have f50 : (C i).blank.h5 = (D i).blank.h5 := by rw [e]
      have f5 : (C i).h5 = (D i).h5 := f50
      have f60 : (C i).blank.h6 = (D i).blank.h6 := by rw [e]
      have f6 : (C i).h6 = (D i).h6 := f60
      have f70 : (C i).blank.h7 = (D i).blank.h7 := by rw [e]
      have f7 : (C i).h7 = (D i).h7 := f70
      have fg0 : (C i).blank.gen = (D i).blank.gen := by rw [e]
      have fg : (C i).gen = (D i).gen := fg0
      have fs0 : (C i).blank.step = (D i).blank.step := by rw [e]
      have fs : (C i).step = (D i).step := fs0
      have fn0 : (C i).blank.need = (D i).blank.need := by rw [e]
      have fn : (C i).need = (D i).need := fn0
      unfold Cx.rx
      rw [f0, f1, f2, f3, f4, f5, f6, f7, fg, fs, fn, eu]
    · have hu' : (C i).used = false := by simpa using hu
      have hv' : (D i).used = false := eu ▸ hu'
      have a := H i
      have b := K i
      rw [a.fresh hu'] at a
      rw [b.fresh hv'] at b
      rw [new_rx _ a, new_rx _ b]
end Go.Proofs.Ytejadoadpgcpjaa
namespace Go.Proofs.Ytejadoadpgcpjaa
open Go.RowKit

attribute [local go_sem ↓] Go.wp_at_zero Go.wp_at_succ

theorem sameS_refl (S : Nat → Rx) : sameS S S = true := by unfold sameS; rw [casEq_iff]; intros; rfl
/-- the result of act, with the reference's cells as a letter -/
def AEnd (g : Nat) (T : Int) (w : World) (e : Ending) (w' : World) : Prop :=
  ∃ (g' : Nat) (S' : Nat → Rx) (C' : Nat → Cx) (T' : Int) (Lp : Array Value), e = .returned (.tuple #[.pointer (some ⟨g', 0, none⟩), .agg Lp, .bool true]) ∧ Hid (Lp = rcArr C' T') ∧ Hid (CB w' g' true S' T') ∧ Hid (∀ k, Alike (S' k) (C' k)) ∧ 0 ≤ T' ∧ T' ≤ T + 1 ∧ (g' = g ∨ w.heap.size ≤ g') ∧ Hid (Keep1 g w w') ∧ Hid ((Try.prog.info? 70).map (·.size) = some Lp.size) ∧ Hid (Lp.size = 225) ∧ Hid (Lp.all (·.oneCell') = true)
theorem aend_of {g : Nat} {T : Int} {w : World} {e : Ending} {w' : World} (h : AOut g T w e w') : AEnd g T w e w' := by
  obtain ⟨g', S', C', T', rfl, h1, h2, h3, h4, h5, h6⟩ := h
  exact ⟨g', S', C', T', rcArr C' T', rfl, Lib.hid rfl, Lib.hid h1, Lib.hid h2, h3, h4, h5, Lib.hid h6, Lib.hid (by rw [rcArr_size]; exact size70), Lib.hid (rcArr_size _ _), Lib.hid (rc_one _ _)⟩
theorem acts_two {w W : World} {bx : Nat} {wh : Nat → Int} {PA : Nat → Option Addr} {pn pc : Nat → Nat} {z : Nat → Nat → Int} (hb : Below w.heap.size w W) (hB : Blk W bx 81 #[.int .i64 (wh 0), .slice (PA 0) (pn 0) (pc 0), .int .i64 (wh 1), .slice (PA 1) (pn 1) (pc 1)])
    (hcap : ∀ k, k < 2 → pn k ≤ pc k) (hbyte : ∀ k, k < 2 → ∀ j, j < pn k → 0 ≤ z k j ∧ z k j < 256) (hrow : ∀ k, k < 2 → Row w w.heap.size (PA k) (pn k) (fun j => .int .u8 (z k j))) : Acts W (some ⟨bx, 0, none⟩) 2 wh PA pn pc z :=
  ⟨fun _ => ⟨bx, 0, rfl, hB.lt, fun k hk => by
    rcases (by omega : k = 0 ∨ k = 1) with rfl | rfl
    · exact ⟨hB.cell 0, hB.cell 1⟩
    · exact ⟨hB.cell 2, hB.cell 3⟩⟩, hcap, hbyte, fun k hk => (hrow k hk).next hb⟩

set_option maxRecDepth 100000 in
set_option maxHeartbeats 12800000 in
theorem clones_walk (A : Option Addr) (m c : Nat) (wh : Nat → Int) (PA : Nat → Option Addr) (pn pc : Nat → Nat) (z : Nat → Nat → Int) (w : World) (hA : Acts w A m wh PA pn pc z) (hmx : m ≤ maxLen)
    (wh2 : Nat → Int) (PA2 : Nat → Option Addr) (pn2 pc2 : Nat → Nat) (z2 : Nat → Nat → Int) (hcap : ∀ k, k < 2 → pn2 k ≤ pc2 k) (hbyte : ∀ k, k < 2 → ∀ j, j < pn2 k → 0 ≤ z2 k j ∧ z2 k j < 256) (hrow : ∀ k, k < 2 → Row w w.heap.size (PA2 k) (pn2 k) (fun j => .int .u8 (z2 k j))) :
    Calls Try.prog 13 #[.slice A m c, .agg #[.int .i64 (wh2 0), .slice (PA2 0) (pn2 0) (pc2 0), .int .i64 (wh2 1), .slice (PA2 1) (pn2 1) (pc2 1)]] w fun e w' => e = .returned (.bool true) ∧ Below w.heap.size w w' := by
  have HW := Lib.hid (fun W => works43_true W)
  obtain ⟨TW, hTW⟩ : ∃ TW : Array Value, TW = #[.int .i64 (wh2 0), .slice (PA2 0) (pn2 0) (pc2 0), .int .i64 (wh2 1), .slice (PA2 1) (pn2 1) (pc2 1)] := ⟨_, rfl⟩
  rw [← hTW]
  obtain ⟨wB, hwB⟩ : ∃ wB, wB = w.alloc (.cells TW 81) := ⟨_, rfl⟩
  obtain ⟨bx, hbx⟩ : ∃ bx, bx = w.heap.size := ⟨_, rfl⟩
  have BX := Lib.hid (show Blk wB bx 81 TW from by rw [hwB, hbx]; exact Blk.new _ _ _)
  have B0 := Lib.hid (show Below w.heap.size w wB from by rw [hwB]; exact (Below.refl _ w).alloc (Nat.le_refl _) _)
  have hzB : wB.heap.size = w.heap.size + 1 := by rw [hwB, World.size_alloc]
  have HBXW := Lib.hid hbx
  have AB := Lib.hid (hA.below B0.out)
  have A2 := Lib.hid (show Acts wB (some ⟨bx, 0, none⟩) 2 wh2 PA2 pn2 pc2 z2 from acts_two B0.out (by have := BX.out; rwa [hTW] at this) hcap hbyte hrow)
  have HTW := Lib.hid hTW
  have HWB := Lib.hid hwB
  have HSB := Lib.hid hzB
  have hm2 : (2 : Nat) ≤ maxLen := by unfold maxLen; omega
  clear hA hcap hbyte hrow hTW hwB hzB hbx
  by_cases hfew : ((m : Int) ≤ 20 ∧ ∀ k, k < m → pn k ≤ 100)
  rotate_left
  · have HF := Lib.hid (few_no A m c 20 wh PA pn pc z wB AB.out hfew hmx)
    clear hfew hmx hm2
    go_enter Try.func13, Try.ntmps13
    go_upto_region 1 with (fail)
    rw [← HWB.out, ← HBXW.out]
    go_wp2_with (first
      | (go_at_call 37; refine (HF.out).mono ?_; rintro e w1 ⟨rfl, rfl⟩)
      | (go_at_call 30; refine (HW.out _).mono ?_; rintro e w1 ⟨rfl, hB1⟩))
    go_ret
    exact ⟨rfl, below_step B0.out hB1⟩
  have HF := Lib.hid (few_yes A m c 20 wh PA pn pc z wB AB.out hfew.1 hfew.2 hmx)
  by_cases hfew2 : (((2 : Nat) : Int) ≤ 2 ∧ ∀ k, k < 2 → pn2 k ≤ 100)
  rotate_left
  · have HF2 := Lib.hid (few_no (some ⟨bx, 0, none⟩) 2 2 2 wh2 PA2 pn2 pc2 z2 wB A2.out hfew2 hm2)
    clear hfew hmx hm2 hfew2
    go_enter Try.func13, Try.ntmps13
    go_upto_region 1 with (fail)
    rw [← HWB.out, ← HBXW.out]
    go_wp2_with (first
      | (go_at_call 37; ((with_reducible refine (HF.out).mono ?_); rintro e w1 ⟨rfl, rfl⟩))
      | (go_at_call 37; ((with_reducible refine (HF2.out).mono ?_); rintro e w1 ⟨rfl, rfl⟩))
      | (go_at_call 30; refine (HW.out _).mono ?_; rintro e w1 ⟨rfl, hB1⟩))
    go_ret
    exact ⟨rfl, below_step B0.out hB1⟩
  have HF2 := Lib.hid (few_yes (some ⟨bx, 0, none⟩) 2 2 2 wh2 PA2 pn2 pc2 z2 wB A2.out hfew2.1 hfew2.2 hm2)
  have HALL := Lib.hid hfew.2
  have HALL2 := Lib.hid hfew2.2
  have hm20 := hfew.1
  have hbxl : bx < wB.heap.size := BX.out.lt
  have HNW := Lib.hid (fun W => rnew_ok W)
  have hz0 := zero70
  obtain ⟨L0, hL0⟩ : ∃ L0, L0 = rcArr (fun _ => Cx.new) 0 := ⟨_, rfl⟩
  obtain ⟨Z, hZ⟩ : ∃ Z, Z = rcArr (fun _ => zeroC) 0 := ⟨_, rfl⟩
  rw [← hL0] at HNW
  rw [← hZ] at hz0
  have HL0 := Lib.hid hL0
  have HZZ := Lib.hid hZ
  have HSZ0 : Hid ((Try.prog.info? 70).map (·.size) = some L0.size) := Lib.hid (by rw [hL0, rcArr_size]; exact size70)
  have HZ0 : Hid (Z.size = L0.size) := Lib.hid (by rw [hL0, hZ, rcArr_size, rcArr_size])
  have HZS : Hid (Z.size = 225) := Lib.hid (by rw [hZ, rcArr_size])
  have HO0 : Hid (L0.all (·.oneCell') = true) := Lib.hid (by rw [hL0]; exact rc_one _ _)
  clear hfew hfew2 hL0 hZ hmx hm2
  go_enter Try.func13, Try.ntmps13
  go_upto_region 1 with (fail)
  rw [← HWB.out, ← HBXW.out]
  go_upto_region 4 with (first
    | (go_at_call 37; ((with_reducible refine (HF.out).mono ?_); rintro e w1 ⟨rfl, rfl⟩))
    | (go_at_call 37; ((with_reducible refine (HF2.out).mono ?_); rintro e w1 ⟨rfl, rfl⟩))
    | (go_at_call 31; refine (new_ok2 _).mono ?_; rintro e w1 ⟨rfl, hK1, hB1⟩; have K1 := Lib.hid hK1; have B1 := Lib.hid hB1; clear hK1 hB1)
    | (go_at_call 38; refine (HNW.out w1).mono ?_; rintro e w2 ⟨rfl, hB2⟩; have B2 := Lib.hid hB2; clear hB2)
    | (refine wpList_store_row rfl _ _ _ rfl w2.heap.size L0 rfl rfl 70 Z (Blk.new w2 _ _) HSZ0.out HZ0.out HO0.out ?_))
  obtain ⟨wb, hwb⟩ : ∃ wb, wb = w2.heap.size := ⟨_, rfl⟩
  obtain ⟨W3, hW3⟩ : ∃ W3, W3 = (w2.alloc (.cells Z 70)).setRow w2.heap.size L0 := ⟨_, rfl⟩
  have SD := Lib.hid (show Side wB wb wB.heap.size 0 W3 from by
    have hb23 : Below w2.heap.size w2 W3 := by rw [hW3]; exact belowRow ((Below.refl _ w2).alloc (Nat.le_refl _) _) (Nat.le_refl _) _
    have hb13 : Below w1.heap.size w1 W3 := B2.out.trans (hb23.mono B2.out.size)
    refine ⟨S0, fun _ => Cx.new, K1.out.below hb13 K1.out.lt, fun _ => alike_new, ?_, Int.le_refl _, Nat.le_refl _, ?_, B1.out.trans (hb13.mono B1.out.size)⟩
    · rw [hwb, hW3, ← HL0.out]; exact Blk.setRow (Blk.new w2 _ _)
    · have := K1.out.lt; have := B2.out.size; omega)
  rw [← hW3, ← hwb]
  have hwbw : wB.heap.size < wb := by have := K1.out.lt; have := B2.out.size; omega
  clear hW3 hwb
  go_wp2
  go_loopw [5, 7] (fun v3 v5 wr => ∃ (k gc : Nat) (T : Int), k ≤ m ∧ v5 = .int .i64 k ∧ v3 = .pointer (some ⟨gc, 0, none⟩) ∧ T ≤ k ∧ Side wB wb gc T wr) (fun _ v5 _ => m - (intOf v5).toNat)
  case atStart => exact ⟨0, wB.heap.size, 0, by omega, rfl, rfl, by omega, SD.out⟩
  case round =>
    obtain ⟨k, gc, T, hk, rfl, rfl, hTk, S, C, hKc, hAl, hWb, hT0, hgc, hgw, hBr⟩ := hrel
    by_cases hlt : k < m
    · obtain ⟨lb, lo, rfl, hlb, hcl⟩ := AB.out.at_ (by omega)
      obtain ⟨q0, q1⟩ := hcl k hlt
      have HACT := Lib.hid (fun (W : World) (hK : CB W gc true S T) (hR : Row W W.heap.size (PA k) (pn k) (fun j => .int .u8 (z k j))) => (act_ok gc S T C (wh k) (PA k) (pn k) (pc k) (z k) (HALL.out k hlt) (AB.out.cap k hlt) (AB.out.byte k hlt) ⟨hT0, by omega⟩ hAl W hK hR (fun a e h0 => by
        obtain ⟨b, off, e2, hb, _⟩ := AB.out.row k hlt (by omega)
        rw [e] at e2; cases e2
        show b ≠ gc; omega)).mono fun _ _ h => aend_of h)
      unfold AEnd at HACT
      have KC := Lib.hid hKc
      have WB := Lib.hid hWb
      have BR := Lib.hid hBr
      obtain ⟨Ll, hLl⟩ : ∃ Ll : List Value, Ll = (rcArr C T).toList := ⟨_, rfl⟩
      have hLa : rcArr C T = Ll.toArray := by rw [hLl]
      have hl225 : Ll.length = 225 := by rw [hLl, Array.length_toList, rcArr_size]
      have hiz : (Try.prog.info? 70).map (·.size) = some Ll.length := by rw [hl225]; exact size70
      have hu := Try.underlying70
      rw [hLa] at HACT
      have WB2 := Lib.hid (show Blk wr wb 70 Ll.toArray from by rw [← hLa]; exact hWb)
      have RK := Lib.hid (show Row wr wr.heap.size (PA k) (pn k) (fun j => .int .u8 (z k j)) from ((AB.out.row k hlt).below hBr).more hBr.size)
      have hgcl := hKc.lt
      have hwbl := hWb.lt
      have hbrs := hBr.size
      have lg : lb ≠ gc := by omega
      have hq0 : ∀ W : World, KB wr gc wb W → W.cell? ⟨lb, lo + k * 2, none⟩ = some (.int .i64 (wh k)) := fun W hW => (World.cell?_of_block (hW.2 lb (by omega) lg (by omega))).trans ((hBr.cell (p := ⟨lb, lo + k * 2, none⟩) hlb).trans q0)
      have hq1 : ∀ W : World, KB wr gc wb W → W.cell? ⟨lb, lo + k * 2 + 1, none⟩ = some (.slice (PA k) (pn k) (pc k)) := fun W hW => (World.cell?_of_block (hW.2 lb (by omega) lg (by omega))).trans ((hBr.cell (p := ⟨lb, lo + k * 2 + 1, none⟩) hlb).trans q1)
      have HQ0 := Lib.hid hq0
      have HQ1 := Lib.hid hq1
      have k0 : (0 : Int) ≤ (k : Int) := by omega
      have k1 : (k : Int) < (m : Int) := by omega
      have hwl : ∀ W : World, wr = W → W.rangeAt wb 0 Ll := fun W e => by rw [← e]; exact WB2.out.range Ll rfl
      have HWL := Lib.hid hwl
      clear hKc hWb hBr hAl hLl hLa hq0 hq1 q0 q1 hcl hwl
      go_upto_region 7 with (fail)
      refine wp_region_held_drew (S := fun w' => KB wr gc wb w') (by kernel_rfl) ⟨Nat.le_refl _, fun _ _ _ _ => rfl⟩ (fun hHeld => ?_)
      refine wpAnyH_take (i := 0) (oi := ⟨some 31, _, _, _, _, _⟩) (v := .pointer (some ⟨gc, 0, none⟩)) rfl (by kernel_rfl) (by kernel_rfl) (by kernel_rfl) (fun _ _ _ h => h) (Or.inl ⟨by rfl, fun W hW => (by rfl)⟩) (by assumption) ?_
      try simp only [Act.put, List.setIfInBounds_toArray, List.set_cons_zero, List.set_cons_succ]
      refine wpAnyH_take (i := 2) (oi := ⟨some 33, _, _, _, _, _⟩) (v := .slice (some ⟨lb, lo, none⟩) m c) rfl (by kernel_rfl) (by kernel_rfl) (by kernel_rfl) (fun _ _ _ h => h) (Or.inl ⟨by rfl, fun W hW => (by rfl)⟩) (by assumption) ?_
      try simp only [Act.put, List.setIfInBounds_toArray, List.set_cons_zero, List.set_cons_succ]
      refine wpAnyH_take (i := 3) (oi := ⟨some 34, _, _, _, _, _⟩) (v := .int .i64 (k : Int)) rfl (by kernel_rfl) (by kernel_rfl) (by kernel_rfl) (fun _ _ _ h => h) (Or.inl ⟨by rfl, fun W hW => (by rfl)⟩) (by assumption) ?_
      try simp only [Act.put, List.setIfInBounds_toArray, List.set_cons_zero, List.set_cons_succ]
      refine wpAnyH_take (i := 4) (oi := ⟨some 35, _, _, _, _, _⟩) (v := .pointer (some ⟨lb, lo + k * 2, none⟩)) rfl (by kernel_rfl) (by kernel_rfl) (by kernel_rfl) (fun _ _ _ h => h) (Or.inl ⟨by rfl, fun W hW => (by go_simp)⟩) (by assumption) ?_
      try simp only [Act.put, List.setIfInBounds_toArray, List.set_cons_zero, List.set_cons_succ]
      refine wpAnyH_take (i := 5) (oi := ⟨some 36, _, _, _, _, _⟩) (v := .agg #[.int .i64 (wh k), .slice (PA k) (pn k) (pc k)]) rfl (by kernel_rfl) (by kernel_rfl) (by kernel_rfl) (fun _ _ _ h => h) (Or.inl ⟨by rfl, fun W hW => (by have s0 := HQ0.out W hW; have s1 := HQ1.out W hW; go_simp)⟩) (by assumption) ?_
      try simp only [Act.put, List.setIfInBounds_toArray, List.set_cons_zero, List.set_cons_succ]
      refine wpAnyH_ready (rs := [1]) (by kernel_rfl) (by simp) ?_
      refine AllReadyH.cons (o := ⟨some 32, _, _, _, _, _⟩) rfl (fun K hK => ?_) AllReadyH.nil
      rw [if_pos (by rfl)]
      refine wp_load_mid _ _ rfl wb 0 rfl Ll _ (WB2.out.drew.range Ll rfl) hu rfl hiz ?_
      refine hK.out _ _ ⟨Nat.le_refl _, fun _ _ _ _ => rfl⟩ (fun hHeld => ?_)
      clear hK K
      try simp only [Act.put, List.setIfInBounds_toArray, List.set_cons_zero, List.set_cons_succ]
      refine wpAnyH_ready (rs := [6]) (by kernel_rfl) (by simp) ?_
      refine AllReadyH.cons (o := ⟨some 37, _, _, _, _, _⟩) rfl (fun K hK => ?_) AllReadyH.nil
      go_simp
      refine (HACT.out wr.drew KC.out.drew RK.out.drew).mono ?_
      rintro e w6 ⟨g', S', C', T', Lp, rfl, HLP, K6, HAl6, h06, hT6, hg6, E6, HSP, HNP, HOP⟩
      dsimp only
      refine hK.out _ _ ((show KB wr gc wb wr.drew from ⟨Nat.le_refl _, fun _ _ _ _ => rfl⟩).keep E6.out) (fun hHeld => ?_)
      clear hK K
      try simp only [Act.put, List.setIfInBounds_toArray, List.set_cons_zero, List.set_cons_succ]
      refine wpAnyH_take (i := 7) (oi := ⟨some 30, _, _, _, _, _⟩) (v := .tuple #[.pointer (some ⟨g', 0, none⟩), .agg Lp, .bool true]) rfl (by kernel_rfl) (by kernel_rfl) (by kernel_rfl) (fun _ _ _ h => h) (Or.inl ⟨by rfl, fun W hW => (by rfl)⟩) (by assumption) ?_
      try simp only [Act.put, List.setIfInBounds_toArray, List.set_cons_zero, List.set_cons_succ]
      refine wpAnyH_take (i := 8) (oi := ⟨some 38, _, _, _, _, _⟩) (v := .pointer (some ⟨g', 0, none⟩)) rfl (by kernel_rfl) (by kernel_rfl) (by kernel_rfl) (fun _ _ _ h => h) (Or.inl ⟨by rfl, fun W hW => (by go_simp)⟩) (by assumption) ?_
      try simp only [Act.put, List.setIfInBounds_toArray, List.set_cons_zero, List.set_cons_succ]
      refine wpAnyH_take (i := 9) (oi := ⟨some 39, _, _, _, _, _⟩) (v := .agg Lp) rfl (by kernel_rfl) (by kernel_rfl) (by kernel_rfl) (fun _ _ _ h => h) (Or.inl ⟨by rfl, fun W hW => (by go_simp)⟩) (by assumption) ?_
      try simp only [Act.put, List.setIfInBounds_toArray, List.set_cons_zero, List.set_cons_succ]
      refine wpAnyH_take (i := 10) (oi := ⟨some 40, _, _, _, _, _⟩) (v := .bool true) rfl (by kernel_rfl) (by kernel_rfl) (by kernel_rfl) (fun _ _ _ h => h) (Or.inl ⟨by rfl, fun W hW => (by go_simp)⟩) (by assumption) ?_
      try simp only [Act.put, List.setIfInBounds_toArray, List.set_cons_zero, List.set_cons_succ]
      refine wpAnyH_take (i := 11) (oi := ⟨some 5, _, _, _, _, _⟩) (v := .pointer (some ⟨g', 0, none⟩)) rfl (by kernel_rfl) (by kernel_rfl) (by kernel_rfl) (fun _ _ _ h => h) (Or.inl ⟨by rfl, fun W hW => (by rfl)⟩) (by assumption) ?_
      try simp only [Act.put, List.setIfInBounds_toArray, List.set_cons_zero, List.set_cons_succ]
      refine wpAnyH_ready (rs := [12]) (by kernel_rfl) (by simp) ?_
      refine AllReadyH.cons (o := ⟨none, _, _, _, _, _⟩) rfl (fun K hK => ?_) AllReadyH.nil
      rw [if_pos (by rfl)]
      have VB := Lib.hid (show Blk w6 wb 70 Ll.toArray from E6.out.blk WB2.out.drew (fun e => hgw e.symm))
      have hw6 : wr.heap.size ≤ w6.heap.size := E6.out.size
      refine wp_store_mid _ _ _ rfl wb 0 Lp rfl rfl (by have := VB.out.there 225 (by simp [hl225]); simpa [HNP.out] using this) HSP.out HOP.out ?_
      have KS : Keep1 wb w6 (w6.setCells wb 0 Lp.toList) := grownBy_setCells wb Lp.toList 0 w6
      refine hK.out _ _ (hHeld.keepo KS) (fun hHeld => ?_)
      clear hK K
      simp only [Act.put]
      refine wpAnyH_done (by kernel_rfl) ?_ _
      have KF := Lib.hid (show CB (w6.setCells wb 0 Lp.toList) g' true S' T' from KS.blk K6.out (by rcases hg6 with h | h; (rw [h]; exact hgw); (have h' : wr.heap.size ≤ g' := h; omega)))
      have WF := Lib.hid (show Blk (w6.setCells wb 0 Lp.toList) wb 70 (rcArr C' T') from by rw [← HLP.out]; simpa using Blk.setWhole VB.out Lp.toList (by simp [hl225, HNP.out]))
      have BF := Lib.hid (show Below wB.heap.size wB (w6.setCells wb 0 Lp.toList) from below_setCells (below_keep BR.out.drew E6.out hgc hbrs) (by omega) (by omega) _ _)
      have hg1 : wB.heap.size ≤ g' := by rcases hg6 with h | h; omega; (have h' : wr.heap.size ≤ g' := h; omega)
      have hg2 : g' ≠ wb := by rcases hg6 with h | h; (rw [h]; exact hgw); (have h' : wr.heap.size ≤ g' := h; omega)
      go_wp2
      go_roundw
      case rel => first | exact ⟨k + 1, g', T', by omega, by go_num, rfl, by omega, S', C', KF.out, HAl6.out, WF.out, h06, hg1, hg2, BF.out⟩ | ((repeat apply Exists.intro); exact ⟨⟨k + 1, g', T', by omega, by go_num, rfl, by omega, S', C', KF.out, HAl6.out, WF.out, h06, hg1, hg2, BF.out⟩, rfl⟩)
      case measure => simp [intOf]; omega
    · obtain rfl : k = m := by omega
      have hgcl := hKc.lt
      have hwbl := hWb.lt
      have hbrs := hBr.size
      obtain ⟨go, hgo⟩ : ∃ go, go = wr.heap.size := ⟨_, rfl⟩
      obtain ⟨LA, hLA⟩ : ∃ LA, LA = rcArr C T := ⟨_, rfl⟩
      have KC := Lib.hid hKc
      have WB := Lib.hid (show Blk wr wb 70 LA from by rw [hLA]; exact hWb)
      have BR := Lib.hid hBr
      have HCL := Lib.hid (show Calls Try.prog 42 #[.pointer (some ⟨gc, 0, none⟩)] wr fun e w' => e = .returned (.pointer (some ⟨go, 0, none⟩)) ∧ CB w' go true S T ∧ Below wr.heap.size wr w' from by rw [hgo]; exact clone_made gc S T wr hKc)
      have HSS := Lib.hid (fun (W : World) (h1 : CB W gc true S T) (h2 : CB W go true S T) => (show Calls Try.prog 43 #[.pointer (some ⟨gc, 0, none⟩), .pointer (some ⟨go, 0, none⟩)] W fun e w' => e = .returned (.bool true) ∧ Below W.heap.size W w' from by have := same_ok gc go S S T T W h1 h2; rw [sameS_refl] at this; exact this))
      have HSS2 := Lib.hid (fun (W : World) (h1 : CB W gc true S T) (h2 : CB W go true S T) => (show Calls Try.prog 43 #[.pointer (some ⟨go, 0, none⟩), .pointer (some ⟨gc, 0, none⟩)] W fun e w' => e = .returned (.bool true) ∧ Below W.heap.size W w' from by have := same_ok go gc S S T T W h2 h1; rw [sameS_refl] at this; exact this))
      have hgo2 : wB.heap.size ≤ go := by omega
      have HACT0 := Lib.hid (fun (W : World) (hK : CB W gc true S T) (hR : Row W W.heap.size (PA2 0) (pn2 0) (fun j => .int .u8 (z2 0 j))) => (act_ok gc S T C (wh2 0) (PA2 0) (pn2 0) (pc2 0) (z2 0) (HALL2.out 0 (by omega)) (A2.out.cap 0 (by omega)) (A2.out.byte 0 (by omega)) ⟨hT0, by omega⟩ hAl W hK hR (fun a e h0 => by
        obtain ⟨b, off, e2, hb, _⟩ := A2.out.row 0 (by omega) (by omega)
        rw [e] at e2; cases e2
        show b ≠ gc; omega)).mono fun _ _ h => aend_of h)
      have HACT1 := Lib.hid (fun (W : World) (hK : CB W go true S T) (hR : Row W W.heap.size (PA2 1) (pn2 1) (fun j => .int .u8 (z2 1 j))) => (act_ok go S T C (wh2 1) (PA2 1) (pn2 1) (pc2 1) (z2 1) (HALL2.out 1 (by omega)) (A2.out.cap 1 (by omega)) (A2.out.byte 1 (by omega)) ⟨hT0, by omega⟩ hAl W hK hR (fun a e h0 => by
        obtain ⟨b, off, e2, hb, _⟩ := A2.out.row 1 (by omega) (by omega)
        rw [e] at e2; cases e2
        show b ≠ go; omega)).mono fun _ _ h => aend_of h)
      unfold AEnd at HACT0 HACT1
      rw [← hLA] at HACT0 HACT1
      have HU := Lib.hid Try.underlying70
      have HSL : Hid ((Try.prog.info? 70).map (·.size) = some LA.size) := Lib.hid (by rw [hLA, rcArr_size]; exact size70)
      have HGO := Lib.hid hgo
      clear hKc hAl hWb hBr hLA
      clear hgo
      go_upto_region 11 with (first
        | (go_at_call 42; refine (HCL.out).mono ?_; rintro e w8 ⟨rfl, hK8, hB8⟩; have K8 := Lib.hid hK8; have C8 := Lib.hid (KC.out.below hB8 hgcl); have E8 := Lib.hid hB8; clear hK8 hB8)
        | (go_at_call 43; ((with_reducible refine (HSS.out _ C8.out K8.out).mono ?_); rintro e w9 ⟨rfl, hB9⟩; have K9 := Lib.hid (K8.out.below hB9 K8.out.lt); have C9 := Lib.hid (C8.out.below hB9 C8.out.lt); have E9 := Lib.hid (below_step E8.out hB9); clear hB9))
        | (go_at_call 43; ((with_reducible refine (HSS2.out _ C9.out K9.out).mono ?_); rintro e wx ⟨rfl, hB9⟩; have K10 := Lib.hid (K9.out.below hB9 K9.out.lt); have C10 := Lib.hid (C9.out.below hB9 C9.out.lt); have E10 := Lib.hid (below_step E9.out hB9); clear hB9)))
      have BB10 := Lib.hid (BR.out.trans (E10.out.mono hbrs))
      have WB10 := Lib.hid (WB.out.below E10.out WB.out.lt)
      have BX10 := BX.out.below BB10.out hbxl
      have x0 : wx.cell? ⟨bx, 0, none⟩ = some (.int .i64 (wh2 0)) := by rw [BX10.cell 0, HTW.out]; rfl
      have x1 : wx.cell? ⟨bx, 1, none⟩ = some (.slice (PA2 0) (pn2 0) (pc2 0)) := by rw [BX10.cell 1, HTW.out]; rfl
      have R10 := Lib.hid (show Row wx wx.heap.size (PA2 0) (pn2 0) (fun j => .int .u8 (z2 0 j)) from ((A2.out.row 0 (by omega)).below BB10.out).more BB10.out.size)
      have hgol : go < wx.heap.size := K10.out.lt
      have hgcgo : gc < go := by rw [HGO.out]; exact hgcl
      have hwbgo : wb < go := by rw [HGO.out]; exact hwbl
      have hsz10 := BB10.out.size
      clear BX10
      go_upto_region 12 with (first
        | (refine wpList_load_row rfl _ _ rfl wb rfl 70 LA (0, 0) _ WB10.out HU.out rfl HSL.out ?_)
        | (go_at_call 39; refine (HACT0.out _ C10.out R10.out).mono ?_; rintro e w11 ⟨g1, S1, C1, T1, L1, rfl, HL1, HK1, HA1, h01, hT1, hg1, HE1, HZ1, HN1, HO1⟩)
        | (refine wpList_store_row rfl _ _ _ rfl w11.heap.size L1 rfl rfl 70 Z (Blk.new w11 _ _) HZ1.out (by rw [HZS.out, HN1.out]) HO1.out ?_))
      obtain ⟨xb, hxb⟩ : ∃ xb, xb = w11.heap.size := ⟨_, rfl⟩
      obtain ⟨W12, hW12⟩ : ∃ W12, W12 = (w11.alloc (.cells Z 70)).setRow w11.heap.size L1 := ⟨_, rfl⟩
      have b12 : Below w11.heap.size w11 W12 := by rw [hW12]; exact belowRow ((Below.refl _ w11).alloc (Nat.le_refl _) _) (Nat.le_refl _) _
      have X12 := Lib.hid (show Blk W12 xb 70 L1 from by rw [hW12, hxb]; exact Blk.setRow (Blk.new w11 _ _))
      have C12 := Lib.hid (HK1.out.below b12 HK1.out.lt)
      have hsz11 : wx.heap.size ≤ w11.heap.size := HE1.out.size
      have O12 := Lib.hid (show CB W12 go true S T from Blk.below (HE1.out.blk K10.out (by omega)) b12 (by omega))
      have WB12 := Lib.hid (show Blk W12 wb 70 LA from Blk.below (HE1.out.blk WB10.out (by omega)) b12 (by omega))
      have BB12 := Lib.hid ((below_keep BB10.out HE1.out hgc hsz10).trans (b12.mono (by omega)))
      have hx12 := X12.out.lt
      have R12 := Lib.hid (show Row W12 W12.heap.size (PA2 1) (pn2 1) (fun j => .int .u8 (z2 1 j)) from ((A2.out.row 1 (by omega)).below BB12.out).more BB12.out.size)
      have hg1go : g1 ≠ go := by rcases hg1 with h | h <;> omega
      have hg1w : wB.heap.size ≤ g1 := by rcases hg1 with h | h <;> omega
      rw [← hW12, ← hxb]
      have BX12 := BX.out.below BB12.out hbxl
      have y0 : W12.cell? ⟨bx, 2, none⟩ = some (.int .i64 (wh2 1)) := by rw [BX12.cell 2, HTW.out]; rfl
      have y1 : W12.cell? ⟨bx, 3, none⟩ = some (.slice (PA2 1) (pn2 1) (pc2 1)) := by rw [BX12.cell 3, HTW.out]; rfl
      have hxbge : wx.heap.size ≤ xb := by omega
      have hsz12 := BB12.out.size
      clear BX12 x0 x1 hxb hW12 b12
      go_upto_region 13 with (first
        | (refine wpList_load_row rfl _ _ rfl wb rfl 70 LA (0, 0) _ WB12.out HU.out rfl HSL.out ?_)
        | (go_at_call 39; refine (HACT1.out _ O12.out R12.out).mono ?_; rintro e w13 ⟨g2, S2, C2, T2, L2, rfl, HL2, HK2, HA2, h02, hT2, hg2, HE2, HZ2, HN2, HO2⟩)
        | (refine wpList_store_row rfl _ _ _ rfl w13.heap.size L2 rfl rfl 70 Z (Blk.new w13 _ _) HZ2.out (by rw [HZS.out, HN2.out]) HO2.out ?_))
      obtain ⟨yb, hyb⟩ : ∃ yb, yb = w13.heap.size := ⟨_, rfl⟩
      obtain ⟨W14, hW14⟩ : ∃ W14, W14 = (w13.alloc (.cells Z 70)).setRow w13.heap.size L2 := ⟨_, rfl⟩
      have b14 : Below w13.heap.size w13 W14 := by rw [hW14]; exact belowRow ((Below.refl _ w13).alloc (Nat.le_refl _) _) (Nat.le_refl _) _
      have hsz13 : W12.heap.size ≤ w13.heap.size := HE2.out.size
      have Y14 := (show Blk W14 yb 70 L2 from by rw [hW14, hyb]; exact Blk.setRow (Blk.new w13 _ _))
      have O14 := Lib.hid (show CB W14 g2 true S2 T2 from HK2.out.below b14 HK2.out.lt)
      have C14 := Lib.hid (show CB W14 g1 true S1 T1 from Blk.below (HE2.out.blk C12.out hg1go) b14 (by have := C12.out.lt; omega))
      have X14 := (show Blk W14 xb 70 L1 from Blk.below (HE2.out.blk X12.out (by omega)) b14 (by omega))
      have BB14 := Lib.hid ((below_keep BB12.out HE2.out hgo2 hsz12).trans (b14.mono (by omega)))
      rw [← hW14, ← hyb]
      clear hW14 hyb b14 y0 y1
      obtain ⟨r1, hr1⟩ : ∃ r1, r1 = sameS S1 S2 := ⟨_, rfl⟩
      obtain ⟨r2, hr2⟩ : ∃ r2, r2 = sameS S1 S0 := ⟨_, rfl⟩
      have HSAME := Lib.hid (fun (W : World) (h1 : CB W g1 true S1 T1) (h2 : CB W g2 true S2 T2) => same_ok g1 g2 S1 S2 T1 T2 W h1 h2)
      have HSAME2 := Lib.hid (fun (W : World) (p : Nat) (h1 : CB W g1 true S1 T1) (h2 : CB W p true S0 0) => same_ok g1 p S1 S0 T1 0 W h1 h2)
      have HREF := Lib.hid (fun W => rsame_ok C1 C2 T1 T2 W)
      have HREF2 := Lib.hid (fun W => rsame_ok C1 (fun _ => Cx.new) T1 0 W)
      rw [← hr1] at HSAME
      rw [← hr2] at HSAME2
      rw [← HL1.out, ← HL2.out, ← sameS_alike HA1.out HA2.out, ← hr1] at HREF
      rw [← HL1.out, ← HL0.out, ← sameS_alike HA1.out (fun _ => alike_new), ← show S0 = (fun _ => Rx.zero) from rfl, ← hr2] at HREF2
      obtain ⟨M1, hM1⟩ : ∃ M1, M1 = L1.toList := ⟨_, rfl⟩
      obtain ⟨M2, hM2⟩ : ∃ M2, M2 = L2.toList := ⟨_, rfl⟩
      have hM1' : L1 = M1.toArray := by rw [hM1]
      have hM2' : L2 = M2.toArray := by rw [hM2]
      rw [hM1'] at HREF HREF2 X14
      rw [hM2'] at HREF Y14
      have HI1 : Hid ((Try.prog.info? 70).map (·.size) = some M1.length) := Lib.hid (by rw [hM1, Array.length_toList]; exact HZ1.out)
      have HI2 : Hid ((Try.prog.info? 70).map (·.size) = some M2.length) := Lib.hid (by rw [hM2, Array.length_toList]; exact HZ2.out)
      clear hr1 hr2 hM1 hM2 hM1' hM2' HACT0 HACT1 HSS HSS2 HCL
      obtain ⟨Bn, hBn⟩ : ∃ Bn, Bn = W14.heap.size := ⟨_, rfl⟩
      have hg1l : g1 < Bn := by rw [hBn]; exact C14.out.lt
      have hg2l : g2 < Bn := by rw [hBn]; exact O14.out.lt
      have hxbl : xb < Bn := by rw [hBn]; exact X14.lt
      have hybl : yb < Bn := by rw [hBn]; exact Y14.lt
      have HXR := Lib.hid (fun (W : World) (hW : Below Bn W14 W) => (X14.below hW hxbl).range M1 rfl)
      have HYR := Lib.hid (fun (W : World) (hW : Below Bn W14 W) => (Y14.below hW hybl).range M2 rfl)
      have hsz14 := BB14.out.size
      clear X14 Y14
      obtain ⟨w0, hw0⟩ : ∃ w0, w0 = W14.drew := ⟨_, rfl⟩
      have hb0 : Below Bn W14 w0 := by rw [hw0, hBn]; exact (Below.refl _ W14).drew
      have hz0 : Bn ≤ w0.heap.size := by rw [hw0, hBn]; exact Nat.le_refl _
      have hBB : wB.heap.size ≤ Bn := by rw [hBn]; exact hsz14
      refine wp_region_held_drew (S := fun w' => Below Bn W14 w') (by kernel_rfl) (by rw [← hw0]; exact hb0) (fun hHeld => ?_)
      rw [← hw0]
      clear hw0 hHeld
      have hHeld := hb0
      refine wpAnyH_take (i := 0) (oi := ⟨some 71, _, _, _, _, _⟩) (v := .bool true) rfl (by kernel_rfl) (by kernel_rfl) (by kernel_rfl) (fun _ _ _ h => h) (Or.inl ⟨by rfl, fun W hW => (by rfl)⟩) (by assumption) ?_
      try simp only [Act.put, List.setIfInBounds_toArray, List.set_cons_zero, List.set_cons_succ]
      refine wpAnyH_take (i := 1) (oi := ⟨some 72, _, _, _, _, _⟩) (v := .bool true) rfl (by kernel_rfl) (by kernel_rfl) (by kernel_rfl) (fun _ _ _ h => h) (Or.inl ⟨by rfl, fun W hW => (by rfl)⟩) (by assumption) ?_
      try simp only [Act.put, List.setIfInBounds_toArray, List.set_cons_zero, List.set_cons_succ]
      refine wpAnyH_take (i := 2) (oi := ⟨some 73, _, _, _, _, _⟩) (v := .bool true) rfl (by kernel_rfl) (by kernel_rfl) (by kernel_rfl) (fun _ _ _ h => h) (Or.inl ⟨by rfl, fun W hW => (by rfl)⟩) (by assumption) ?_
      try simp only [Act.put, List.setIfInBounds_toArray, List.set_cons_zero, List.set_cons_succ]
      refine wpAnyH_take (i := 3) (oi := ⟨some 74, _, _, _, _, _⟩) (v := .bool true) rfl (by kernel_rfl) (by kernel_rfl) (by kernel_rfl) (fun _ _ _ h => h) (Or.inl ⟨by rfl, fun W hW => (by go_simp)⟩) (by assumption) ?_
      try simp only [Act.put, List.setIfInBounds_toArray, List.set_cons_zero, List.set_cons_succ]
      refine wpAnyH_take (i := 4) (oi := ⟨some 75, _, _, _, _, _⟩) (v := .bool true) rfl (by kernel_rfl) (by kernel_rfl) (by kernel_rfl) (fun _ _ _ h => h) (Or.inl ⟨by rfl, fun W hW => (by rfl)⟩) (by assumption) ?_
      try simp only [Act.put, List.setIfInBounds_toArray, List.set_cons_zero, List.set_cons_succ]
      refine wpAnyH_take (i := 5) (oi := ⟨some 76, _, _, _, _, _⟩) (v := .pointer (some ⟨g1, 0, none⟩)) rfl (by kernel_rfl) (by kernel_rfl) (by kernel_rfl) (fun _ _ _ h => h) (Or.inl ⟨by rfl, fun W hW => (by rfl)⟩) (by assumption) ?_
      try simp only [Act.put, List.setIfInBounds_toArray, List.set_cons_zero, List.set_cons_succ]
      refine wpAnyH_take (i := 6) (oi := ⟨some 77, _, _, _, _, _⟩) (v := .pointer (some ⟨g2, 0, none⟩)) rfl (by kernel_rfl) (by kernel_rfl) (by kernel_rfl) (fun _ _ _ h => h) (Or.inl ⟨by rfl, fun W hW => (by rfl)⟩) (by assumption) ?_
      try simp only [Act.put, List.setIfInBounds_toArray, List.set_cons_zero, List.set_cons_succ]
      refine' wpAnyH_take (i := 8) (oi := ⟨some 79, _, _, _, _, _⟩) (v := _) rfl (by kernel_rfl) (by kernel_rfl) (by kernel_rfl) (fun _ _ _ h => h) (yieldsIf_load_mid (by rfl) _ _ rfl xb 0 rfl M1 _ (fun w h => HXR.out w h) HU.out rfl HI1.out) (by assumption) ?_
      try simp only [Act.put, List.setIfInBounds_toArray, List.set_cons_zero, List.set_cons_succ]
      refine' wpAnyH_take (i := 9) (oi := ⟨some 80, _, _, _, _, _⟩) (v := _) rfl (by kernel_rfl) (by kernel_rfl) (by kernel_rfl) (fun _ _ _ h => h) (yieldsIf_load_mid (by rfl) _ _ rfl yb 0 rfl M2 _ (fun w h => HYR.out w h) HU.out rfl HI2.out) (by assumption) ?_
      try simp only [Act.put, List.setIfInBounds_toArray, List.set_cons_zero, List.set_cons_succ]
      refine wpAnyH_ready (rs := [7]) (by kernel_rfl) (by simp) ?_
      refine AllReadyH.cons (o := ⟨some 78, _, _, _, _, _⟩) rfl (fun K hK => ?_) AllReadyH.nil
      rw [if_pos (by rfl)]
      go_simp
      refine (HSAME.out w0 (C14.out.below hHeld hg1l) (O14.out.below hHeld hg2l)).mono ?_
      rintro e w1' ⟨rfl, hb⟩
      dsimp only
      have hH2 : Below Bn W14 w1' := hHeld.trans (hb.mono hz0)
      have hz1 : Bn ≤ w1'.heap.size := Nat.le_trans hz0 hb.size
      refine hK.out _ _ hH2 (fun hHeld => ?_)
      clear hK K hH2 hb
      try simp only [Act.put, List.setIfInBounds_toArray, List.set_cons_zero, List.set_cons_succ]
      refine wpAnyH_ready (rs := [10]) (by kernel_rfl) (by simp) ?_
      refine AllReadyH.cons (o := ⟨some 81, _, _, _, _, _⟩) rfl (fun K hK => ?_) AllReadyH.nil
      rw [if_pos (by rfl)]
      go_simp
      refine (HREF.out w1').mono ?_
      rintro e w2' ⟨rfl, hb⟩
      dsimp only
      have hH2 : Below Bn W14 w2' := hHeld.trans (hb.mono hz1)
      have hz2 : Bn ≤ w2'.heap.size := Nat.le_trans hz1 hb.size
      refine hK.out _ _ hH2 (fun hHeld => ?_)
      clear hK K hH2 hb
      try simp only [Act.put, List.setIfInBounds_toArray, List.set_cons_zero, List.set_cons_succ]
      refine wpAnyH_take (i := 11) (oi := ⟨some 82, _, _, _, _, _⟩) (v := .bool true) rfl (by kernel_rfl) (by kernel_rfl) (by kernel_rfl) (fun _ _ _ h => h) (Or.inl ⟨by rfl, fun W hW => (by go_simp)⟩) (by assumption) ?_
      try simp only [Act.put, List.setIfInBounds_toArray, List.set_cons_zero, List.set_cons_succ]
      refine wpAnyH_take (i := 12) (oi := ⟨some 83, _, _, _, _, _⟩) (v := .bool true) rfl (by kernel_rfl) (by kernel_rfl) (by kernel_rfl) (fun _ _ _ h => h) (Or.inl ⟨by rfl, fun W hW => (by go_simp)⟩) (by assumption) ?_
      try simp only [Act.put, List.setIfInBounds_toArray, List.set_cons_zero, List.set_cons_succ]
      refine wpAnyH_take (i := 13) (oi := ⟨some 84, _, _, _, _, _⟩) (v := .bool true) rfl (by kernel_rfl) (by kernel_rfl) (by kernel_rfl) (fun _ _ _ h => h) (Or.inl ⟨by rfl, fun W hW => (by rfl)⟩) (by assumption) ?_
      try simp only [Act.put, List.setIfInBounds_toArray, List.set_cons_zero, List.set_cons_succ]
      refine wpAnyH_take (i := 14) (oi := ⟨some 85, _, _, _, _, _⟩) (v := .pointer (some ⟨g1, 0, none⟩)) rfl (by kernel_rfl) (by kernel_rfl) (by kernel_rfl) (fun _ _ _ h => h) (Or.inl ⟨by rfl, fun W hW => (by rfl)⟩) (by assumption) ?_
      try simp only [Act.put, List.setIfInBounds_toArray, List.set_cons_zero, List.set_cons_succ]
      refine' wpAnyH_take (i := 17) (oi := ⟨some 88, _, _, _, _, _⟩) (v := _) rfl (by kernel_rfl) (by kernel_rfl) (by kernel_rfl) (fun _ _ _ h => h) (yieldsIf_load_mid (by rfl) _ _ rfl xb 0 rfl M1 _ (fun w h => HXR.out w h) HU.out rfl HI1.out) (by assumption) ?_
      try simp only [Act.put, List.setIfInBounds_toArray, List.set_cons_zero, List.set_cons_succ]
      refine wpAnyH_ready (rs := [15]) (by kernel_rfl) (by simp) ?_
      refine AllReadyH.cons (o := ⟨some 86, _, _, _, _, _⟩) rfl (fun K hK => ?_) AllReadyH.nil
      rw [if_pos (by rfl)]
      go_simp
      refine (new_ok2 w2').mono ?_
      rintro e w3' ⟨rfl, HP, hb⟩
      obtain ⟨p, hp⟩ : ∃ p, p = w2'.heap.size := ⟨_, rfl⟩
      rw [← hp] at HP ⊢
      clear hp
      dsimp only
      have hH2 : Below Bn W14 w3' := hHeld.trans (hb.mono hz2)
      have hz3 : Bn ≤ w3'.heap.size := Nat.le_trans hz2 hb.size
      refine hK.out _ _ hH2 (fun hHeld => ?_)
      clear hK K hH2 hb
      try simp only [Act.put, List.setIfInBounds_toArray, List.set_cons_zero, List.set_cons_succ]
      refine wpAnyH_ready (rs := [16]) (by kernel_rfl) (by simp) ?_
      refine AllReadyH.cons (o := ⟨some 87, _, _, _, _, _⟩) rfl (fun K hK => ?_) AllReadyH.nil
      rw [if_pos (by rfl)]
      go_simp
      refine (HSAME2.out w3' p (C14.out.below hHeld hg1l) HP).mono ?_
      rintro e w4' ⟨rfl, hb⟩
      dsimp only
      have hH2 : Below Bn W14 w4' := hHeld.trans (hb.mono hz3)
      have hz4 : Bn ≤ w4'.heap.size := Nat.le_trans hz3 hb.size
      refine hK.out _ _ hH2 (fun hHeld => ?_)
      clear hK K hH2 hb
      try simp only [Act.put, List.setIfInBounds_toArray, List.set_cons_zero, List.set_cons_succ]
      refine wpAnyH_ready (rs := [18]) (by kernel_rfl) (by simp) ?_
      refine AllReadyH.cons (o := ⟨some 89, _, _, _, _, _⟩) rfl (fun K hK => ?_) AllReadyH.nil
      rw [if_pos (by rfl)]
      go_simp
      refine (HNW.out w4').mono ?_
      rintro e w5' ⟨rfl, hb⟩
      dsimp only
      have hH2 : Below Bn W14 w5' := hHeld.trans (hb.mono hz4)
      have hz5 : Bn ≤ w5'.heap.size := Nat.le_trans hz4 hb.size
      refine hK.out _ _ hH2 (fun hHeld => ?_)
      clear hK K hH2 hb
      try simp only [Act.put, List.setIfInBounds_toArray, List.set_cons_zero, List.set_cons_succ]
      refine wpAnyH_ready (rs := [19]) (by kernel_rfl) (by simp) ?_
      refine AllReadyH.cons (o := ⟨some 90, _, _, _, _, _⟩) rfl (fun K hK => ?_) AllReadyH.nil
      rw [if_pos (by rfl)]
      go_simp
      refine (HREF2.out w5').mono ?_
      rintro e w6' ⟨rfl, hb⟩
      dsimp only
      have hH2 : Below Bn W14 w6' := hHeld.trans (hb.mono hz5)
      have hz6 : Bn ≤ w6'.heap.size := Nat.le_trans hz5 hb.size
      refine hK.out _ _ hH2 (fun hHeld => ?_)
      clear hK K hH2 hb
      try simp only [Act.put, List.setIfInBounds_toArray, List.set_cons_zero, List.set_cons_succ]
      refine wpAnyH_take (i := 20) (oi := ⟨some 91, _, _, _, _, _⟩) (v := .bool true) rfl (by kernel_rfl) (by kernel_rfl) (by kernel_rfl) (fun _ _ _ h => h) (Or.inl ⟨by rfl, fun W hW => (by go_simp)⟩) (by assumption) ?_
      try simp only [Act.put, List.setIfInBounds_toArray, List.set_cons_zero, List.set_cons_succ]
      refine wpAnyH_take (i := 21) (oi := ⟨some 92, _, _, _, _, _⟩) (v := .bool true) rfl (by kernel_rfl) (by kernel_rfl) (by kernel_rfl) (fun _ _ _ h => h) (Or.inl ⟨by rfl, fun W hW => (by go_simp)⟩) (by assumption) ?_
      try simp only [Act.put, List.setIfInBounds_toArray, List.set_cons_zero, List.set_cons_succ]
      refine wpAnyH_take (i := 22) (oi := ⟨some 93, _, _, _, _, _⟩) (v := .bool true) rfl (by kernel_rfl) (by kernel_rfl) (by kernel_rfl) (fun _ _ _ h => h) (Or.inl ⟨by rfl, fun W hW => (by rfl)⟩) (by assumption) ?_
      try simp only [Act.put, List.setIfInBounds_toArray, List.set_cons_zero, List.set_cons_succ]
      refine wpAnyH_ready (rs := [23]) (by kernel_rfl) (by simp) ?_
      refine AllReadyH.cons (o := ⟨some 94, _, _, _, _, _⟩) rfl (fun K hK => ?_) AllReadyH.nil
      rw [if_pos (by rfl)]
      go_simp
      refine (HW.out w6').mono ?_
      rintro e w7' ⟨rfl, hb⟩
      dsimp only
      have hH2 : Below Bn W14 w7' := hHeld.trans (hb.mono hz6)
      have hz7 : Bn ≤ w7'.heap.size := Nat.le_trans hz6 hb.size
      refine hK.out _ _ hH2 (fun hHeld => ?_)
      clear hK K hH2 hb
      try simp only [Act.put, List.setIfInBounds_toArray, List.set_cons_zero, List.set_cons_succ]
      refine wpAnyH_take (i := 24) (oi := ⟨some 95, _, _, _, _, _⟩) (v := .bool true) rfl (by kernel_rfl) (by kernel_rfl) (by kernel_rfl) (fun _ _ _ h => h) (Or.inl ⟨by rfl, fun W hW => (by go_simp)⟩) (by assumption) ?_
      try simp only [Act.put, List.setIfInBounds_toArray, List.set_cons_zero, List.set_cons_succ]
      refine wpAnyH_take (i := 25) (oi := ⟨some 4, _, _, _, _, _⟩) (v := .bool true) rfl (by kernel_rfl) (by kernel_rfl) (by kernel_rfl) (fun _ _ _ h => h) (Or.inl ⟨by rfl, fun W hW => (by rfl)⟩) (by assumption) ?_
      try simp only [Act.put, List.setIfInBounds_toArray, List.set_cons_zero, List.set_cons_succ]
      refine wpAnyH_done (by kernel_rfl) ?_ _
      go_wp2
      go_ret
      exact ⟨rfl, below_step B0.out (BB14.out.trans (hHeld.mono hBB))⟩
end Go.Proofs.Ytejadoadpgcpjaa
namespace Go.Proofs.Ytejadoadpgcpjaa
open Go.ChangeShapes Go.WideShapes Go.ChangeAt Go.RowKit

set_option maxRecDepth 100000 in
theorem open_act {H : Type} {enc : TypeId × Value → H} {w : World} {base : Nat} {spare : Nat → Bool} {held : Bool} {fuel : Nat} {cs : List Value} {x : DataW H × List MemPlace}
    (h : DataW.trod enc Try.prog w base spare held fuel 75 cs = some x) (hsp : ∀ b, spare b = true) :
    ∃ q a len cap zs, cs = [.int .i64 q, .slice a len cap] ∧ IsRow .u8 w a len cap zs := by
  obtain ⟨xs, n, _, _, hl, hlen, hg⟩ := DataW.trod_struct Try.underlying75 h
  have c3 : Try.prog.cellsOf 3 = 1 := by kernel_rfl
  have c22 : Try.prog.cellsOf 22 = 1 := by kernel_rfl
  have c75 : Try.prog.cellsOf 75 = 2 := by kernel_rfl
  rw [c75] at hl
  have hx2 : xs.length = 2 := hlen
  match cs, hl with
  | [v0, v1], _ =>
    have g0 : DataW.trod enc Try.prog w base spare held n 3 (List.take (Try.prog.cellsOf 3) (List.drop 0 [v0, v1])) = xs[0]? := hg 0 _ rfl
    have g1 : DataW.trod enc Try.prog w base spare held n 22 (List.take (Try.prog.cellsOf 22) (List.drop 1 [v0, v1])) = xs[1]? := hg 1 _ rfl
    rw [c3] at g0
    rw [c22] at g1
    rw [List.getElem?_eq_getElem (by omega)] at g0 g1
    obtain ⟨q, e, _, _⟩ := DataW.trod_int Try.underlying3 g0
    obtain ⟨a, l, c, zs, hv, hr⟩ := open_bytes_row (v := v1) g1 hsp
    simp at e
    exact ⟨q, a, l, c, zs, by rw [e, hv], hr⟩
set_option maxRecDepth 100000 in
theorem open_acts2 {H : Type} {enc : TypeId × Value → H} {w : World} {base : Nat} {spare : Nat → Bool} {held : Bool} {r : Reach} {b0 : Nat} {v : Value} {d : DataW H} {p : List MemPlace}
    (hv : Value.okWide Try.prog w r b0 81 v) (h : DataW.Trod enc Try.prog w base spare held 81 v d p) (hsp : ∀ b, spare b = true) :
    ∃ (wh : Nat → Int) (PA : Nat → Option Addr) (pn pc : Nat → Nat) (z : Nat → Nat → Int), v = .agg #[.int .i64 (wh 0), .slice (PA 0) (pn 0) (pc 0), .int .i64 (wh 1), .slice (PA 1) (pn 1) (pc 1)] ∧ (∀ k, k < 2 → pn k ≤ pc k) ∧ (∀ k, k < 2 → ∀ j, j < pn k → 0 ≤ z k j ∧ z k j < 256) ∧ (∀ k, k < 2 → Row w w.heap.size (PA k) (pn k) (fun j => .int .u8 (z k j))) := by
  have hc : Try.prog.cellsOf 81 = 4 := by kernel_rfl
  have c75 : Try.prog.cellsOf 75 = 2 := by kernel_rfl
  obtain ⟨cs, rfl, hsz⟩ : ∃ cs, v = .agg cs ∧ cs.size = Try.prog.cellsOf 81 := by
    simp only [Value.okWide, Try.underlying81] at hv
    obtain ⟨cs, h1, h2, _⟩ := hv
    exact ⟨cs, h1, h2⟩
  rw [hc] at hsz
  obtain ⟨fuel, hf⟩ := h
  obtain ⟨xs, m, _, _, _, hx, hel⟩ := DataW.trod_array Try.underlying81 hf
  rw [c75] at hel
  have e0 := hel 0 (by omega)
  have e1 := hel 1 (by omega)
  rw [List.getElem?_eq_getElem (by omega)] at e0 e1
  obtain ⟨q0, a0, l0, k0, z0, h0, r0⟩ := open_act e0 hsp
  obtain ⟨q1, a1, l1, k1, z1, h1, r1⟩ := open_act e1 hsp
  refine ⟨fun k => if k = 0 then q0 else q1, fun k => if k = 0 then a0 else a1, fun k => if k = 0 then l0 else l1, fun k => if k = 0 then k0 else k1, fun k j => if k = 0 then z0.getD j 0 else z1.getD j 0, ?_, ?_, ?_, ?_⟩
  · obtain ⟨L⟩ := cs
    have hL : L.length = 4 := hsz
    match L, hL with
    | [u0, u1, u2, u3], _ =>
      simp [Value.cells] at h0 h1
      obtain ⟨rfl, rfl⟩ := h0
      obtain ⟨rfl, rfl⟩ := h1
      rfl
  · intro k hk
    rcases (by omega : k = 0 ∨ k = 1) with rfl | rfl
    · exact (isRow_u8 r0).1
    · exact (isRow_u8 r1).1
  · intro k hk
    rcases (by omega : k = 0 ∨ k = 1) with rfl | rfl
    · exact (isRow_u8 r0).2
    · exact (isRow_u8 r1).2
  · intro k hk
    rcases (by omega : k = 0 ∨ k = 1) with rfl | rfl
    · exact isRow_row r0
    · exact isRow_row r1
end Go.Proofs.Ytejadoadpgcpjaa
