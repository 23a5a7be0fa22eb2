/- the reference receiver: has, Status. -/
import Derived.Test.YtknlipjgehgihaaOG
namespace Go.Proofs.Ytknlipjgehgihaa
open Go.RowKit

attribute [local go_sem ↓] Go.wp_at_zero Go.wp_at_succ

set_option maxRecDepth 100000 in
set_option maxHeartbeats 1600000 in
theorem rhas_ok (g : Nat) (A : Option Addr) (m c : Nat) (n : Int) (ct : Nat → Int) (PA : Nat → Option Addr) (pn pc : Nat → Nat) (z : Nat → Nat → Int) (w : World) (hm : m ≤ maxLen) (h : Cnts w A m ct PA pn pc z) (hs : w.cell? ⟨g, 42, none⟩ = some (.slice A m c)) :
    Calls Try.prog 32 #[.pointer (some ⟨g, 0, none⟩), .int .u64 n] w fun e w' => e = .returned (.bool (decide (∃ j, j < m ∧ ct j = n))) ∧ w = w' := by
  unfold maxLen at hm
  have HC := Lib.hid h
  clear h
  go_enter Try.func32, Try.ntmps32
  go_wp2
  go_loopw [5] (fun v5 wr => ∃ k : Nat, k ≤ m ∧ v5 = .int .i64 k ∧ (∀ j, j < k → ct j ≠ n) ∧ w = wr) (fun v5 _ => m - (intOf v5).toNat)
  case atStart => exact ⟨0, by omega, rfl, fun j hj => absurd hj (Nat.not_lt_zero _), rfl⟩
  case round =>
    obtain ⟨k, hk, rfl, hno, rfl⟩ := hrel
    have HNO := Lib.hid hno
    clear hno
    by_cases hlt : k < m
    · obtain ⟨lb, lo, rfl, hlb, hlc⟩ := HC.out.at_ (by omega)
      obtain ⟨q0, -⟩ := hlc k hlt
      obtain ⟨r0, r1⟩ := HC.out.rng k hlt
      have k0 : (0 : Int) ≤ (k : Int) := by omega
      have k1 : (k : Int) < (m : Int) := by omega
      have HX : Hid (∃ j, j < m ∧ ct j = ct k) := Lib.hid ⟨k, hlt, rfl⟩
      have HX2 : Hid (∀ x, x = ct k → x ≠ n → ∀ j, j < k + 1 → ct j ≠ n) := Lib.hid (fun x e1 e2 j hj => by
        by_cases hjk : j < k
        · exact HNO.out j hjk
        · obtain rfl : j = k := by omega
          rw [← e1]; exact e2)
      obtain ⟨x, hx⟩ : ∃ x, x = ct k := ⟨_, rfl⟩
      have HXX := Lib.hid hx
      rw [← hx] at q0 r0 r1 HX
      clear hx hlc
      by_cases heq : x = n
      · subst heq
        have HD := Lib.hid (show decide (∃ j, j < m ∧ ct j = x) = true from by simpa using HX.out)
        clear HX
        go_wp2
        go_ret
        exact ⟨by rw [HD.out]; first | done | rfl, rfl⟩
      · have he2 : (x == n) = false := by simpa using heq
        have HQ := Lib.hid (HX2.out x HXX.out heq)
        clear HX HX2
        go_wp2
        go_roundw
        case rel => exact ⟨k + 1, by omega, by go_num, HQ.out, trivial⟩
        case measure => simp [intOf]; omega
    · obtain rfl : k = m := by omega
      have HD := Lib.hid (show decide (∃ j, j < k ∧ ct j = n) = false from by
        simp only [decide_eq_false_iff_not]
        rintro ⟨j, hj, e⟩
        exact HNO.out j hj e)
      go_wp2
      go_ret
      exact ⟨by rw [HD.out]; first | done | rfl, rfl⟩
/-- the reference's bit j -/
def rfB (m : Nat) (ct : Nat → Int) (d : Int) (j : Nat) : Bool := decide (∃ i, i < m ∧ ct i = d + 1 + (j : Int))
theorem rfB_eq (m : Nat) (ct : Nat → Int) (d : Int) (L : List Int) (h : ∀ x, x ∈ L ↔ ∃ j, j < m ∧ ct j = x) (j : Nat) : stB L d j = rfB m ct d j := by
  unfold stB rfB
  exact decide_eq_decide.mpr (h _)
set_option maxRecDepth 100000 in
set_option maxHeartbeats 3200000 in
theorem rfstat_ok (g : Nat) (A : Option Addr) (m c : Nat) (d nx : Int) (ct : Nat → Int) (PA : Nat → Option Addr) (pn pc : Nat → Nat) (z : Nat → Nat → Int) (w : World) (hm : m ≤ maxLen) (h : Cnts w A m ct PA pn pc z) (hg : g < w.heap.size)
    (hs : w.cell? ⟨g, 42, none⟩ = some (.slice A m c)) (hsd : w.cell? ⟨g, 40, none⟩ = some (.int .u64 d)) (hsn : w.cell? ⟨g, 41, none⟩ = some (.int .u64 nx)) (hd : 0 ≤ d) (hh : headOk d nx) :
    Calls Try.prog 11 #[.pointer (some ⟨g, 0, none⟩)] w fun e w' => ∃ A c, e = .returned (.slice A (stN d nx) c) ∧ stN d nx ≤ c ∧ Row w' w'.heap.size A (stN d nx) (fun j => .bool (rfB m ct d j)) ∧ Below w.heap.size w w' := by
  obtain ⟨h1, h2, h3⟩ := hh
  obtain ⟨i0, hi0, hz0, hz1, hz2⟩ := info_parts Try.infoBool
  have HHAS := Lib.hid (fun n W h1 h2 => rhas_ok g A m c n ct PA pn pc z W hm h1 h2)
  have HC := Lib.hid h
  have HG := Lib.hid hg
  have C42 := Lib.hid hs
  have C41 := Lib.hid hsn
  have hsz : (stN d nx : Int) = if nx = d then 0 else nx - d - 1 := by unfold stN; split <;> omega
  have hw1 : IntKind.u64.wrap (d + 1) = d + 1 := by simp [IntKind.wrap_u64]; omega
  have d0 : 0 ≤ d + 1 := by omega
  have HSN := Lib.hid hsz
  clear h hs hsn hsz hg
  go_enter Try.func11, Try.ntmps11
  go_wp2
  go_loopw [3, 4] (fun v3 v4 wr => ∃ (k : Nat), k ≤ stN d nx ∧ v4 = .int .u64 (d + 1 + k) ∧ wr.ownsRow w.heap.size 4 1 v3 k ((List.range k).map fun j => Value.bool (rfB m ct d j)) ∧ Below w.heap.size w wr) (fun _ v4 _ => (nx - intOf v4).toNat)
  case atStart => exact ⟨0, by omega, by simp, World.ownsRow_nil _ _ _ _, Below.refl _ _⟩
  case round =>
    obtain ⟨k, hk, rfl, hown, hB⟩ := hrel
    have hs := HSN.out
    have y0 : wr.cell? ⟨g, 41, none⟩ = some (.int .u64 nx) := (hB.cell (p := ⟨g, 41, none⟩) HG.out).trans C41.out
    have y1 : wr.cell? ⟨g, 42, none⟩ = some (.slice A m c) := (hB.cell (p := ⟨g, 42, none⟩) HG.out).trans C42.out
    have HY1 := Lib.hid y1
    have HHC := Lib.hid (HC.out.below hB)
    have HOW := Lib.hid hown
    have BR := Lib.hid hB
    have hbs := hB.size
    by_cases hlt : k < stN d nx
    · have t1 : d + 1 + (k : Int) < nx := by split at hs <;> omega
      have tw : IntKind.u64.wrap (d + 1 + (k : Int) + 1) = d + 1 + (k : Int) + 1 := by simp [IntKind.wrap_u64]; omega
      have t2 : 0 ≤ d + 1 + (k : Int) := by omega
      have hk2 : k ≤ 2048 := by split at hs <;> omega
      have HBB := Lib.hid (show rfB m ct d k = decide (∃ i, i < m ∧ ct i = d + 1 + (k : Int)) from rfl)
      have HCL := Lib.hid (HHAS.out (d + 1 + (k : Int)) wr HHC.out HY1.out)
      obtain ⟨bv, hbv⟩ : ∃ bv, bv = decide (∃ i, i < m ∧ ct i = d + 1 + (k : Int)) := ⟨_, rfl⟩
      rw [← hbv] at HCL HBB
      obtain ⟨n, hn⟩ : ∃ n, n = d + 1 + (k : Int) := ⟨_, rfl⟩
      have HNN := Lib.hid hn
      rw [← hn] at HCL t1 tw t2 ⊢
      clear hs hn hbv hB y1
      go_wp2_with (first
        | (go_at_call 32; refine (HCL.out).mono ?_; rintro e w1 ⟨rfl, rfl⟩)
        | (at_builtin; refine wpList_append_own _ rfl _ _ 43 rfl w.heap.size 4 i0 (.bool false) 1 1 Try.underlying43 hi0 hz0 hz1 hz2 rfl (by decide) _ _ _ rfl (HOW.out.alloc _) ⟨wr.heap.size, 0, none⟩ 1 1 [.bool bv] rfl rfl (cell_one_new _ _ _) (by simp [Value.oneCell']) (by unfold maxLen; omega) (by omega) (by simp; omega) ?_; intro v' w2 hown' hgrow _; have HO2 := Lib.hid hown'; have HG2 := Lib.hid hgrow; clear hown' hgrow))
      have BF := Lib.hid (show Below w.heap.size w w2 from BR.out.trans (((Below.refl _ wr).alloc hbs _).grown HG2.out (by simp; omega) (fun j e => (HOW.out.lt j e).1)))
      have OF := Lib.hid (show w2.ownsRow w.heap.size 4 1 v' (k + 1) ((List.range (k + 1)).map fun j => Value.bool (rfB m ct d j)) from by
        rw [List.range_succ, List.map_append]
        have := HO2.out
        simpa [HBB.out] using this)
      go_roundw
      case rel => first | exact ⟨k + 1, by omega, by rw [HNN.out]; go_num, OF.out, BF.out⟩ | ((repeat apply Exists.intro); exact ⟨⟨k + 1, by omega, by rw [HNN.out]; go_num, OF.out, BF.out⟩, rfl⟩)
      case measure => simp [intOf]; omega
    · have hke : k = stN d nx := by omega
      have t1 : ¬ d + 1 + (k : Int) < nx := by split at hs <;> omega
      obtain ⟨A2, cp, rfl, hcp, _, _, hrow⟩ := own_any (f := fun j => .bool (rfB m ct d j)) hown (fun j hj => by simp [hj])
      have HRW := Lib.hid hrow
      have HKE := Lib.hid hke
      clear hs hown hrow hke
      go_wp2
      go_ret
      exact ⟨A2, cp, by rw [← HKE.out]; first | done | rfl, by rw [← HKE.out]; exact hcp, by rw [← HKE.out]; exact HRW.out, BR.out⟩
end Go.Proofs.Ytknlipjgehgihaa
