/- The walk of HandoverEncodes. -/
import Derived.Test.YtekgahigbeceeaaHW
namespace Go.Proofs.Ytekgahigbeceeaa
open Go.RowKit

/-- what is told of a slice of bools that came in -/
def IsBools (w : World) (a : Option Addr) (len cap : Nat) (B : Nat → Bool) : Prop :=
  (a = none ∧ len = 0 ∧ cap = 0) ∨ ∃ x, a = some x ∧ len ≤ cap ∧ cap ≤ maxLen ∧ ∀ i, i < cap → w.cell? (x.add i) = some (.bool (B i))
theorem isBools_row {w : World} {a : Option Addr} {len cap : Nat} {B : Nat → Bool} (h : IsBools w a len cap B) : Row w w.heap.size a len (fun j => .bool (B j)) := by
  intro hn
  rcases h with ⟨_, h0, _⟩ | ⟨⟨b, off, spot⟩, rfl, hl, hm, hc⟩
  · omega
  · have c0 := hc 0 (by omega)
    have hspot : spot = none := by simpa [Addr.add] using World.cell?_spot c0
    subst hspot
    have hadd : ∀ j, (⟨b, off, none⟩ : Addr).add j = ⟨b, off + j, none⟩ := fun j => by unfold Addr.add; split <;> simp_all
    refine ⟨b, off, rfl, ?_, fun j hj => ?_⟩
    · rw [hadd] at c0
      exact World.block_lt_of_cell? w _ c0
    · have := hc j (by omega)
      rw [hadd] at this
      exact this
theorem isBools_len {w : World} {a : Option Addr} {len cap : Nat} {B : Nat → Bool} (h : IsBools w a len cap B) : len ≤ maxLen ∧ len ≤ cap := by
  rcases h with ⟨_, h0, _⟩ | ⟨x, _, hl, hm, _⟩
  · subst h0; exact ⟨Nat.zero_le _, Nat.zero_le _⟩
  · exact ⟨Nat.le_trans hl hm, hl⟩

theorem wf_u64_ge {n : Int} (h : (Lit.int .u64 n).wf = true) : 0 ≤ n := (by simpa [Lit.wf] using h : IntKind.u64.min ≤ n ∧ n ≤ IntKind.u64.max).1
theorem wf_u32_in {n : Int} (h : (Lit.int .u32 n).wf = true) : 0 ≤ n ∧ n < 4294967296 := by
  have h1 := (by simpa [Lit.wf] using h : IntKind.u32.min ≤ n ∧ n ≤ IntKind.u32.max)
  rw [show IntKind.u32.min = 0 from rfl, show IntKind.u32.max = 4294967295 from rfl] at h1
  omega

theorem bytes_cons (n : Nat) (z : Nat → Int) : (⟨#[16]⟩ : ByteArray) ++ bytesOf n z = bytesOf (n + 1) (fb z) := by
  refine ByteArray.ext ?_
  rw [ByteArray.data_append]
  unfold bytesOf strOfNums
  rw [List.range_succ_eq_map]
  refine Array.toList_inj.1 ?_
  simp [fb, Function.comp_def]

set_option maxRecDepth 100000 in
set_option maxHeartbeats 1600000 in
theorem handoverEncodes_walk (first : Int) (AL : Option Addr) (n c : Nat) (b : Nat → Bool) (A : Option Addr) (m d : Nat) (z : Nat → Int) (w : World) (h0 : 0 ≤ first) (hn : n ≤ maxLen) (hm : m ≤ maxLen) (hl : Row w w.heap.size AL n (fun j => .bool (b j))) (hr : Row w w.heap.size A m (fun j => .int .u8 (z j))) :
    Calls Try.prog 4 #[.int .u64 first, .slice AL n c, .slice A m d] w fun e w' => e = .returned (.bool true) ∧ Below w.heap.size w w' := by
  unfold maxLen at hn hm
  by_cases hb1 : 2100 < n
  · have hb1' : (2100 : Int) < (n : Int) := by omega
    clear hl hr
    go_enter Try.func4, Try.ntmps4
    go_wp2_with (go_at_call 13; refine (known_true _).mono ?_; rintro e w9 ⟨rfl, h9⟩)
    go_ret
    exact ⟨rfl, h9⟩
  · have hb1' : (n : Int) ≤ 2100 := by omega
    by_cases hb2 : 600 < m
    · have hb2' : (600 : Int) < (m : Int) := by omega
      clear hl hr
      go_enter Try.func4, Try.ntmps4
      go_wp2_with (go_at_call 13; refine (known_true _).mono ?_; rintro e w9 ⟨rfl, h9⟩)
      go_ret
      exact ⟨rfl, h9⟩
    · have hb2' : (m : Int) ≤ 600 := by omega
      have HL := Lib.hid hl
      have HR := Lib.hid hr
      obtain ⟨i0, hi, hz0, hz1, hz2⟩ := info_parts Try.infoByte
      have enc : ∀ (W : World), Row W W.heap.size AL n (fun j => .bool (b j)) → Calls Try.prog 18 #[.int .u64 first, .slice AL n c] W (EncAny first n b W) := fun W h => enc_any first n c AL b W h0 (by unfold maxLen; omega) h
      have enc2 : ∀ (W : World), Row W W.heap.size AL n (fun j => .bool (b j)) → Calls Try.prog 19 #[.int .u64 first, .slice AL n c] W (EncAny first n b W) := fun W h => status_any first n c AL b W h0 (by unfold maxLen; omega) h
      unfold EncAny at enc enc2
      obtain ⟨el, hel⟩ : ∃ x, x = encLen first n b := ⟨_, rfl⟩
      obtain ⟨er, her⟩ : ∃ x, x = encErr first n := ⟨_, rfl⟩
      obtain ⟨ea, hea⟩ : ∃ x, x = encAt first n b := ⟨_, rfl⟩
      rw [← hel, ← her, ← hea] at enc enc2
      have HE := Lib.hid enc
      have HE2 := Lib.hid enc2
      clear hl hr enc enc2 hel her hea
      by_cases hm0 : m = 0
      · subst hm0
        go_enter Try.func4, Try.ntmps4
        go_wp2_with (first
          | (go_at_call 18; refine (HE.out _ HL.out).mono ?_; rintro e w1 ⟨A1, c1, rfl, r1, h1⟩)
          | (go_at_call 19; refine (HE2.out _ (HL.out.next h1)).mono ?_; rintro e w2 ⟨A2, c2, rfl, r2, h2⟩; have s1 := row_string 22 9 5 Try.underlying22 Try.underlying5 Try.underlying9 (r1.next h2) c1; have s2 := row_string 22 9 5 Try.underlying22 Try.underlying5 Try.underlying9 r2 c2)
          | (at_builtin; refine wpList_append_src _ rfl _ _ 22 rfl w2.heap.size 5 i0 (.int .u8 0) 1 Try.underlying22 hi hz0 hz1 hz2 rfl _ _ _ rfl (World.ownsRow_nil _ _ _ _) w2.heap.size A 0 d (fun j => .int .u8 (z j)) rfl ((HR.out.next h1).next h2) (fun _ => rfl) (by unfold maxLen; omega) (by omega) (Nat.le_refl _) ?_; intro v1 w3 hown1 hg1 hv1; rw [Nat.zero_add, List.nil_append] at hown1; obtain ⟨A3, c3, hv, hcap, _, _, r3⟩ := own_any (f := fun j => .int .u8 (z j)) hown1 (fun j hj => by omega); subst hv; have h3 : Below w2.heap.size w2 w3 := (Below.refl w2.heap.size w2).grown hg1 (Nat.le_refl _) (fun k hk => by cases hk); have rA := (((HR.out.next h1).next h2).next h3))
          | (go_at_call 20; refine (feed_short _ _ _).mono ?_; rintro e w4 ⟨rfl, h4⟩)
          | (go_at_call 13; refine (known_true _).mono ?_; rintro e w9 ⟨rfl, h9⟩))
        go_ret
        exact ⟨ret_bool (by simp), below_step (below_step (below_step (below_step h1 h2) h3) h4) h9⟩
      · have hpos : 0 < m := by omega
        have hbs := bytesOf_size m z
        have hne : ((m : Int) == 0) = false := by simp; omega
        go_enter Try.func4, Try.ntmps4
        go_wp2_with (first
          | (go_at_call 18; refine (HE.out _ HL.out).mono ?_; rintro e w1 ⟨A1, c1, rfl, r1, h1⟩)
          | (go_at_call 19; refine (HE2.out _ (HL.out.next h1)).mono ?_; rintro e w2 ⟨A2, c2, rfl, r2, h2⟩; have s1 := row_string 22 9 5 Try.underlying22 Try.underlying5 Try.underlying9 (r1.next h2) c1; have s2 := row_string 22 9 5 Try.underlying22 Try.underlying5 Try.underlying9 r2 c2)
          | (at_builtin; refine wpList_append_src _ rfl _ _ 22 rfl w2.heap.size 5 i0 (.int .u8 0) 1 Try.underlying22 hi hz0 hz1 hz2 rfl _ _ _ rfl (World.ownsRow_nil _ _ _ _) w2.heap.size A m d (fun j => .int .u8 (z j)) rfl ((HR.out.next h1).next h2) (fun _ => rfl) (by unfold maxLen; omega) (by omega) (Nat.le_refl _) ?_; intro v1 w3 hown1 hg1 hv1; rw [Nat.zero_add, List.nil_append] at hown1; obtain ⟨A3, c3, hv, hcap, _, _, r3⟩ := own_any (f := fun j => .int .u8 (z j)) hown1 (fun j hj => by simp [hj]); subst hv; have h3 : Below w2.heap.size w2 w3 := (Below.refl w2.heap.size w2).grown hg1 (Nat.le_refl _) (fun k hk => by cases hk); have rA := (((HR.out.next h1).next h2).next h3))
          | (go_at_call 20; refine (feed_good _ _ _ z _ hpos (by omega) r3).mono ?_; rintro e w4 ⟨A4, c4, rfl, r4, h4⟩; have s3 := row_string 22 9 5 Try.underlying22 Try.underlying5 Try.underlying9 r4 c4; have s4 := row_string 22 9 5 Try.underlying22 Try.underlying5 Try.underlying9 (rA.next h4) d; have s5 := bytes_cons m z)
          | (go_at_call 13; refine (known_true _).mono ?_; rintro e w9 ⟨rfl, h9⟩))
        go_ret
        exact ⟨ret_bool (by simp), below_step (below_step (below_step (below_step h1 h2) h3) h4) h9⟩
end Go.Proofs.Ytekgahigbeceeaa
