/- field.GetAll, NewReader; header.must, got, all; the iterator of header.Fields. -/
import Derived.Test.YtejadoadpgcpjaaEN
namespace Go.Proofs.Ytejadoadpgcpjaa
open Go.RowKit Go.Shelf

attribute [local go_sem] Oper.semAt_some

theorem must_true (e : Int) (w : World) : Calls Try.prog 49 #[.bool true, .int .i64 e] w fun en w' => en = .returned (.tuple #[]) ∧ w' = w := by
  go_enter Try.func49, Try.ntmps49
  go_wp2
  go_end0
  exact ⟨rfl, rfl⟩
theorem must_false (e : Int) (w : World) : Calls Try.prog 49 #[.bool false, .int .i64 e] w fun en w' => en = .panicked [{ v := .iface 26 (.int .i64 e), recovered := false }] ∧ w' = w := by
  go_enter Try.func49, Try.ntmps49
  go_wp2
  exact ⟨rfl, rfl, rfl⟩
theorem got_ok (B : Option Addr) (n c : Nat) (w : World) : Calls Try.prog 76 #[.slice B n c, .int .i64 0] w fun en w' => en = .returned (.slice B n c) ∧ w' = w := by
  go_enter Try.func76, Try.ntmps76
  go_wp2_with (go_at_call 49; refine (must_true _ _).mono ?_; rintro e w1 ⟨rfl, rfl⟩)
  go_ret
  exact ⟨rfl, rfl⟩

theorem newReader_ok (A : Option Addr) (n c : Nat) (z : Nat → Int) (hn : n ≤ 100000) (w : World) (hr : Row w w.heap.size A n (fun j => .int .u8 (z j))) :
    Calls Try.prog 50 #[.slice A n c] w fun e w' => ∃ g A2 c2, e = .returned (.pointer (some ⟨g, 0, none⟩)) ∧ w.heap.size ≤ g ∧ RS w' g A2 n c2 z 0 ∧ (∀ a, A2 = some a → a.block < g) ∧ Below w.heap.size w w' ∧ w'.heap.size = g + 1 := by
  have HC := Lib.hid (clone_own A n c z w (by omega) hr)
  clear hr
  go_enter Try.func50, Try.ntmps50
  go_wp2_with (go_at_call 54; refine (HC.out).mono ?_; rintro e w1 ⟨A2, c2, rfl, hc2, ho, hb⟩; have HC2 := Lib.hid hc2; clear hc2)
  go_ret
  have hR := (own_map_row ho).2
  refine ⟨w1.heap.size, A2, c2, rfl, hb.size, ⟨Blk.new _ _ _, row_new hR _⟩, fun a e => ?_, below_new hb _, by simp⟩
  subst e
  exact (ho.lt a.block (by simp [Value.ownBlock])).2

def GetAllEnd (g : Nat) (z : Nat → Int) (ws : Nat → Nat) (p n : Nat) (w : World) (e : Ending) (w' : World) : Prop := EachEnd g z ws p n w e w'
theorem getAll_ok (g : Nat) (A L : Option Addr) (len cap p n lc : Nat) (z : Nat → Int) (ws : Nat → Nat) (hl : len ≤ 100000) (hn : n ≤ 1000) (hws : ∀ j, j < n → ws j ≤ 32) (hp : p + so ws n ≤ 8 * len) (hz : ∀ j, j < len → 0 ≤ z j ∧ z j < 256) (hLg : ∀ a, L = some a → a.block ≠ g) (hAg : ∀ a, A = some a → a.block < g) (w : World) (h : RS w g A len cap z p) (hL : Row w w.heap.size L n (fun j => .int .i64 (ws j : Nat))) :
    Calls Try.prog 77 #[.pointer (some ⟨g, 0, none⟩), .slice L n lc] w (EachEnd g z ws p n w) := by
  have HE := Lib.hid (each_ok g A L len cap p n lc z ws hl hn hws hp hz hLg hAg w h hL)
  have hmf : ∀ (fn : Fn) (first cap : Array Value) (w : World), (Instr.makeFunc fn first cap).run Try.prog w = .ok (.func fn first cap) w := fun _ _ _ _ => rfl
  clear hws hp hz hLg hAg h hL
  go_enter Try.func77, Try.ntmps77
  go_wp2_with (go_at_call 97; refine (HE.out).mono ?_; rintro e w1 ⟨B, c, rfl, hR, hg⟩)
  go_ret2
  exact ⟨B, c, rfl, hR, hg⟩

theorem pname_str (k : Nat) (hk : k < 10) : ∃ s, pname k = .string s :=
  ten (p := fun k => ∃ s, pname k = .string s) ⟨_, rfl⟩ ⟨_, rfl⟩ ⟨_, rfl⟩ ⟨_, rfl⟩ ⟨_, rfl⟩ ⟨_, rfl⟩ ⟨_, rfl⟩ ⟨_, rfl⟩ ⟨_, rfl⟩ ⟨_, rfl⟩ k hk
theorem pfn_func (b k : Nat) (hk : k < 10) : ∃ F caps, pfn b k = .func F #[] caps :=
  ten (p := fun k => ∃ F caps, pfn b k = .func F #[] caps) ⟨_, _, rfl⟩ ⟨_, _, rfl⟩ ⟨_, _, rfl⟩ ⟨_, _, rfl⟩ ⟨_, _, rfl⟩ ⟨_, _, rfl⟩ ⟨_, _, rfl⟩ ⟨_, _, rfl⟩ ⟨_, _, rfl⟩ ⟨_, _, rfl⟩ k hk

set_option maxRecDepth 100000 in
set_option maxHeartbeats 2000000 in
theorem fields_stops (n : Nat) (w : World) (hn : 1 ≤ n) :
    SeqStopsK Fence.wide n Try.prog 61 #[] (fun k : Nat => #[pname k, .int .i64 (pwd k : Nat)]) (fun _ _ => True) (fun xs => xs = List.range 10) (fun pre => ∃ m, m ≤ 10 ∧ pre = List.range m) 10 w := fun l J Jx W hW hJ hJx hY h0 => by
  have HY := Lib.hid hY
  have HJ := Lib.hid hJ
  clear hJ hJx hY hW
  refine callsIn_of_wp Try.func61 rfl trivial ?_ rfl
  simp only [Try.ntmps61, List.size_toArray, List.length_cons, List.length_nil, Nat.reduceAdd, Nat.reduceSub, Array.replicate_succ, Array.replicate_zero, List.push_toArray, List.append_toArray, List.nil_append, List.cons_append]
  refine wpIn_wide.2 (wp_scope_straight ((wpIn_wide (n := n)).1 ?_))
  gi_wp2
  refine wpIn_label ?_
  gi_wp2_with (refine ⟨trivial, ?_⟩; gi_at_call 53; refine (callsIn_wide.2 (parts_ok _)).mono ?_; rintro e w1 ⟨rfl, hB1, hb1⟩)
  have hJ1 : J [] w1 := HJ.out _ W w1 none h0 (grown_of_below hb1 none) (fun r h => by cases h)
  gi_loopw [5] (fun v wr => ∃ k : Nat, k ≤ 10 ∧ v = .int .i64 k ∧ J (List.range k) wr) (fun v _ => 10 - (intOf v).toNat)
  case atStart => exact ⟨0, by omega, rfl, hJ1⟩
  case round =>
    obtain ⟨k, hk, rfl, hJk⟩ := hrel
    by_cases hlt : k < 10
    · have hix : ∀ X : World, (Instr.index 106 (.agg (partsArr (W.heap.size + 1))) (.int .i64 k)).run Try.prog X = .ok (.agg #[pname k, .int .i64 (pwd k : Nat), pfn (W.heap.size + 1) k]) X := by
        exact ten (p := fun k : Nat => ∀ X : World, (Instr.index 106 (.agg (partsArr (W.heap.size + 1))) (.int .i64 k)).run Try.prog X = .ok (.agg #[pname k, .int .i64 (pwd k : Nat), pfn (W.heap.size + 1) k]) X) (fun _ => by kernel_rfl) (fun _ => by kernel_rfl) (fun _ => by kernel_rfl) (fun _ => by kernel_rfl) (fun _ => by kernel_rfl) (fun _ => by kernel_rfl) (fun _ => by kernel_rfl) (fun _ => by kernel_rfl) (fun _ => by kernel_rfl) (fun _ => by kernel_rfl) k hlt
      obtain ⟨sn, hsn⟩ := pname_str k hlt
      obtain ⟨F, caps, hF⟩ := pfn_func (W.heap.size + 1) k hlt
      rw [hsn, hF] at hix
      obtain ⟨W2, hW2⟩ : ∃ W2, W2 = wr.alloc (.cells #[.string sn, .int .i64 (pwd k : Nat), .func F #[] caps] 105) := ⟨_, rfl⟩
      have hJ2 : J (List.range k) W2 := by rw [hW2]; exact HJ.out _ wr _ none hJk (World.grownBy_alloc wr _ none) (fun r h => by cases h)
      have hY2 := HY.out (List.range k) k W2 hJ2 (by simpa using hlt)
      rw [hsn] at hY2
      obtain ⟨fn, tmps, assign, body, hy, hR⟩ := hY2
      have HRr := Lib.hid hR
      have HW2 := Lib.hid hW2
      rw [hW2] at hy
      clear hR hsn hF hW2
      gi_wp2
      rw [← HW2.out]
      refine HRr.out.mono ?_
      rintro e w4 (⟨rfl, hJ4, _⟩ | ⟨rfl, hx4⟩)
      · gi_wp2
        go_roundw
        case rel => exact ⟨k + 1, by omega, by go_num, by rw [List.range_succ]; exact hJ4⟩
        case measure => simp [intOf]; omega
      · gi_wp2
        try rw [Exit.noGoto_normal]
        go_end0
        exact ⟨⟨_, rfl⟩, .inr ⟨List.range (k + 1), ⟨k + 1, by omega, rfl⟩, by rw [List.range_succ]; exact hx4⟩⟩
    · obtain rfl : k = 10 := by omega
      gi_wp2
      try rw [Exit.noGoto_normal]
      go_end0
      exact ⟨⟨_, rfl⟩, .inl ⟨_, rfl, hJk⟩⟩
end Go.Proofs.Ytejadoadpgcpjaa
