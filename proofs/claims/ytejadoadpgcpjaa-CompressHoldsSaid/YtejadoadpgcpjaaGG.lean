/- compress: Compress. -/
import Derived.Test.YtejadoadpgcpjaaGF
import Derived.ScopeJumps
import Derived.WalkMore
namespace Go.Proofs.Ytejadoadpgcpjaa
open Go.RowKit

attribute [local go_sem ↓] Go.wp_at_zero Go.wp_at_succ

/-- a scope of which the run jumps out of no label but one, onwards: the code behind the label runs once and jumps no more -/
theorem wp_scope_on {P : Program} {a : Act} {w : World} {Q : Exit → Act → World → Prop} {c rest : Code} (l : Nat) (hf : findLabel c l = some rest)
    (h : c.wp P (Exit.jump l (fun a' w' => rest.wp P (Exit.noGoto Q) a' w') Q) a w) : (Code.scope c).wp P Q a w :=
  wp_scope_jumps l _ (fun _ _ => 0) hf h fun _ _ hJ => wp_mono hJ fun e _ _ he => by
    cases e with
    | goto l' => exact (show False from he).elim
    | normal => exact he
    | exit id => exact he
    | ret => exact he
    | panic ch => exact he
    | outgrown => exact he
theorem jump_ret (l : Nat) (J : Act → World → Prop) (Q : Exit → Act → World → Prop) (a : Act) (w : World) : Exit.jump l J Q .ret a w = Q .ret a w := rfl
theorem jump_goto (l : Nat) (J : Act → World → Prop) (Q : Exit → Act → World → Prop) (a : Act) (w : World) (h : J a w) : Exit.jump l J Q (.goto l) a w := ⟨rfl, h⟩

/-- the place that find returns -/
def cPlace (S : Nat → Rx) (X : Nat → Int) : Nat := bestI (fun k => fv (X 0) (X 1) (X 2) (X 3) (X 4) (S k)) 16
theorem bestI_lt (v : Nat → Int) : ∀ k, 0 < k → bestI v k < k
  | 0, h => absurd h (by decide)
  | k + 1, _ => by
    unfold bestI
    have := best_le v k
    split
    · omega
    · by_cases h : k = 0
      · subst h; exact Nat.lt_succ_self 0
      · have := bestI_lt v k (by omega); omega
theorem cPlace_lt (S : Nat → Rx) (X : Nat → Int) : cPlace S X < 16 := bestI_lt _ 16 (by decide)
/-- the context after its turn is set -/
def cTurned (S : Nat → Rx) (T : Int) (X : Nat → Int) : Rx := { S (cPlace S X) with turn := T + 1 }
def cKind (S : Nat → Rx) (T : Int) (X : Nat → Int) : Int := kindOf (cTurned S T X) (X 0) (X 1) (X 2) (X 3) (X 4) (X 5) (X 6) (X 7)
def cNew (S : Nat → Rx) (T : Int) (X : Nat → Int) : Rx :=
  if cKind S T X = 0 then fulled (cTurned S T X) (X 0) (X 1) (X 2) (X 3) (X 4) (X 5) (X 6) (X 7)
  else if cKind S T X = 1 then begun (cTurned S T X) (X 5) (X 6) (X 7) (kT (cTurned S T X) (X 7) / kN (cTurned S T X) (X 6))
  else cTurned S T X
def cLen (S : Nat → Rx) (T : Int) (X : Nat → Int) : Nat := if cKind S T X = 0 then 19 else if cKind S T X = 1 then 5 else 2
def cHead (S : Nat → Rx) (T : Int) (X : Nat → Int) (z : Nat → Int) (j : Nat) : Int :=
  if cKind S T X = 0 then (if j = 0 then (cNew S T X).gen else z (j - 1))
  else if cKind S T X = 1 then ([(cNew S T X).gen, kN (cTurned S T X) (X 6), kT (cTurned S T X) (X 7) / 256, kT (cTurned S T X) (X 7) % 256, X 5] : List Int).getD j 0
  else ([(cTurned S T X).gen, kN (cTurned S T X) (X 6)] : List Int).getD j 0
def cFirst (S : Nat → Rx) (T : Int) (X : Nat → Int) : Int := 64 * cKind S T X + 4 * (cPlace S X : Int)
def cState (S : Nat → Rx) (T : Int) (X : Nat → Int) : Nat → Rx := upd S (cPlace S X) (cNew S T X)
/-- the bytes behind the first: the header's and the payload's -/
def cBody (S : Nat → Rx) (T : Int) (X : Nat → Int) (n : Nat) (z : Nat → Int) : Nat → Int :=
  catY (fun k => if k = 0 then cLen S T X else n - 20) (fun k => if k = 0 then cHead S T X z else fun j => z (20 + j)) 2

def COut (len : Nat) (y : Nat → Int) (err : Int) (g : Nat) (S : Nat → Rx) (T : Int) (w : World) (e : Ending) (w' : World) : Prop :=
  ∃ A c, e = .returned (.tuple #[.slice A len c, .int .i64 err]) ∧ len ≤ c ∧ Fresh w.heap.size A ∧ Row w' w'.heap.size A len (fun j => .int .u8 (y j)) ∧ CB w' g true S T ∧ Keep1 g w w'
theorem Fresh.mono {a b : Nat} {A : Option Addr} (h : Fresh b A) (hab : a ≤ b) : Fresh a A := fun x e => Nat.le_trans hab (h x e)

set_option maxRecDepth 100000 in
set_option maxHeartbeats 1600000 in
theorem compress_none (g : Nat) (S : Nat → Rx) (T : Int) (Z : Value) (w : World) (h : CB w g false S T) :
    Calls Try.prog 32 #[.pointer (some ⟨g, 0, none⟩), Z] w fun e w' => e = .returned (.tuple #[.slice none 0 0, .int .i64 1]) ∧ Below w.heap.size w w' := by
  have HB := Lib.hid (fun o : Obj => none_ok g false S T _ (h.alloc o))
  clear h
  go_enter Try.func32, Try.ntmps32
  go_wp2
  refine wp_scope_on 0 rfl ?_
  go_wp2_with (go_at_call 62; refine (HB.out _).mono ?_; rintro e w1 ⟨rfl, rfl⟩)
  go_step3
  refine ⟨rfl, ?_⟩
  show Code.wp _ _ _ _ _
  go_wp2
  rw [Exit.noGoto_ret]
  go_ret2
  exact ⟨rfl, (Below.refl _ w).alloc (Nat.le_refl _) _⟩
set_option maxRecDepth 100000 in
set_option maxHeartbeats 1600000 in
theorem compress_nil (Z : Value) (w : World) :
    Calls Try.prog 32 #[.pointer none, Z] w fun e w' => e = .returned (.tuple #[.slice none 0 0, .int .i64 1]) ∧ Below w.heap.size w w' := by
  go_enter Try.func32, Try.ntmps32
  go_wp2
  refine wp_scope_on 0 rfl ?_
  go_wp2_with (go_at_call 62; refine (none_nil _).mono ?_; rintro e w1 ⟨rfl, rfl⟩)
  go_step3
  refine ⟨rfl, ?_⟩
  show Code.wp _ _ _ _ _
  go_wp2
  rw [Exit.noGoto_ret]
  go_ret2
  exact ⟨rfl, (Below.refl _ w).alloc (Nat.le_refl _) _⟩
set_option maxRecDepth 100000 in
set_option maxHeartbeats 1600000 in
theorem compress_bad (g : Nat) (S : Nat → Rx) (T : Int) (A : Option Addr) (n c : Nat) (w : World) (h : CB w g true S T) (he : ckErr n ≠ 0) :
    Calls Try.prog 32 #[.pointer (some ⟨g, 0, none⟩), .slice A n c] w fun e w' => e = .returned (.tuple #[.slice none 0 0, .int .i64 (ckErr n)]) ∧ Below w.heap.size w w' := by
  have HB := Lib.hid (fun o : Obj => none_ok g true S T _ (h.alloc o))
  have HC := Lib.hid (fun W => ccheck_ok A n c W)
  obtain ⟨E, hE⟩ : ∃ E, E = ckErr n := ⟨_, rfl⟩
  rw [← hE] at HC he ⊢
  have e1 : (E != 0) = true := by simpa using he
  have e2 : (E == 0) = false := by simpa using he
  clear h hE
  go_enter Try.func32, Try.ntmps32
  go_wp2
  refine wp_scope_on 0 rfl ?_
  go_wp2_with (first
    | (go_at_call 62; refine (HB.out _).mono ?_; rintro e w1 ⟨rfl, rfl⟩)
    | (go_at_call 34; refine (HC.out _).mono ?_; rintro e w1 ⟨rfl, rfl⟩))
  go_step3
  refine ⟨rfl, ?_⟩
  show Code.wp _ _ _ _ _
  go_wp2
  rw [Exit.noGoto_ret]
  go_ret2
  exact ⟨rfl, (Below.refl _ w).alloc (Nat.le_refl _) _⟩

theorem joined1_ok (b : Int) (sb : Nat) (A : Option Addr) (n c : Nat) (z : Nat → Int) (h0 : 0 < n) (hN : n ≤ 100000) (w : World) (hsb : sb < w.heap.size)
    (hc : w.cell? ⟨sb, 0, none⟩ = some (.slice A n c)) (hr : Row w w.heap.size A n (fun j => .int .u8 (z j))) :
    Calls Try.prog 63 #[.int .u8 b, .slice (some ⟨sb, 0, none⟩) 1 1] w fun e w' => ∃ B d, e = .returned (.slice B (1 + n) d) ∧ 1 + n ≤ d ∧ Fresh w.heap.size B ∧ Row w' w'.heap.size B (1 + n) (fun j => .int .u8 (joinY b z j)) ∧ Below w.heap.size w w' := by
  have H := joined_ok b 1 sb (fun _ => A) (fun _ => n) (fun _ => c) (fun _ => z) (by decide) (by simp only [tot]; omega) (by simp only [tot]; omega) w hsb (fun k hk => match k, hk with
      | 0, _ => hc
      | k + 1, h => absurd h (by omega)) (fun _ _ => hr)
  have e1 : tot (fun _ => n) 1 = n := by simp [tot]
  have e2 : catY (fun _ => n) (fun _ => z) 1 = z := by funext j; simp [catY, tot]
  rw [e1, e2] at H
  exact H.mono fun e w' ⟨B, d, he, hd, hF, hR, hB⟩ => ⟨B, d, he, hd, hF, hR, hB⟩
theorem joined2_ok (b : Int) (sb : Nat) (A0 A1 : Option Addr) (n0 c0 n1 c1 : Nat) (z0 z1 : Nat → Int) (h0 : 0 < n0) (hN : n0 + n1 ≤ 100000) (w : World) (hsb : sb < w.heap.size)
    (hc0 : w.cell? ⟨sb, 0, none⟩ = some (.slice A0 n0 c0)) (hr0 : Row w w.heap.size A0 n0 (fun j => .int .u8 (z0 j)))
    (hc1 : w.cell? ⟨sb, 1, none⟩ = some (.slice A1 n1 c1)) (hr1 : Row w w.heap.size A1 n1 (fun j => .int .u8 (z1 j))) :
    Calls Try.prog 63 #[.int .u8 b, .slice (some ⟨sb, 0, none⟩) 2 2] w fun e w' => ∃ B d, e = .returned (.slice B (1 + (n0 + n1)) d) ∧ 1 + (n0 + n1) ≤ d ∧ Fresh w.heap.size B ∧ Row w' w'.heap.size B (1 + (n0 + n1)) (fun j => .int .u8 (joinY b (fun j => if j < n0 then z0 j else z1 (j - n0)) j)) ∧ Below w.heap.size w w' := by
  have H := joined_ok b 2 sb (fun k => if k = 0 then A0 else A1) (fun k => if k = 0 then n0 else n1) (fun k => if k = 0 then c0 else c1) (fun k => if k = 0 then z0 else z1) (by decide) (by simp [tot]; omega) (by simp [tot]; omega) w hsb
    (fun k hk => match k, hk with
      | 0, _ => hc0
      | 1, _ => hc1
      | k + 2, h => absurd h (by omega))
    (fun k hk => match k, hk with
      | 0, _ => hr0
      | 1, _ => hr1
      | k + 2, h => absurd h (by omega))
  have e1 : tot (fun k => if k = 0 then n0 else n1) 2 = n0 + n1 := by simp [tot]
  have e2 : catY (fun k => if k = 0 then n0 else n1) (fun k => if k = 0 then z0 else z1) 2 = fun j => if j < n0 then z0 j else z1 (j - n0) := by
    funext j; simp [catY, tot]
  rw [e1, e2] at H
  exact H.mono fun e w' ⟨B, d, he, hd, hF, hR, hB⟩ => ⟨B, d, he, hd, hF, hR, hB⟩
theorem ckErr_zero (n : Nat) (h : ckErr n = 0) : 0 < n ∧ n ≤ 9000 := by
  unfold ckErr at h
  by_cases h0 : n = 0
  · rw [if_pos h0] at h; cases h
  · rw [if_neg h0] at h
    by_cases h9 : 9000 < n
    · rw [if_pos h9] at h; cases h
    · omega

set_option maxRecDepth 100000 in
set_option maxHeartbeats 1600000 in
theorem compress_raw (g : Nat) (S : Nat → Rx) (T : Int) (A : Option Addr) (n c : Nat) (z : Nat → Int) (w : World) (h : CB w g true S T) (he : ckErr n = 0) (hp : pErr n z ≠ 0) (hnc : n ≤ c) (hz : ∀ j, j < n → 0 ≤ z j ∧ z j < 256) (hr : Row w w.heap.size A n (fun j => .int .u8 (z j))) :
    Calls Try.prog 32 #[.pointer (some ⟨g, 0, none⟩), .slice A n c] w (COut (1 + n) (joinY 192 z) 0 g S T w) := by
  obtain ⟨n0, n9⟩ := ckErr_zero n he
  have hgl := h.lt
  have HB := Lib.hid (fun o : Obj => none_ok g true S T _ (h.alloc o))
  have HC := Lib.hid (fun W => ccheck_ok A n c W)
  rw [he] at HC
  have HP := Lib.hid (fun (W : World) (hR : Row W W.heap.size A n (fun j => .int .u8 (z j))) => parse_any A n c z hnc hz W hR)
  have HR := Lib.hid hr
  have HK := Lib.hid h
  unfold ParseEnd hdr at HP
  obtain ⟨L, hL⟩ : ∃ L, L = pLen n z := ⟨_, rfl⟩
  obtain ⟨E, hE⟩ : ∃ E, E = pErr n z := ⟨_, rfl⟩
  obtain ⟨X, hX⟩ : ∃ X, X = pHdr n z := ⟨_, rfl⟩
  rw [← hL, ← hE, ← hX] at HP
  rw [← hE] at hp
  have e1 : (E != 0) = true := by simpa using hp
  have e2 : (E == 0) = false := by simpa using hp
  clear hL hE hX h he hp hnc hz hr
  go_enter Try.func32, Try.ntmps32
  go_wp2
  refine wp_scope_on 0 rfl ?_
  go_wp2_with (first
    | (go_at_call 62; refine (HB.out _).mono ?_; rintro e w1 ⟨rfl, rfl⟩)
    | (go_at_call 34; refine (HC.out _).mono ?_; rintro e w1 ⟨rfl, rfl⟩)
    | (go_at_call 16; refine (HP.out _ (row_new HR.out _)).mono ?_; rintro e w2 ⟨P, c2, rfl, _, _, b2⟩; have B2 := Lib.hid (((Below.refl _ w).alloc (Nat.le_refl _) _).trans (b2.mono (by simp)) : Below w.heap.size w w2); have q2 := (Blk.new w 25 (hdr (fun _ => 0))).below b2 (by simp); have hl2 := q2.lt; obtain ⟨a0, a1, a2, a3, a4, a5, a6, a7, a8⟩ := Blk.nine (show Blk w2 w.heap.size 25 #[.int .i64 0, .int .i64 0, .int .i64 0, .int .i64 0, .int .i64 0, .int .i64 0, .int .i64 0, .int .i64 0, .int .i64 0] from q2); have z0 := q2.frozen 0; have z1 := q2.frozen 1; have z2 := q2.frozen 2; have z3 := q2.frozen 3; have z4 := q2.frozen 4; have z5 := q2.frozen 5; have z6 := q2.frozen 6; have z7 := q2.frozen 7; have z8 := q2.frozen 8; clear b2 q2)
    | (go_at_call 63;
       have B3 := Lib.hid (show Below w.heap.size w (((((((((w2.setCell ⟨w.heap.size, 0, none⟩ (.int .i64 (X 0))).setCell ⟨w.heap.size, 1, none⟩ (.int .i64 (X 1))).setCell ⟨w.heap.size, 2, none⟩ (.int .i64 (X 2))).setCell ⟨w.heap.size, 3, none⟩ (.int .i64 (X 3))).setCell ⟨w.heap.size, 4, none⟩ (.int .i64 (X 4))).setCell ⟨w.heap.size, 5, none⟩ (.int .i64 (X 5))).setCell ⟨w.heap.size, 6, none⟩ (.int .i64 (X 6))).setCell ⟨w.heap.size, 7, none⟩ (.int .i64 (X 7))).setCell ⟨w.heap.size, 8, none⟩ (.int .i64 (X 8))) from (((((((((B2.out.setCell (Nat.le_refl _) _).setCell (Nat.le_refl _) _).setCell (Nat.le_refl _) _).setCell (Nat.le_refl _) _).setCell (Nat.le_refl _) _).setCell (Nat.le_refl _) _).setCell (Nat.le_refl _) _).setCell (Nat.le_refl _) _).setCell (Nat.le_refl _) _));
       obtain ⟨W3, hW3⟩ : ∃ W3, W3 = (((((((((w2.setCell ⟨w.heap.size, 0, none⟩ (.int .i64 (X 0))).setCell ⟨w.heap.size, 1, none⟩ (.int .i64 (X 1))).setCell ⟨w.heap.size, 2, none⟩ (.int .i64 (X 2))).setCell ⟨w.heap.size, 3, none⟩ (.int .i64 (X 3))).setCell ⟨w.heap.size, 4, none⟩ (.int .i64 (X 4))).setCell ⟨w.heap.size, 5, none⟩ (.int .i64 (X 5))).setCell ⟨w.heap.size, 6, none⟩ (.int .i64 (X 6))).setCell ⟨w.heap.size, 7, none⟩ (.int .i64 (X 7))).setCell ⟨w.heap.size, 8, none⟩ (.int .i64 (X 8))) := ⟨_, rfl⟩;
       rw [← hW3] at B3;
       have hsz : W3.heap.size = w2.heap.size := by (rw [hW3]; simp only [World.size_setCell]);
       rw [← hW3, ← hsz]; clear hW3;
       refine (joined1_ok 192 W3.heap.size A n c z n0 (by omega) (W3.alloc (.cells #[.slice A n c] 22)) (by simp) (cell_one_new W3 (.slice A n c) _ 0 _ rfl) (row_new ((HR.out.below B3.out).more (by omega)) _)).mono ?_;
       rintro e w5 ⟨Bx, d, rfl, hd, hF5, hR5, hB5⟩))
  rw [jump_ret]
  go_ret2
  have BB : Below w.heap.size w w5 := (below_new B3.out _).trans (hB5.mono (by simp; omega))
  exact ⟨_, _, rfl, hd, hF5.mono (by have := B3.out.size; simp; omega), hR5, HK.out.below BB hgl, keep_of_below BB⟩
end Go.Proofs.Ytejadoadpgcpjaa
