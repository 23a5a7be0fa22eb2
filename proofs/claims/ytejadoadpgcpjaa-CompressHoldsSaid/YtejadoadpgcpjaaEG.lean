/- header.Valid. -/
import Derived.Test.YtejadoadpgcpjaaEF
namespace Go.Proofs.Ytejadoadpgcpjaa
open Go.RowKit

/-- the first field from k on that does not fit; d fields are left -/
def firstWrong (h : Nat → Int) : Nat → Nat → Int
  | _, 0 => -1
  | k, d + 1 => if wrongB (hval h k) (pwd k) then k else firstWrong h (k + 1) d
def anyWrong (h : Nat → Int) : Bool := decide (0 ≤ firstWrong h 0 10)
def validB (h : Nat → Int) : Bool := !anyWrong h && decide (20 ≤ h 8) && decide (h 8 ≤ 9000)
theorem firstWrong_ge (h : Nat → Int) : ∀ d k, firstWrong h k d = -1 ∨ 0 ≤ firstWrong h k d
  | 0, _ => .inl rfl
  | d + 1, k => by
    unfold firstWrong
    split
    · right; omega
    · exact firstWrong_ge h d (k + 1)

set_option maxRecDepth 100000 in
set_option maxHeartbeats 1600000 in
theorem indexFunc_ok (pb b hb c : Nat) (h : Nat → Int) (w : World) (hP : Blk w pb 106 (partsArr b)) (hB : Blk w b 3 #[.int .i64 5]) (hH : Blk w hb 25 (hdr h)) :
    Calls Try.prog 89 #[.slice (some ⟨pb, 0, none⟩) 10 c, .func (.func 57) #[] #[.pointer (some ⟨hb, 0, none⟩)]] w fun e w' => e = .returned (.int .i64 (firstWrong h 0 10)) ∧ Below w.heap.size w w' := by
  have HP := Lib.hid hP
  have HB := Lib.hid hB
  have HH := Lib.hid hH
  clear hP hB hH
  go_enter Try.func89, Try.ntmps89
  go_wp2
  go_loopw [8] (fun v wr => ∃ k : Nat, k ≤ 10 ∧ v = .int .i64 k ∧ firstWrong h 0 10 = firstWrong h k (10 - k) ∧ Below w.heap.size w wr) (fun v _ => 10 - (intOf v).toNat)
  case atStart => exact ⟨0, by omega, rfl, rfl, Below.refl _ _⟩
  case round =>
    obtain ⟨k, hk, rfl, hfw, hbw⟩ := hrel
    have HF := Lib.hid hfw
    clear hfw
    by_cases hlt : k < 10
    · obtain ⟨p0, p1, p2⟩ := parts_at b k hlt
      have BP := HP.out.below hbw HP.out.lt
      have c0 : wr.cell? ⟨pb, k * 3, none⟩ = some (pname k) := (BP.cell _).trans (by rw [Nat.mul_comm]; exact p0)
      have c1 : wr.cell? ⟨pb, k * 3 + 1, none⟩ = some (.int .i64 (pwd k : Int)) := (BP.cell _).trans (by rw [Nat.mul_comm]; exact p1)
      have c2 : wr.cell? ⟨pb, k * 3 + 2, none⟩ = some (pfn b k) := (BP.cell _).trans (by rw [Nat.mul_comm]; exact p2)
      have HC := Lib.hid (wrong_ok b hb k hlt h wr (HB.out.below hbw HB.out.lt) (HH.out.below hbw HH.out.lt))
      clear p0 p1 p2 BP
      have hstep : firstWrong h k (10 - k) = if wrongB (hval h k) (pwd k) then (k : Int) else firstWrong h (k + 1) (10 - (k + 1)) := by
        rw [show 10 - k = (10 - (k + 1)) + 1 by omega]; rfl
      cases hw : wrongB (hval h k) (pwd k) with
      | true =>
        rw [hw] at HC hstep
        have HSt := Lib.hid hstep
        clear hw hstep
        go_wp2_with (go_at_call 57; refine (HC.out).mono ?_; rintro e w2 ⟨rfl, hb2⟩)
        go_ret
        exact ⟨ret_int (by rw [HF.out, HSt.out]; simp), below_step hbw hb2⟩
      | false =>
        rw [hw] at HC hstep
        have HSt := Lib.hid hstep
        clear hw hstep
        go_wp2_with (go_at_call 57; refine (HC.out).mono ?_; rintro e w2 ⟨rfl, hb2⟩)
        go_roundw
        case rel => exact ⟨k + 1, by omega, by go_num, by rw [HF.out, HSt.out]; simp, below_step hbw hb2⟩
        case measure => simp [intOf]; omega
    · obtain rfl : k = 10 := by omega
      go_wp2
      go_ret
      exact ⟨ret_int HF.out.symm, hbw⟩

theorem containsFunc_ok (pb b hb c : Nat) (h : Nat → Int) (w : World) (hP : Blk w pb 106 (partsArr b)) (hB : Blk w b 3 #[.int .i64 5]) (hH : Blk w hb 25 (hdr h)) :
    Calls Try.prog 58 #[.slice (some ⟨pb, 0, none⟩) 10 c, .func (.func 57) #[] #[.pointer (some ⟨hb, 0, none⟩)]] w fun e w' => e = .returned (.bool (anyWrong h)) ∧ Below w.heap.size w w' := by
  have HI := Lib.hid (indexFunc_ok pb b hb c h w hP hB hH)
  obtain ⟨x, hx⟩ : ∃ x, x = firstWrong h 0 10 := ⟨_, rfl⟩
  have hA : anyWrong h = decide (0 ≤ x) := by unfold anyWrong; rw [hx]
  rw [hA]
  rw [← hx] at HI
  clear hx hA hP hB hH
  go_enter Try.func58, Try.ntmps58
  go_wp2_with (go_at_call 89; refine (HI.out).mono ?_; rintro e w2 ⟨rfl, hb2⟩)
  go_ret
  exact ⟨rfl, hb2⟩

set_option maxRecDepth 100000 in
set_option maxHeartbeats 1600000 in
theorem valid_ok (h : Nat → Int) (w : World) :
    Calls Try.prog 22 #[.agg (hdr h)] w fun e w' => e = .returned (.bool (validB h)) ∧ Below w.heap.size w w' := by
  have hall : ∀ b, (partsArr b).all (·.oneCell') = true := fun b => by kernel_rfl
  have HALL := Lib.hid hall
  have HH0 := Lib.hid (Blk.new w 25 (hdr h))
  have HCont := Lib.hid (fun pb b hb c W => containsFunc_ok pb b hb c h W)
  have HV : Hid (validB h = (!anyWrong h && decide (20 ≤ h 8) && decide (h 8 ≤ 9000))) := Lib.hid rfl
  obtain ⟨aw, haw⟩ : ∃ x, x = anyWrong h := ⟨_, rfl⟩
  obtain ⟨vb, hvb⟩ : ∃ x, x = validB h := ⟨_, rfl⟩
  rw [← haw, ← hvb] at HV
  rw [← haw] at HCont
  rw [← hvb]
  clear hall haw hvb
  unfold hdr
  go_enter Try.func22, Try.ntmps22
  go_wp2_with (first
    | (go_at_call 53; refine (parts_ok _).mono ?_; rintro e w1 ⟨rfl, hB1, hb1⟩; have hH1 := HH0.out.below hb1 (by simp); have hH2 : w1.cell? ⟨w.heap.size, 8, none⟩ = some (.int .i64 (h 8)) := hH1.cell 8)
    | (refine wpList_store_row rfl _ _ _ rfl w1.heap.size (partsArr (w.heap.size + 1 + 1)) rfl rfl 106 _ (World.alloc_heap_new w1 _) sizeParts rfl (HALL.out _) ?_)
    | (go_at_call 58; simp only [World.size_alloc] at hB1 hb1; have hl1 := hB1.lt; have hl2 := hH1.lt; refine (HCont.out w1.heap.size (w.heap.size + 1 + 1) w.heap.size 10 _ ((Blk.new w1 _ _).setRow) ((hB1.alloc _).farRow (by omega)) ((hH1.alloc _).farRow (by omega))).mono ?_; rintro e w2 ⟨rfl, hb2⟩; have hH3 : w2.cell? ⟨w.heap.size, 8, none⟩ = some (.int .i64 (h 8)) := (hb2.cell (p := ⟨w.heap.size, 8, none⟩) (by simp; omega)).trans (((hH1.alloc _).farRow (by omega)).cell 8)))
  all_goals (go_ret; exact ⟨ret_bool (by rw [HV.out]; first | (simp_all; done) | (simp_all; intros; omega)), (((Below.refl _ w).alloc (Nat.le_refl _) _).trans (hb1.mono (by omega))).alloc (by omega) _ |> fun x => (belowRow x (by omega) _).trans (hb2.mono (by simp; omega))⟩)
end Go.Proofs.Ytejadoadpgcpjaa
