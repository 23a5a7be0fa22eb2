/- The reference of chapter 42: Build. -/
import Derived.Test.YtejadoadpgcpjaaEK
namespace Go.Proofs.Ytejadoadpgcpjaa
open Go.RowKit

theorem rowIs_own {w : World} {g n base : Nat} {t : TypeId} {f : Nat → Value} (h : w.rowIs g t n f) (hb : base ≤ g) (hn : n ≤ maxLen) : w.ownsRow base t 1 (.slice (some ⟨g, 0, none⟩) n n) n ((List.range n).map f) := by
  obtain ⟨c, h1, h2, h3⟩ := h
  refine ⟨by simp, .inr ⟨g, n, c, rfl, hb, h1, Nat.le_refl _, hn, by omega, ?_⟩⟩
  refine List.ext_getElem? fun j => ?_
  rw [Nat.mul_one, List.getElem?_take]
  by_cases hj : j < n
  · rw [if_pos hj, Array.getElem?_toList, h3 j hj]; simp [hj]
  · rw [if_neg hj, List.getElem?_eq_none (by simp; omega)]

theorem rbuild_bad (h : Nat → Int) (A : Option Addr) (n c : Nat) (hn : n ≤ 1000000) (hv : validB (withLen h (20 + n)) = false) (w : World) :
    Calls Try.prog 20 #[.agg (hdr h), .slice A n c] w fun e w' => e = .returned (.tuple #[.slice none 0 0, .int .i64 2]) ∧ Below w.heap.size w w' := by
  have HE := Lib.hid (fun W => rvalid_ok (withLen h (20 + n)) W)
  rw [hv] at HE
  unfold hdr withLen at HE
  simp at HE
  unfold hdr
  clear hv
  go_enter Try.func20, Try.ntmps20
  go_wp2_with (go_at_call 23; refine (HE.out _).mono ?_; rintro e w1 ⟨rfl, hb1⟩)
  go_ret2
  exact ⟨rfl, ((Below.refl _ w).alloc (Nat.le_refl _) _).trans (hb1.mono (by simp))⟩

set_option maxRecDepth 100000 in
set_option maxHeartbeats 1600000 in
theorem rbuild_good (h : Nat → Int) (A : Option Addr) (n c : Nat) (z : Nat → Int) (hn : n ≤ 1000000) (hv : validB (withLen h (20 + n)) = true) (w : World) (hr : Row w w.heap.size A n (fun j => .int .u8 (z j))) :
    Calls Try.prog 20 #[.agg (hdr h), .slice A n c] w (BuildEnd h z n w) := by
  have haw : anyWrong (withLen h (20 + n)) = false := by
    have := hv
    unfold validB at this
    simp at this
    exact this.1.1
  have HV := Lib.hid (fun W => rvalid_ok (withLen h (20 + n)) W)
  have HE := Lib.hid (fun W => bytes42_ok (withLen h (20 + n)) haw W)
  have HH := Lib.hid (Blk.new w 25 (hdr (withLen h (20 + n))))
  have HR := Lib.hid hr
  obtain ⟨i0, hi, hz0, hz1, hz2⟩ := info_parts Try.infoByte
  rw [hv] at HV
  unfold BytesEnd hdr at HE
  obtain ⟨hb, hhb⟩ : ∃ x, x = hdrBits (withLen h (20 + n)) := ⟨_, rfl⟩
  rw [← hhb] at HE
  have HHB := Lib.hid hhb
  unfold hdr withLen at HV HH
  unfold withLen at HE
  simp at HE HV HH
  unfold hdr
  clear hv hr hhb haw
  go_enter Try.func20, Try.ntmps20
  go_wp2_with (first
    | (go_at_call 23; refine (HV.out _).mono ?_; rintro e w0 ⟨rfl, hb0⟩; have h0 : Below w.heap.size w w0 := ((Below.refl _ w).alloc (Nat.le_refl _) _).trans (hb0.mono (by simp)); have BH := HH.out.below hb0 (by simp); have q0 : w0.cell? ⟨w.heap.size, 0, none⟩ = some (.int .i64 (h 0)) := BH.cell 0; have q1 : w0.cell? ⟨w.heap.size, 1, none⟩ = some (.int .i64 (h 1)) := BH.cell 1; have q2 : w0.cell? ⟨w.heap.size, 2, none⟩ = some (.int .i64 (h 2)) := BH.cell 2; have q3 : w0.cell? ⟨w.heap.size, 3, none⟩ = some (.int .i64 (h 3)) := BH.cell 3; have q4 : w0.cell? ⟨w.heap.size, 4, none⟩ = some (.int .i64 (h 4)) := BH.cell 4; have q5 : w0.cell? ⟨w.heap.size, 5, none⟩ = some (.int .i64 (h 5)) := BH.cell 5; have q6 : w0.cell? ⟨w.heap.size, 6, none⟩ = some (.int .i64 (h 6)) := BH.cell 6; have q7 : w0.cell? ⟨w.heap.size, 7, none⟩ = some (.int .i64 (h 7)) := BH.cell 7; have q8 : w0.cell? ⟨w.heap.size, 8, none⟩ = some (.int .i64 (20 + (n : Int))) := BH.cell 8)
    | (go_at_call 24; refine (HE.out _).mono ?_; rintro e w1 ⟨g, rfl, hg, hR1, hb1⟩; have h1 : Below w.heap.size w w1 := below_step h0 hb1; have ho1 := rowIs_own (base := w.heap.size) hR1 (by have := h0.size; omega) (by decide))
    | (at_builtin; refine wpList_append_src _ rfl _ _ 22 rfl w.heap.size 5 i0 (.int .u8 0) 1 Try.underlying22 hi hz0 hz1 hz2 rfl _ _ _ rfl ho1 w1.heap.size A n c (fun j => .int .u8 (z j)) rfl (HR.out.next h1) (fun _ => rfl) (by unfold maxLen; omega) (by omega) h1.size ?_; intro v2 w2 hown2 hg2 hv2))
  go_ret2
  have hg2' : w1.grownBy w2 (Value.slice (some ⟨g, 0, none⟩) 20 20).ownBlock := hg2
  have hbw : Below w.heap.size w w2 := h1.grown hg2' h1.size (fun k hk => (ho1.lt k hk).1)
  rw [HHB.out, pkt_list] at hown2
  obtain ⟨A2, c2, hv, hcap, _, _, _⟩ := own_any (f := fun j => .int .u8 (pktAt (withLen h (20 + n)) z j)) hown2 (fun j hj => by simp [hj])
  subst hv
  exact ⟨A2, c2, rfl, hcap, hown2, hbw⟩
end Go.Proofs.Ytejadoadpgcpjaa
