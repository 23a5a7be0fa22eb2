/- header.Build. -/
import Derived.Test.YtejadoadpgcpjaaEH
namespace Go.Proofs.Ytejadoadpgcpjaa
open Go.RowKit

/-- the header with its length field set -/
def withLen (h : Nat → Int) (n : Int) (k : Nat) : Int := if k = 8 then n else h k
/-- byte j of the packet -/
def pktAt (h : Nat → Int) (z : Nat → Int) (j : Nat) : Int := if j < 20 then ((HM.pk (hdrBits h) 160 j : Nat) : Int) else z (j - 20)

theorem build_bad (h : Nat → Int) (A : Option Addr) (n c : Nat) (hn : n ≤ 1000000) (hv : validB (withLen h (20 + n)) = false) (w : World) :
    Calls Try.prog 19 #[.agg (hdr h), .slice A n c] w fun e w' => e = .returned (.tuple #[.slice none 0 0, .int .i64 2]) ∧ Below w.heap.size w w' := by
  have HE := Lib.hid (fun W => encode_bad (withLen h (20 + n)) hv W)
  unfold hdr withLen at HE
  simp at HE
  unfold hdr
  clear hv
  go_enter Try.func19, Try.ntmps19
  go_wp2_with (go_at_call 21; refine (HE.out _).mono ?_; rintro e w1 ⟨rfl, hb1⟩)
  go_ret2
  exact ⟨rfl, ((Below.refl _ w).alloc (Nat.le_refl _) _).trans (hb1.mono (by simp))⟩

def BuildEnd (h : Nat → Int) (z : Nat → Int) (n : Nat) (w : World) (e : Ending) (w' : World) : Prop :=
  ∃ A c, e = .returned (.tuple #[.slice A (20 + n) c, .int .i64 0]) ∧ 20 + n ≤ c ∧ w'.ownsRow w.heap.size 5 1 (.slice A (20 + n) c) (20 + n) ((List.range (20 + n)).map (fun j => .int .u8 (pktAt (withLen h (20 + n)) z j))) ∧ Below w.heap.size w w'
theorem pkt_list (h z : Nat → Int) (n : Nat) : (List.range 20).map (fun j => Value.int .u8 ((HM.pk (hdrBits h) 160 j : Nat) : Int)) ++ (List.range n).map (fun j => Value.int .u8 (z j)) = (List.range (20 + n)).map (fun j => Value.int .u8 (pktAt h z j)) := by
  rw [List.range_add, List.map_append, List.map_map]
  have e1 : (List.range 20).map (fun j => Value.int .u8 ((HM.pk (hdrBits h) 160 j : Nat) : Int)) = (List.range 20).map (fun j => Value.int .u8 (pktAt h z j)) :=
    List.map_congr_left fun j hj => by
      have : j < 20 := by simpa using hj
      unfold pktAt; rw [if_pos this]
  have e2 : (List.range n).map (fun j => Value.int .u8 (z j)) = (List.range n).map ((fun j => Value.int .u8 (pktAt h z j)) ∘ fun x => 20 + x) :=
    List.map_congr_left fun j _ => by
      show _ = Value.int .u8 (pktAt h z (20 + j))
      unfold pktAt; rw [if_neg (by omega), Nat.add_sub_cancel_left]
  rw [e1, e2]

set_option maxRecDepth 100000 in
set_option maxHeartbeats 1600000 in
theorem build_good (h : Nat → Int) (A : Option Addr) (n c : Nat) (z : Nat → Int) (hn : n ≤ 1000000) (hv : validB (withLen h (20 + n)) = true) (w : World) (hr : Row w w.heap.size A n (fun j => .int .u8 (z j))) :
    Calls Try.prog 19 #[.agg (hdr h), .slice A n c] w (BuildEnd h z n w) := by
  have HE := Lib.hid (fun W => encode_good (withLen h (20 + n)) hv W)
  have HR := Lib.hid hr
  obtain ⟨i0, hi, hz0, hz1, hz2⟩ := info_parts Try.infoByte
  unfold EncEnd hdr at HE
  obtain ⟨hb, hhb⟩ : ∃ x, x = hdrBits (withLen h (20 + n)) := ⟨_, rfl⟩
  rw [← hhb] at HE
  have HHB := Lib.hid hhb
  unfold withLen at HE
  simp at HE
  unfold hdr
  clear hv hr hhb
  go_enter Try.func19, Try.ntmps19
  go_wp2_with (first
    | (go_at_call 21; refine (HE.out _).mono ?_; rintro e w1 ⟨A1, c1, rfl, hc1, ho1, hb1⟩; have HC1 := Lib.hid hc1; clear hc1; have h1 : Below w.heap.size w w1 := ((Below.refl _ w).alloc (Nat.le_refl _) _).trans (hb1.mono (by simp)))
    | (at_builtin; refine wpList_append_src _ rfl _ _ 22 rfl w.heap.size 5 i0 (.int .u8 0) 1 Try.underlying22 hi hz0 hz1 hz2 rfl _ _ _ rfl (ownsRow_mono ho1 (by simp)) w1.heap.size A n c (fun j => .int .u8 (z j)) rfl (HR.out.next h1) (fun _ => rfl) (by unfold maxLen; omega) (by omega) h1.size ?_; intro v2 w2 hown2 hg2 hv2))
  go_ret2
  have hg2' : w1.grownBy w2 (Value.slice A1 20 c1).ownBlock := hg2
  have hbw : Below w.heap.size w w2 := h1.grown hg2' h1.size (fun k hk => ((ownsRow_mono ho1 (show w.heap.size ≤ _ by simp)).lt k hk).1)
  rw [HHB.out, pkt_list] at hown2
  obtain ⟨A2, c2, hv, hcap, _, _, _⟩ := own_any (f := fun j => .int .u8 (pktAt (withLen h (20 + n)) z j)) hown2 (fun j hj => by simp [hj])
  subst hv
  exact ⟨A2, c2, rfl, hcap, hown2, hbw⟩
end Go.Proofs.Ytejadoadpgcpjaa
