/- field.Writer: put. -/
import Derived.Test.YtejadoadpgcpjaaEB
namespace Go.Proofs.Ytejadoadpgcpjaa
open Go.RowKit Go.Shelf

attribute [local go_sem] Oper.semAt_some

theorem WS.congr {w : World} {g n : Nat} {bt bs : Nat → Bool} (h : WS w g bt n) (e : ∀ j, j < n → bt j = bs j) : WS w g bs n := by
  obtain ⟨v, h1, h2⟩ := h
  exact ⟨v, h1, by rw [← pkList_congr e]; exact h2⟩
theorem WS.own {β : Type} (g : Nat) (bt : β → Nat → Bool) (n : β → Nat) : Own (fun s W => WS W g (bt s) (n s)) := by
  rintro s X Y row ⟨v, hB, hr⟩ hg hrow
  refine ⟨v, hB.grown hg (fun e => ?_), hr.kept hg ?_⟩
  · obtain ⟨o, ho, hc⟩ := hrow g e.symm
    rw [show X.heap[g]? = _ from hB] at ho; cases ho; cases hc
  · rcases hr.2 with ⟨rfl, _⟩ | ⟨r, cap, cur, rfl, _, hgb, _⟩
    · exact .inl rfl
    · refine .inr fun e' => ?_
      obtain ⟨o, ho, hc⟩ := hrow r (by simpa [Value.ownBlock] using e'.symm)
      rw [hgb] at ho; cases ho; cases hc
theorem WS.lt {w : World} {g n : Nat} {bt : Nat → Bool} (h : WS w g bt n) : g < w.heap.size := by obtain ⟨v, h1, _⟩ := h; exact h1.lt
theorem KeepsNon.others {g n : Nat} {bt : Nat → Bool} {A B : World} (h : KeepsNon g A B) (hw : WS A g bt n) (hs : A.heap.size ≤ B.heap.size) : KeepsOthers A B :=
  ⟨hs, fun k o h1 h2 => h k o h1 (fun e => by obtain ⟨v, hB, _⟩ := hw; subst e; rw [show A.heap[k]? = _ from hB] at h1; cases h1; cases h2) (fun cs f e => by subst e; cases h2)⟩

/-- the bits bt 0, .., bt (n - 1), then those of pre -/
def over (bt : Nat → Bool) (n : Nat) (pre : List Bool) (j : Nat) : Bool := if j < n then bt j else pre.getD (j - n) false
theorem over_at (bt : Nat → Bool) (n : Nat) (pre : List Bool) (x : Bool) : over bt n (pre ++ [x]) (n + pre.length) = x := by
  unfold over; rw [if_neg (by omega), Nat.add_sub_cancel_left]; simp [List.getD]
theorem over_pre (bt : Nat → Bool) (n : Nat) (pre : List Bool) (x : Bool) (j : Nat) (h : j < n + pre.length) : over bt n pre j = over bt n (pre ++ [x]) j := by
  unfold over
  split
  · rfl
  · simp only [List.getD]
    rw [List.getElem?_append_left (by omega)]
theorem fbits_made (v width : Int) (w : World) :
    Calls Try.prog 104 #[.int .u64 v, .int .i64 width] w fun e w' => e = .returned (.func (.func 106) #[] #[.pointer (some ⟨w.heap.size + 1, 0, none⟩), .pointer (some ⟨w.heap.size, 0, none⟩)]) ∧ (w.alloc (.cells #[.int .u64 v] 102)).alloc (.cells #[.int .i64 width] 3) = w' := by
  go_enter Try.func104, Try.ntmps104
  go_wp2
  go_ret
  exact ⟨rfl, rfl⟩
def PutPost (g : Nat) (bt : Nat → Bool) (n : Nat) (w : World) (e : Ending) (w' : World) : Prop := e = .returned (.tuple #[]) ∧ WS w' g bt n ∧ Below g w w'

set_option maxRecDepth 100000 in
set_option maxHeartbeats 2000000 in
theorem put_ok (g : Nat) (bt : Nat → Bool) (n v width : Nat) (hv : v < 18446744073709551616) (hw : width ≤ 64) (hn : n ≤ 100000) (hbt : ∀ k, k < width → bt (n + k) = vbit v width k) (w : World) (h : WS w g bt n) :
    Calls Try.prog 100 #[.pointer (some ⟨g, 0, none⟩), .int .u64 (v : Int), .int .i64 (width : Int)] w (PutPost g bt (n + width) w) := by
  have HBT := Lib.hid hbt
  clear hbt
  refine (callsIn_wide (n := 8)).1 ?_
  refine callsIn_of_wp_marks Try.func100 rfl trivial ?_ rfl
  simp only [Try.ntmps100, List.size_toArray, List.length_cons, List.length_nil, Nat.reduceAdd, Nat.reduceSub, Array.replicate_succ, Array.replicate_zero, List.push_toArray, List.append_toArray, List.nil_append, List.cons_append]
  gi_wp2_with (refine ⟨trivial, ?_⟩; gi_at_call 104; refine (callsIn_wide.2 (fbits_made _ _ _)).mono ?_; rintro e w3 ⟨rfl, rfl⟩)
  obtain ⟨W, hW⟩ : ∃ W, W = ((w.alloc (.cells #[.pointer (some ⟨g, 0, none⟩)] 146)).alloc (.cells #[.int .u64 (v : Int)] 102)).alloc (.cells #[.int .i64 (width : Int)] 3) := ⟨_, rfl⟩
  have hg := h.lt
  have b0 : Below w.heap.size w W := by rw [hW]; exact (((Below.refl _ w).alloc (Nat.le_refl _) _).alloc (by simp) _).alloc (by simp; omega) _
  have z0 : W.heap.size = w.heap.size + 3 := by rw [hW]; simp
  have P0 : Boxed W w.heap.size 146 (.pointer (some ⟨g, 0, none⟩)) := by rw [hW]; exact ((Boxed.new w _ _).alloc _).alloc _
  have V0 : Blk W (w.heap.size + 1) 102 #[.int .u64 (v : Int)] := by
    rw [hW]
    have := Blk.new (w.alloc (.cells #[.pointer (some ⟨g, 0, none⟩)] 146)) 102 #[.int .u64 (v : Int)]
    rw [World.size_alloc] at this
    exact this.alloc _
  have T0 : Blk W (w.heap.size + 2) 3 #[.int .i64 (width : Int)] := by
    rw [hW]
    have := Blk.new ((w.alloc (.cells #[.pointer (some ⟨g, 0, none⟩)] 146)).alloc (.cells #[.int .u64 (v : Int)] 102)) 3 #[.int .i64 (width : Int)]
    rw [World.size_alloc, World.size_alloc] at this
    exact this
  have S0 : WS W g bt n := by
    rw [hW]
    exact (WS.own (β := Unit) g (fun _ => bt) (fun _ => n)).alloc (s := ()) _ ((WS.own (β := Unit) g (fun _ => bt) (fun _ => n)).alloc (s := ()) _ ((WS.own (β := Unit) g (fun _ => bt) (fun _ => n)).alloc (s := ()) _ h))
  rw [← hW]
  clear hW
  refine wpIn_rangeFunc_ownF rfl (by decide) (gf := 106) (lb := #[.pointer (some ⟨w.heap.size + 1 + 1, 0, none⟩), .pointer (some ⟨w.heap.size + 1, 0, none⟩)]) rfl trivial (enters_of Try.func106 (by kernel_rfl) rfl)
    (fbits_stops v width hv hw (w.heap.size + 2) (w.heap.size + 1) 7 W T0 V0 (by decide)) KeepTwo.trans (keepTwo_b T0.lt V0.lt) (Below.refl _ _) (fun _ => rfl)
    (fun pre U => (WS U g (over bt n pre) (n + pre.length) ∧ Boxed U w.heap.size 146 (.pointer (some ⟨g, 0, none⟩)) ∧ Boxed U (w.heap.size + 1) 102 (.int .u64 (v : Int)) ∧ Boxed U (w.heap.size + 2) 3 (.int .i64 (width : Int))) ∧ Below g W U)
    (fun c pre U => False)
    (OwnFrom.and (OwnFrom.and (Own.from (WS.own g (fun pre => over bt n pre) (fun pre => n + pre.length)) _) (OwnFrom.and (Own.from (boxed_own w.heap.size 146 (fun _ => .pointer (some ⟨g, 0, none⟩))) _) (OwnFrom.and (Own.from (boxed_own (w.heap.size + 1) 102 (fun _ => .int .u64 (v : Int))) _) (Own.from (boxed_own (w.heap.size + 2) 3 (fun _ => .int .i64 (width : Int))) _)))) (ownFrom_below (by omega) (by omega)))
    (fun c s A B row hs hg hr => hs)
    ⟨⟨S0.congr (fun j hj => by unfold over; rw [if_pos (by simpa using hj)]), P0, V0, T0⟩, Below.refl _ _⟩
    ?a1 ?assign ?body ?done ?stop
  case assign =>
    intro l x U K hK
    gi_wp2
    exact hK
  case body =>
    rintro l pre x U ⟨⟨hS, hP, hV9, hT9⟩, hBU⟩ hlen
    have hc := hP.cell
    have HA := Lib.hid (add_ok g (over bt n (pre ++ [x])) (n + pre.length) x (bi x) rfl (over_at bt n pre x) (by omega) U (hS.congr (over_pre bt n pre x)))
    have hlt := hP.lt
    gi_wp2_with (refine ⟨trivial, ?_⟩; gi_at_call 105; refine (CallsIn.inRound l (callsIn_wide.2 HA.out)).mono ?_; rintro e U2 ⟨rfl, hS2, hB2, hk2⟩)
    have hP2 := hk2.blk (b := w.heap.size) hP (by omega) (by decide)
    have hV2 := hk2.blk (b := w.heap.size + 1) hV9 (by omega) (by decide)
    have hT2 := hk2.blk (b := w.heap.size + 2) hT9 (by omega) (by decide)
    exact ⟨hk2.others hS (by have := hB2.size; omega), ⟨hT2.trans (show U.heap[w.heap.size + 2]? = _ from hT9).symm, hV2.trans (show U.heap[w.heap.size + 1]? = _ from hV9).symm⟩, ⟨by rw [List.length_append, List.length_singleton, ← Nat.add_assoc]; exact hS2, hP2, hV2, hT2⟩, hBU.trans hB2⟩
  case stop =>
    rintro D c pre U _ _ h _
    exact h.elim
  case done =>
    rintro D xs U hD rfl ⟨⟨hS, hP, hV9, hT9⟩, hBU⟩ hK
    gi_wp2
    refine ⟨by simp, .inl ⟨_, _, rfl, run_takeDeferred hK, ?_⟩⟩
    refine ⟨.tuple #[], results_none rfl _ _ _, rfl, ?_, ?_⟩
    · rw [vbits_len] at hS
      refine WS.congr ((WS.own (β := Unit) g (fun _ => over bt n (vbits v width width)) (fun _ => n + width)).putObj (s := ()) _ hS hK rfl) (fun j hj => ?_)
      show over bt n (vbits v width width) j = bt j
      unfold over
      split
      · rfl
      · have h1 := HBT.out (j - n) (by have : j < n + width := hj; omega)
        rw [show n + (j - n) = j by omega] at h1
        have hj2 : j - n < width := by have : j < n + width := hj; omega
        rw [h1]; simp [vbits, List.getD, hj2]
    · exact ((b0.mono (Nat.le_of_lt hg)).trans hBU).grown (grownBy_putObj' _ D _) (by have := hBU.size; omega) (fun k e => by cases e; omega)
end Go.Proofs.Ytejadoadpgcpjaa
