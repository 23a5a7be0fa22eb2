/- PdcptxExpires: the walk. -/
import Derived.Test.YtiffminhlimajaaGreatZV
namespace Go.Proofs.YtiffminhlimajaaGreat
open Go.RowKit
set_option linter.unusedVariables false
attribute [local go_sem ↓] Go.wp_at_zero Go.wp_at_succ

/-- a transmitter of blocks that w0 had not, and blocks N of others -/
def SoloN (w0 w : World) (g : Nat) (s : TS) (N : Nat → Prop) : Prop := ∃ W R, TxI w g s W R ∧ (∀ k, W k → w0.heap.size ≤ k) ∧ Below w0.heap.size w0 w ∧ (∀ k, N k → w0.heap.size ≤ k ∧ k < w.heap.size ∧ ¬ W k ∧ ¬ R k)
section
variable {w0 w w' : World} {g : Nat} {s : TS} {N N' : Nat → Prop}
theorem SoloN.of (h : Solo w0 w g s) : SoloN w0 w g s (fun _ => False) := by
  obtain ⟨W, R, h1, h2, h3⟩ := h
  exact ⟨W, R, h1, h2, h3, fun k hk => hk.elim⟩
theorem SoloN.low (h : SoloN w0 w g s N) : Below w0.heap.size w0 w := by
  obtain ⟨W, R, h1, h2, h3, h4⟩ := h
  exact h3
theorem SoloN.solo (h : SoloN w0 w g s N) : Solo w0 w g s := by
  obtain ⟨W, R, h1, h2, h3, h4⟩ := h
  exact ⟨W, R, h1, h2, h3⟩
theorem SoloN.below (h : SoloN w0 w g s N) (hb : Below w.heap.size w w') : SoloN w0 w' g s N := by
  obtain ⟨W, R, h1, h2, h3, h4⟩ := h
  exact ⟨W, R, h1.below hb, h2, h3.trans (hb.mono h3.size), fun k hk => ⟨(h4 k hk).1, Nat.lt_of_lt_of_le (h4 k hk).2.1 hb.size, (h4 k hk).2.2⟩⟩
/-- others' blocks changed -/
theorem SoloN.other (h : SoloN w0 w g s N) (hk : KeepF N w w') (hN : ∀ k, N' k → (N k ∨ w.heap.size ≤ k) ∧ k < w'.heap.size) : SoloN w0 w' g s N' := by
  obtain ⟨W, R, h1, h2, h3, h4⟩ := h
  have hs := h3.size
  refine ⟨W, R, h1.keepF hk (fun k hn => (h4 k hn).2.2), h2, KeepF.below h3 hk (fun k hn => (h4 k hn).1) hs, fun k hn => ?_⟩
  obtain ⟨h5 | h5, h6⟩ := hN k hn
  · exact ⟨(h4 k h5).1, h6, (h4 k h5).2.2⟩
  · exact ⟨by omega, h6, fun hw => by have := h1.win k hw; omega, fun hr => by have := h1.rin k hr; omega⟩
theorem SoloN.call (h : SoloN w0 w g s N) : ∃ W R, TxI w g s W R ∧ ∀ w' s', TxO W R w w' g s' → SoloN w0 w' g s' N ∧ ∀ k, N k → w'.heap[k]? = w.heap[k]? := by
  obtain ⟨W, R, h1, h2, h3, h4⟩ := h
  refine ⟨W, R, h1, fun w' s' hO => ?_⟩
  obtain ⟨W', R', hI, hW, hR, hK⟩ := hO
  have hs := h3.size
  refine ⟨⟨W', R', hI, fun k hk => ?_, KeepF.below h3 hK (fun k hk => h2 k hk) hs, fun k hk => ?_⟩, fun k hk => hK.block k (h4 k hk).2.1 (h4 k hk).2.2.1⟩
  · rcases hW k hk with h | h
    · exact h2 k h
    · omega
  · have h5 := h4 k hk
    refine ⟨h5.1, Nat.lt_of_lt_of_le h5.2.1 hK.size, fun hw => ?_, fun hr => ?_⟩
    · rcases hW k hw with h | h
      · exact h5.2.2.1 h
      · omega
    · rcases hR k hr with h | h
      · exact h5.2.2.2 h
      · omega
theorem solon_sub1 (h : SoloN w0 w g s N) (hf : s.Fine) (hcm : s.C.cm = false) (hql : s.Q.length ≤ 1000000) (t : Int) (ht1 : -9223372036854775808 ≤ t) (ht2 : t ≤ 9223372036854775807) (v : Int) (hv : 0 ≤ v ∧ v < 256) :
    Calls Tryz.prog 22 #[.pointer (some ⟨g, 0, none⟩), .int .i64 t, .slice (some ⟨w.heap.size, 0, none⟩) 1 1] (w.alloc (.cells #[.int .u8 v] 5)) fun e w' => e = .returned (.int .i64 (s.submit t 1 (fun _ => v)).1) ∧ SoloN w0 w' g (s.submit t 1 (fun _ => v)).2 N ∧ ∀ k, N k → w'.heap[k]? = w.heap[k]? := by
  obtain ⟨W, R, hI, hc⟩ := h.call
  have hb : Below w.heap.size w (w.alloc (.cells #[.int .u8 v] 5)) := (Below.refl _ _).alloc (Nat.le_refl _) _
  have hB : Blk (w.alloc (.cells #[.int .u8 v] 5)) w.heap.size 5 #[.int .u8 v] := Blk.new _ _ _
  refine (tsubmit_ok g s W R _ (hI.below hb) hf hcm hql t ht1 ht2 (some ⟨w.heap.size, 0, none⟩) 1 1 (fun _ => v) ⟨fun _ => ⟨_, _, rfl, by simp, fun j hj => ?_⟩, fun j hj => hv, fun a ha _ hw => ?_⟩ (by decide)).mono ?_
  · obtain rfl : j = 0 := by omega
    rw [Nat.zero_add, hB.cell]
    rfl
  · cases ha
    have := hI.win _ hw
    exact absurd this (Nat.lt_irrefl _)
  · rintro e w' ⟨he, hO⟩
    exact ⟨he, hc _ _ (TxO.comp (fun _ h => .inl h) (fun _ h => .inl h) (KeepF.of_below hb) hO)⟩
theorem solon_next (h : SoloN w0 w g s N) (hf : s.Fine) (hig : s.C.ig = false) (hcm : s.C.cm = false) (hpl : s.P.length ≤ 1000000) (t : Int) (ht1 : -9223372036854775808 ≤ t) (ht2 : t ≤ 9223372036854775807) :
    Calls Tryz.prog 18 #[.pointer (some ⟨g, 0, none⟩), .int .i64 t] w fun e w' => ∃ A c, e = .returned (.tuple #[.slice A (s.send t).n c, .int .u32 (s.send t).ct, .int .i64 (s.send t).e]) ∧ (s.send t).n ≤ c ∧ Row w' w'.heap.size A (s.send t).n (fun j => .int .u8 (((s.send t).z j : Nat) : Int)) ∧ SoloN w0 w' g (s.send t).s N ∧ (∀ k, N k → w'.heap[k]? = w.heap[k]?) := by
  obtain ⟨W, R, hI, hc⟩ := h.call
  refine (tNext_ok g s W R w hI hf t ht1 ht2 (builds_plain g s.C hf.ok hf.val hig hcm) hpl).mono ?_
  rintro e w' ⟨A, c, W', R', h1, h2, h3, h4, h5, h6, h7, h8⟩
  exact ⟨A, c, h1, h2, h3, hc w' _ ⟨W', R', h4, h5, h6, h7⟩⟩
end
theorem infoI : ∃ i : TypeInfo, Tryz.prog.info? 3 = some i ∧ i.zero = some (.int .i64 0) ∧ i.size = 1 ∧ i.bytes = 8 := by
  have h : (Tryz.prog.info? 3).map (fun i => (i.zero, i.size, i.bytes)) = some (some (.int .i64 0), 1, 8) := by kernel_rfl
  cases hi : Tryz.prog.info? 3 with
  | none => rw [hi] at h; cases h
  | some i =>
    rw [hi] at h
    simp only [Option.map_some, Option.some.injEq, Prod.mk.injEq] at h
    exact ⟨i, rfl, h.1, h.2.1, h.2.2⟩
/-- the submission times in memory -/
def atL (T : Nat → Int) (i : Nat) : List Value := (List.range i).map fun j => .int .i64 (exT T (j + 1))
def blkOf (A : Option Addr) (k : Nat) : Prop := ∃ a, A = some a ∧ k = a.block
theorem SL.same {w w' : World} {e : TypeId} {sz : Nat} {A : Option Addr} {n c : Nat} {xs : List Value} (h : SL w e sz A n c xs) (hk : ∀ k, blkOf A k → w'.heap[k]? = w.heap[k]?) : SL w' e sz A n c xs := h.keep (fun a ha => hk _ ⟨a, ha, rfl⟩)
theorem b16_lit : b16 (fun _ => 0) = #[.int .u8 0, .int .u8 0, .int .u8 0, .int .u8 0, .int .u8 0, .int .u8 0, .int .u8 0, .int .u8 0, .int .u8 0, .int .u8 0, .int .u8 0, .int .u8 0, .int .u8 0, .int .u8 0, .int .u8 0, .int .u8 0] := by kernel_rfl
theorem zS_fine {ds N now : Int} (h : 0 ≤ ds ∧ ds ≤ 1000) {T : Nat → Int} {i c : Nat} (hT : ∀ j, j < i → 0 ≤ T j ∧ T j ≤ 5000) (hN : N = max (exT T i) now) : (zS ds N (exF ds N T i) c).Fine := ⟨cfX_ok ds, cfX_valid h, fun q hq => by
  obtain ⟨j, hj, rfl⟩ := List.mem_map.1 (List.mem_filter.1 (List.mem_of_mem_drop hq)).1
  have hj : j < i := by simpa using hj
  have h1 := (exT_rng (T := T) (i := j + 1) (fun k hk => hT k (by omega))).1
  have h2 := exT_mono T (show j + 1 ≤ i by omega)
  show 0 ≤ exT T (j + 1) ∧ exT T (j + 1) ≤ N
  omega⟩
/-- what is known of the state in the second loop -/
structure YS (ds now N : Int) (T : Nat → Int) (i K : Nat) (s : TS) : Prop where
  P : s.P = []
  C : s.C = cfX ds
  next : s.next = (K : Int)
  tick : s.tick now = zS ds N (exF ds N T i) K
  fine : s.Fine
theorem YS.x {ds now N : Int} (h : 0 ≤ ds ∧ ds ≤ 1000) {T : Nat → Int} {i : Nat} (hT : ∀ j, j < i → 0 ≤ T j ∧ T j ≤ 5000) (hN : N = max (exT T i) now) : YS ds now N T i 0 (xS ds T i) := ⟨rfl, rfl, rfl, xS_tick hN, xS_fine h hT⟩
theorem YS.z {ds now N : Int} (h : 0 ≤ ds ∧ ds ≤ 1000) {T : Nat → Int} {i c : Nat} (hT : ∀ j, j < i → 0 ≤ T j ∧ T j ≤ 5000) (hN : N = max (exT T i) now) : YS ds now N T i c (zS ds N (exF ds N T i) c) := ⟨rfl, rfl, rfl, zS_tick (by omega), zS_fine h hT hN⟩
/-- Next of a packet that is left -/
theorem y_next {ds now N : Int} {T : Nat → Int} {i K k : Nat} {s : TS} {w0 w : World} {g : Nat} {M : Nat → Prop} (hY : YS ds now N T i K s) (hS : SoloN w0 w g s M) (hnow : 0 ≤ now ∧ now ≤ 5000) (hK : K = kept ds N T k) (hK2 : K ≤ 1000) (hk : k < i) (hg : gn ds N (exQ T k) = false) :
    Calls Tryz.prog 18 #[.pointer (some ⟨g, 0, none⟩), .int .i64 now] w fun e w' => ∃ b o c, e = .returned (.tuple #[.slice (some ⟨b, o, none⟩) 3 c, .int .u32 (K : Int), .int .i64 0]) ∧ 3 ≤ c ∧ Row w' w'.heap.size (some ⟨b, o + 2, none⟩) 1 (fun j => .int .u8 ((pduZ (cfX ds) K 1 (nf fun _ => (k : Int)) (2 + j) : Nat) : Int)) ∧ SoloN w0 w' g (zS ds N (exF ds N T i) (K + 1)) M ∧ (∀ k, M k → w'.heap[k]? = w.heap[k]?) := by
  have hs := x_send (ds := ds) (T := T) (n := i) (c := K) (now := now) (N := N) (s := s) hnow.2 hY.P hY.C hY.next hY.tick hK2 (q := exQ T k) (r := (exF ds N T i).drop (K + 1)) (by rw [hK]; exact exF_at hk hg)
  have hc := solon_next hS hY.fine (by rw [hY.C]; rfl) (by rw [hY.C]; rfl) (by rw [hY.P]; decide) now (by omega) (by omega)
  rw [hs] at hc
  refine hc.mono ?_
  rintro e w' ⟨A, c, he, hc, hR, hS, hM⟩
  obtain ⟨b, o, hA, hb, hcl⟩ := hR (show 0 < 3 by decide)
  subst hA
  refine ⟨b, o, c, he, hc, fun _ => ⟨b, o + 2, rfl, hb, fun j hj => ?_⟩, hS, hM⟩
  obtain rfl : j = 0 := by omega
  exact hcl 2 (show 2 < 3 by decide)
theorem y_crypt (ds : Int) (K k : Nat) (hK : K ≤ 1000) (hk : k < 256) (b o c : Nat) (w : World) (hr : Row w w.heap.size (some ⟨b, o + 2, none⟩) 1 (fun j => .int .u8 ((pduZ (cfX ds) K 1 (nf fun _ => (k : Int)) (2 + j) : Nat) : Int))) :
    Calls Tryz.prog 19 #[.agg (b16 fun _ => 0), .int .u32 (K : Int), .int .i64 0, .int .i64 0, .slice (some ⟨b, o + 2, none⟩) 1 (c - 2)] w fun e w' => ∃ pb po c2, e = .returned (.tuple #[.slice (some ⟨pb, po, none⟩) 1 c2, .int .i64 0]) ∧ w'.cell? ⟨pb, po, none⟩ = some (.int .u8 (k : Int)) ∧ Below w.heap.size w w' := by
  refine (crypt_ok (fun _ => 0) K 0 0 (fun _ _ => by show 0 < 256; decide) (by omega) (by decide) (by decide) (some ⟨b, o + 2, none⟩) 1 (c - 2) (fun j => pduZ (cfX ds) K 1 (nf fun _ => (k : Int)) (2 + j)) (by decide) (by decide) (fun j hj => pduZ_lt (fun _ _ => by show 0 < 256; decide) (fun j hj => by show (k : Int).toNat < 256; omega) _) w hr).mono ?_
  rintro e w' ⟨A, c2, he, _, _, hR, hB⟩
  obtain ⟨pb, po, hA, hb, hcl⟩ := hR (by decide)
  subst hA
  refine ⟨pb, po, c2, he, ?_, hB⟩
  have h0 := hcl 0 (by decide)
  rw [Nat.add_zero] at h0
  rw [h0]
  show some (Value.int .u8 ((cryF (fun _ => 0) K 0 0 (fun j => pduZ (cfX ds) K 1 (nf fun _ => (k : Int)) (2 + j)) 0 : Nat) : Int)) = _
  rw [x_byte ds K k hk]
set_option maxRecDepth 100000 in
set_option maxHeartbeats 6400000 in
theorem expires_walk (ds now : Int) (hds : -9223372036854775808 ≤ ds ∧ ds ≤ 9223372036854775807) (hnow : -9223372036854775808 ≤ now ∧ now ≤ 9223372036854775807) (TA : Option Addr) (n tc : Nat) (T : Nat → Int) (hn : n ≤ maxLen) (w : World) (hr : Row w w.heap.size TA n (fun j => .int .i64 (T j))) : Calls Tryz.prog 5 #[.int .i64 ds, .slice TA n tc, .int .i64 now] w fun e w' => e = .returned (.bool true) ∧ Below w.heap.size w w' := by
  have HKN := Lib.hid (fun V => known45_true V)
  have HTR := Lib.hid hr
  obtain ⟨hd1, hd2⟩ := hds
  obtain ⟨hw1, hw2⟩ := hnow
  unfold maxLen at hn
  have n9 : (n : Int) ≤ 9223372036854775807 := by omega
  clear hr hn
  by_cases g1 : ds < 0
  · go_enter Tryz.func5, Tryz.ntmps5
    go_wp2_with (go_at_call 17; with_reducible refine (HKN.out _).mono ?_; rintro e w19 ⟨rfl, hB⟩; have E19 := Lib.hid hB; clear hB)
    go_ret
    exact ⟨rfl, E19.out⟩
  by_cases g2 : 1000 < ds
  · go_enter Tryz.func5, Tryz.ntmps5
    go_wp2_with (go_at_call 17; with_reducible refine (HKN.out _).mono ?_; rintro e w19 ⟨rfl, hB⟩; have E19 := Lib.hid hB; clear hB)
    go_ret
    exact ⟨rfl, E19.out⟩
  by_cases g3 : (20 : Int) < (n : Int)
  · go_enter Tryz.func5, Tryz.ntmps5
    go_wp2_with (go_at_call 17; with_reducible refine (HKN.out _).mono ?_; rintro e w19 ⟨rfl, hB⟩; have E19 := Lib.hid hB; clear hB)
    go_ret
    exact ⟨rfl, E19.out⟩
  by_cases g4 : now < 0
  · go_enter Tryz.func5, Tryz.ntmps5
    go_wp2_with (go_at_call 17; with_reducible refine (HKN.out _).mono ?_; rintro e w19 ⟨rfl, hB⟩; have E19 := Lib.hid hB; clear hB)
    go_ret
    exact ⟨rfl, E19.out⟩
  by_cases g5 : 5000 < now
  · go_enter Tryz.func5, Tryz.ntmps5
    go_wp2_with (go_at_call 17; with_reducible refine (HKN.out _).mono ?_; rintro e w19 ⟨rfl, hB⟩; have E19 := Lib.hid hB; clear hB)
    go_ret
    exact ⟨rfl, E19.out⟩
  have HDS : Hid (0 ≤ ds ∧ ds ≤ 1000) := Lib.hid (by omega)
  have HNW : Hid (0 ≤ now ∧ now ≤ 5000) := Lib.hid (by omega)
  have HN20 : Hid (n ≤ 20) := Lib.hid (by omega)
  have HNEW := Lib.hid (fun V => tNew_ok (cfX ds) (cfX_valid HDS.out) V)
  rw [cfX_lit] at HNEW
  go_enter Tryz.func5, Tryz.ntmps5
  go_wp2_with (go_at_call 21; with_reducible refine (HNEW.out _).mono ?_; rintro e w1 ⟨g, rfl, hO⟩; have S1 := Lib.hid (SoloN.of (Solo.of_new (Below.refl _ _) hO)); clear hO)
  have HTB := Lib.hid (show ∀ j, j < n → ∃ tb tf, TA = some ⟨tb, tf, none⟩ ∧ tb < w.heap.size ∧ w.cell? ⟨tb, tf + j, none⟩ = some (.int .i64 (T j)) from fun j hj => by
    obtain ⟨tb, tf, h1, h2, h3⟩ := HTR.out (by omega)
    exact ⟨tb, tf, h1, h2, h3 j hj⟩)
  go_loopw [9, 10, 11] (fun v9 v10 v11 wr => ∃ (i : Nat) (A : Option Addr) (c : Nat), i ≤ n ∧ v11 = .int .i64 i ∧ v9 = .int .i64 (exT T i) ∧ v10 = .slice A i c ∧ (∀ j, j < i → 0 ≤ T j ∧ T j ≤ 5000) ∧ SL wr 3 1 A i c (atL T i) ∧ SoloN w wr g (xS ds T i) (blkOf A)) (fun _ _ v _ => n - (intOf v).toNat)
  case atStart => exact ⟨0, none, 0, by omega, rfl, rfl, rfl, fun j hj => absurd hj (by omega), SL.nil _ _ _, S1.out.other KeepF.refl (fun k ⟨a, ha, _⟩ => by cases ha)⟩
  case round =>
    obtain ⟨i, A, c, hi, rfl, rfl, rfl, hT, hSL, hS⟩ := hrel
    have HT := Lib.hid hT
    have SLI := Lib.hid hSL
    have SI := Lib.hid hS
    clear hT hSL hS
    have i0 : (0 : Int) ≤ (i : Int) := by omega
    by_cases hlt : i < n
    · have i1 : (i : Int) < (n : Int) := by omega
      have i2 : (i : Int) < 256 := by have := HN20.out; omega
      obtain ⟨tb, tf, hTA, htl, htc⟩ := HTB.out i hlt
      subst hTA
      have t0 := (SI.out.low.cell (p := ⟨tb, tf + i, none⟩) htl).trans htc
      have HTC := Lib.hid htc
      clear htc
      by_cases b1 : T i < 0
      · go_wp2_with (go_at_call 17; with_reducible refine (HKN.out _).mono ?_; rintro e w19 ⟨rfl, hB⟩; have E19 := Lib.hid hB; clear hB)
        go_ret
        exact ⟨rfl, SI.out.low.trans (E19.out.mono SI.out.low.size)⟩
      by_cases b2 : 5000 < T i
      · go_wp2_with (go_at_call 17; with_reducible refine (HKN.out _).mono ?_; rintro e w19 ⟨rfl, hB⟩; have E19 := Lib.hid hB; clear hB)
        go_ret
        exact ⟨rfl, SI.out.low.trans (E19.out.mono SI.out.low.size)⟩
      have HTI : Hid (0 ≤ T i ∧ T i ≤ 5000) := Lib.hid (by omega)
      obtain ⟨a, ha⟩ : ∃ a, a = exT T i := ⟨_, rfl⟩
      obtain ⟨b, hb⟩ : ∃ b, b = T i := ⟨_, rfl⟩
      obtain ⟨m, hm⟩ : ∃ m, m = exT T (i + 1) := ⟨_, rfl⟩
      have hmx : (if a < b then b else a) = m := by
        rw [hm, ha, hb]
        show _ = max (exT T i) (T i)
        split <;> omega
      rw [← ha]
      rw [← hb] at t0 b1 b2
      have HA := Lib.hid ha
      have HB := Lib.hid hb
      have HMM := Lib.hid hm
      clear ha hb hm
      go_upto_region 14 with (fail)
      obtain ⟨ii, hii, hiz, his, hib⟩ := infoI
      obtain ⟨X6, hX6⟩ : ∃ X6, X6 = wr.alloc (.cells #[.int .i64 m] 3) := ⟨_, rfl⟩
      have hb6 : Below wr.heap.size wr X6 := by rw [hX6]; exact (Below.refl _ _).alloc (Nat.le_refl _) _
      have HX6 := Lib.hid hX6
      have S6 := Lib.hid (SI.out.below hb6)
      have SL6 := Lib.hid (SLI.out.next hb6)
      have hNB : Blk X6 wr.heap.size 3 #[.int .i64 m] := by rw [hX6]; exact Blk.new _ _ _
      have HSRC : Hid (Src Tryz.prog 1 50 (.slice (some ⟨wr.heap.size, 0, none⟩) 1 1) 1 [.int .i64 m] X6) := Lib.hid (Src.ofSlice _ Tryz.underlying50 ⟨wr.heap.size, 0, none⟩ 1 1 _ rfl (fun j u hu => by
        have hj : j < 1 := (List.getElem?_eq_some_iff.1 hu).1
        rw [Addr.add_lit, Nat.zero_add, hNB.cell j]
        simpa using hu) (by simp [Value.oneCell']))
      clear hNB hX6 hb6
      go_upto_region 15 with (rw [← HX6.out]; refine wpList_sl_append rfl _ _ _ _ rfl X6 3 ii (.int .i64 0) 1 8 Tryz.underlying50 hii hiz his hib rfl A i c (atL T i) rfl SL6.out _ rfl 1 [.int .i64 m] HSRC.out (by decide) (by unfold maxLen; omega) (by omega) ?_; intro A9 c9 wA hSL9 hK9 hA9; have HSL9 := Lib.hid hSL9; have HK9 := Lib.hid hK9; have HA9 := Lib.hid hA9; clear hSL9 hK9 hA9)
      have HAT : Hid (atL T (i + 1) = atL T i ++ [.int .i64 m]) := Lib.hid (by unfold atL; rw [List.range_succ, List.map_append, HMM.out]; rfl)
      have S9 := Lib.hid (S6.out.other (N' := blkOf A9) HK9.out (fun k ⟨a, ha, e⟩ => ⟨by
        rcases HA9.out a ha with ⟨a', ha', e'⟩ | hge
        · exact .inl ⟨a', ha', by rw [e, e']⟩
        · exact .inr (by rw [e]; exact hge), by rw [e]; exact HSL9.out.lt ha⟩))
      have t9 := (S9.out.low.cell (p := ⟨tb, tf + i, none⟩) htl).trans HTC.out
      have HSB := Lib.hid (solon_sub1 S9.out (xS_fine HDS.out HT.out) rfl (by
        show ((exA T i).filter _).length ≤ 1000000
        refine Nat.le_trans (List.length_filter_le _ _) ?_
        unfold exA
        rw [List.length_map, List.length_range]
        have := HN20.out
        omega) (T i) (by have := HTI.out; omega) (by have := HTI.out; omega) (i : Int) ⟨i0, i2⟩)
      rw [xS_submit HDS.out HTI.out, ← HB.out] at HSB
      rw [← HB.out] at t9
      clear t0
      go_wp2_with (go_at_call 22; with_reducible refine (HSB.out).mono ?_; rintro e w5 ⟨rfl, hS, hk⟩; have S5 := Lib.hid hS; have K5 := Lib.hid hk; clear hS hk)
      have HTS := Lib.hid (show ∀ j, j < i + 1 → 0 ≤ T j ∧ T j ≤ 5000 from fun j hj => by
        rcases Nat.lt_or_ge j i with h | h
        · exact HT.out j h
        · obtain rfl : j = i := by omega
          exact HTI.out)
      go_roundw
      case rel => first | exact ⟨i + 1, A9, c9, by omega, by go_num, by rw [HMM.out], rfl, HTS.out, by rw [HAT.out]; exact HSL9.out.same K5.out, S5.out⟩ | (((repeat apply Exists.intro); refine ⟨?_, rfl⟩); exact ⟨i + 1, A9, c9, by omega, by go_num, by rw [HMM.out], rfl, HTS.out, by rw [HAT.out]; exact HSL9.out.same K5.out, S5.out⟩)
      case measure => simp [intOf]; omega
    · obtain rfl : i = n := by omega
      obtain ⟨N, hN⟩ : ∃ N, N = max (exT T i) now := ⟨_, rfl⟩
      obtain ⟨a, ha⟩ : ∃ a, a = exT T i := ⟨_, rfl⟩
      have hmx : (if a < now then now else a) = N := by rw [hN, ha]; split <;> omega
      have HR := exT_rng HT.out
      rw [← ha] at HR
      have HNR : Hid (0 ≤ N ∧ N ≤ 5000) := Lib.hid (by rw [hN, ← ha]; have := HNW.out; omega)
      have HNN := Lib.hid hN
      have HA := Lib.hid ha
      rw [← ha]
      clear hN ha HR
      go_wp2
      go_loopw [12, 13] (fun v12 v13 wq => ∃ (k : Nat) (s : TS), k ≤ i ∧ v13 = .int .i64 k ∧ v12 = .int .u32 (kept ds N T k : Nat) ∧ YS ds now N T i (kept ds N T k) s ∧ SL wq 3 1 A i c (atL T i) ∧ SoloN w wq g s (blkOf A)) (fun _ v _ => i - (intOf v).toNat)
      case atStart => exact ⟨0, _, by omega, rfl, rfl, YS.x HDS.out HT.out HNN.out, SLI.out, SI.out⟩
      case round =>
        clear SLI SI
        obtain ⟨k, s, hk, rfl, rfl, hY, hSL, hS⟩ := hrel
        have HY := Lib.hid hY
        have SLK := Lib.hid hSL
        have SK := Lib.hid hS
        clear hY hSL hS
        have k0 : (0 : Int) ≤ (k : Int) := by omega
        obtain ⟨K, hK⟩ : ∃ K, K = kept ds N T k := ⟨_, rfl⟩
        have HKL : Hid (K ≤ 20) := Lib.hid (by have := kept_le ds N T k; have := HN20.out; omega)
        have HKK := Lib.hid hK
        rw [← hK] at HY
        rw [← hK]
        have K0 : (0 : Int) ≤ (K : Int) := by omega
        have K1 : (K : Int) < 4294967295 := by have := HKL.out; omega
        clear hK
        by_cases hlk : k < i
        · have k2 : (k : Int) < (i : Int) := by omega
          have k3 : (k : Int) < 256 := by have := HN20.out; omega
          obtain ⟨ab, ao, hA, hab⟩ := SLK.out.some_ (by omega)
          have x0 := SLK.out.cell hA (j := k) (by omega)
          rw [show (atL T i)[k]? = some (.int .i64 (exT T (k + 1))) from by unfold atL; rw [List.getElem?_map, List.getElem?_range hlk]; rfl] at x0
          subst hA
          have her := exT_rng (T := T) (i := k + 1) (fun j hj => HT.out j (by omega))
          have HG := Lib.hid (show gn ds N (exQ T k) = (decide (0 < ds) && decide (ds ≤ N - exT T (k + 1))) from rfl)
          obtain ⟨e, he⟩ : ∃ e, e = exT T (k + 1) := ⟨_, rfl⟩
          rw [← he] at x0 her HG
          have s1 : -9223372036854775808 ≤ N - e := by have := HNR.out; omega
          have s2 : N - e ≤ 9223372036854775807 := by have := HNR.out; omega
          clear he hmx
          by_cases hg : gn ds N (exQ T k) = true
          · have HKG := Lib.hid (kept_gone hg)
            rw [HG.out] at hg
            have d0 : 0 < ds := by simp at hg; exact hg.1
            have d1 : ds ≤ N - e := by simp at hg; exact hg.2
            clear hg
            go_wp2
            go_roundw
            case rel => first | exact ⟨k + 1, s, by omega, by go_num, by rw [HKG.out, HKK.out], by rw [HKG.out, ← HKK.out]; exact HY.out, SLK.out, SK.out⟩ | (((repeat apply Exists.intro); refine ⟨?_, rfl⟩); exact ⟨k + 1, s, by omega, by go_num, by rw [HKG.out, HKK.out], by rw [HKG.out, ← HKK.out]; exact HY.out, SLK.out, SK.out⟩)
            case measure => simp [intOf]; omega
          · have hg2 : gn ds N (exQ T k) = false := by simpa using hg
            have HKG := Lib.hid (kept_stays hg2)
            have HX := Lib.hid (y_next HY.out SK.out HNW.out HKK.out (by have := HKL.out; omega) hlk hg2)
            have hcond : (0 < ds ∧ ¬ ds ≤ N - e) ∨ ¬ 0 < ds := by
              rw [HG.out] at hg2
              simp at hg2
              by_cases h0 : 0 < ds
              · exact .inl ⟨h0, by have := hg2 h0; omega⟩
              · exact .inr h0
            clear hg hg2
            have HYC := Lib.hid (fun b o c V h => y_crypt ds K k (by have := HKL.out; omega) (by omega) b o c V h)
            rw [b16_lit] at HYC
            rcases hcond with ⟨d0, d1⟩ | d0
            all_goals
              go_upto_region 24 with (go_at_call 18; with_reducible refine (HX.out).mono ?_; rintro e w6 ⟨pb, po, pc, rfl, hpc, hR, hS, hM⟩; have HPR := Lib.hid hR; have S6 := Lib.hid hS; have M6 := Lib.hid hM; have pc2 : ¬ pc = 2 := (by omega); have pc3 : (3 : Int) ≤ (pc : Int) := (by omega); clear hR hS hM)
              have HCR := Lib.hid (HYC.out pb po pc w6 HPR.out)
              go_wp2_with (go_at_call 19; with_reducible refine (HCR.out).mono ?_; rintro e w7 ⟨qb, qo, qc, rfl, hq, hB⟩; have E7 := Lib.hid hB; clear hB)
              go_roundw
              case rel => first | exact ⟨k + 1, _, by omega, by go_num, by rw [HKG.out, ← HKK.out]; go_num, YS.z HDS.out HT.out HNN.out, (SLK.out.same M6.out).next E7.out, by rw [HKG.out, ← HKK.out]; exact S6.out.below E7.out⟩ | (((repeat apply Exists.intro); refine ⟨?_, rfl⟩); exact ⟨k + 1, zS ds N (exF ds N T i) (kept ds N T (k + 1)), by omega, by go_num, by rw [HKG.out, ← HKK.out]; go_num, YS.z HDS.out HT.out HNN.out, (SLK.out.same M6.out).next E7.out, by rw [HKG.out, ← HKK.out]; exact S6.out.below E7.out⟩)
              case measure => simp [intOf]; omega
        · obtain rfl : k = i := by omega
          have HX := Lib.hid (solon_next SK.out HY.out.fine (by rw [HY.out.C]; rfl) (by rw [HY.out.C]; rfl) (by rw [HY.out.P]; decide) now (by have := HNW.out; omega) (by have := HNW.out; omega))
          rw [x_send_none (ds := ds) (T := T) (n := k) (c := K) (N := N) HNW.out.2 HY.out.P HY.out.tick (by rw [HKK.out]; exact Nat.le_refl _)] at HX
          have HQL : Hid ((zS ds N (exF ds N T k) K).Q.length = 0) := Lib.hid (by
            show ((exF ds N T k).drop K).length = 0
            rw [List.length_drop, HKK.out]
            exact Nat.sub_self _)
          clear hmx
          go_wp2_with (first
            | (go_at_call 18; with_reducible refine (HX.out).mono ?_; rintro e w6 ⟨A3, c3, he, _, _, hS, _⟩; subst he; have S6 := Lib.hid hS.solo; have HQ6 := Lib.hid (HQL.out ▸ solo_queued hS.solo); clear hS)
            | (go_at_call 23; with_reducible refine (HQ6.out).mono ?_; rintro e w8 ⟨rfl, rfl⟩)
            | (go_at_call 17; with_reducible refine (HKN.out _).mono ?_; rintro e w19 ⟨rfl, hB⟩; have E19 := Lib.hid hB; clear hB))
          go_ret
          exact ⟨rfl, S6.out.low.trans (E19.out.mono S6.out.low.size)⟩
end Go.Proofs.YtiffminhlimajaaGreat
