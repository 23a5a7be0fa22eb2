/- pdcptx.tick: slices.DeleteFunc. -/
import Derived.Test.YtiffminhlimajaaGreatZB
namespace Go.Proofs.YtiffminhlimajaaGreat
open Go.RowKit
set_option linter.unusedVariables false
attribute [local go_sem ↓] Go.wp_at_zero Go.wp_at_succ

theorem zWait_run (w : World) : (zeroValue 103).run Tryz.prog w = .ok (.agg #[.slice none 0 0, .int .i64 0]) w := by kernel_rfl
theorem take_flatW (lq : List WE) (k : Nat) : (lq.flatMap WE.cells).take (k * 2) = (lq.take k).flatMap WE.cells := by
  induction lq generalizing k with
  | nil => simp
  | cons x r ih =>
    cases k with
    | zero => simp
    | succ k => rw [List.flatMap_cons, List.take_succ_cons, List.flatMap_cons, ← ih k, show (k + 1) * 2 = (WE.cells x).length + k * 2 from by show _ = 2 + k * 2; omega, List.take_length_add_append]
set_option maxRecDepth 100000 in
set_option maxHeartbeats 1600000 in
theorem wdelete_ok (A : Option Addr) (n c : Nat) (lq : List WE) (hn : n = lq.length) (p : WE → Bool) (tb : Nat) (w : World) (h : SL w 103 2 A n c (lq.flatMap WE.cells)) (hx : ∀ W, KeepF (fun k => ∃ a, A = some a ∧ k = a.block) w W → Picks p tb lq W) :
    Calls Tryz.prog 85 #[.slice A n c, .func (.func 86) #[] #[.pointer (some ⟨tb, 0, none⟩)]] w fun e w' => e = .returned (.slice A (lq.filter fun x => !p x).length c) ∧ SL w' 103 2 A (lq.filter fun x => !p x).length c ((lq.filter fun x => !p x).flatMap WE.cells) ∧ KeepF (fun k => ∃ a, A = some a ∧ k = a.block) w w' := by
  have hcm := h.cmax
  have hle := h.le
  unfold maxLen at hcm
  have HSL := Lib.hid h
  have HN := Lib.hid hn
  have HX := Lib.hid hx
  have HI := Lib.hid (windex_ok A n c lq hn p tb w h (fun W hW => hx W (KeepF.of_below hW)))
  rcases firstP_cases (delAt lq p) n with ⟨i0, hi, hf, hp, hno⟩ | ⟨hf, hno⟩
  · obtain ⟨b, o, rfl, hbl⟩ := h.some_ (by omega)
    rw [hf] at HI
    obtain ⟨e0, he0⟩ : ∃ e0, lq[i0]? = some e0 := ⟨lq[i0]'(by omega), by simp [hn ▸ hi]⟩
    have hp0 : p e0 = true := by unfold delAt at hp; rw [he0] at hp; exact hp
    have hno0 : ∀ k, k < i0 → ∀ y, lq[k]? = some y → p y = false := fun k hk y hy => by
      have := hno k hk
      unfold delAt at this
      rw [hy] at this
      exact this
    have HD0 := Lib.hid (DL.start he0 hp0 hno0)
    clear h hn hx hf hp hno he0 hp0 hno0
    have i0n : (0 : Int) ≤ (i0 : Int) := by omega
    have n9 : (n : Int) ≤ 9223372036854775807 := by omega
    have i9 : (i0 : Int) ≤ 9223372036854775806 := by omega
    go_enter Tryz.func85, Tryz.ntmps85
    go_wp2_with (go_at_call 110; refine (HI.out).mono ?_; rintro e w1 ⟨rfl, hB1⟩; have HB1 := Lib.hid hB1; clear hB1)
    go_loopw [5, 6] (fun v5 v6 wr => ∃ (j i : Nat) (L : List WE), v5 = .int .i64 i ∧ v6 = .int .i64 j ∧ i < j ∧ DL lq p j i L ∧ SL wr 103 2 (some ⟨b, o, none⟩) n c (L.flatMap WE.cells) ∧ KeepF (fun k => k = b) w wr) (fun _ v _ => n - (intOf v).toNat)
    case atStart => exact ⟨i0 + 1, i0, lq, rfl, by go_num, by omega, HD0.out, HSL.out.next HB1.out, KeepF.of_below HB1.out⟩
    case round =>
      obtain ⟨j, i, L, rfl, rfl, hij, hD, hS, hK⟩ := hrel
      have HD := Lib.hid hD
      have HS := Lib.hid hS
      have HK := Lib.hid hK
      have hjl := hD.jl
      rw [← HN.out] at hjl
      clear hD hS hK
      have hin : i < n := by omega
      have j0 : (0 : Int) ≤ (j : Int) := by omega
      have k0 : (0 : Int) ≤ (i : Int) := by omega
      have k1 : (i : Int) < (n : Int) := by omega
      by_cases hlt : j < n
      · obtain ⟨x, hxj⟩ : ∃ x, lq[j]? = some x := ⟨lq[j]'(by have := HN.out; omega), by simp [HN.out ▸ hlt]⟩
        have HXJ := Lib.hid hxj
        have hLj : L[j]? = some x := (HD.out.rest j (Nat.le_refl _)).trans hxj
        have c0 := HS.out.cell rfl (j := j * 2 + 0) (by omega)
        have c1 := HS.out.cell rfl (j := j * 2 + 1) (by omega)
        rw [flat_at WE.cells 2 WE.len L j _ x hLj (by omega)] at c0 c1
        simp only [WE.cells, List.getElem?_cons_zero, List.getElem?_cons_succ, Nat.add_zero] at c0 c1
        rw [← Nat.add_assoc] at c1
        have HC := Lib.hid (fun (V : World) (hV : Below wr.heap.size wr V) => HX.out V ((HK.out.trans (KeepF.of_below (F := fun k => k = b) hV) (fun _ _ h => h)).mono (fun k e => ⟨_, rfl, e⟩)) x (List.mem_of_getElem? hxj))
        have j1 : (j : Int) < (n : Int) := by omega
        have hbl2 := HS.out.lt rfl
        clear hxj hLj
        go_upto_region 8 with (fail)
        refine wp_let (fun V => Blk V wr.heap.size 103 #[.slice x.A x.v.n x.c, .int .i64 x.v.at_] ∧ Below wr.heap.size wr V) ⟨Blk.new _ _ _, (Below.refl _ wr).alloc (Nat.le_refl _) _⟩ ?_
        rintro V2 ⟨b1, b2⟩
        have v0 := b1.cell 0
        have v1 := b1.cell 1
        simp only [List.getElem?_toArray, List.getElem?_cons_zero, List.getElem?_cons_succ] at v0 v1
        have HC2 := Lib.hid (HC.out V2 b2)
        have B1 := Lib.hid b1
        have B2 := Lib.hid b2
        obtain ⟨vb, hvb⟩ : ∃ vb, vb = wr.heap.size := ⟨_, rfl⟩
        have HVB := Lib.hid hvb
        obtain ⟨bb, hbb⟩ : ∃ bb, bb = p x := ⟨_, rfl⟩
        have HPX := Lib.hid hbb
        rw [← hbb] at HC2
        rw [← hvb] at v0 v1 B1 B2 ⊢
        clear b1 b2 hvb hbb c0 c1
        cases bb
        · go_upto_region 9 with (go_at_call 86; refine (HC2.out).mono ?_; rintro e w2 ⟨rfl, hB3⟩; have HB3 := Lib.hid hB3; clear hB3)
          have hB12 := Lib.hid (B2.out.trans (HB3.out.mono (by have := B1.out.lt; omega)))
          have K2 := Lib.hid (HK.out.trans (KeepF.of_below (F := fun k => k = b) (hB12.out.mono (by rw [HVB.out]; exact Nat.le_refl _))) (fun _ _ h => h))
          have S2 := Lib.hid (HS.out.next (hB12.out.mono (by rw [HVB.out]; exact Nat.le_refl _)))
          have B3 := B1.out.below HB3.out B1.out.lt
          have u0 := B3.cell 0
          have u1 := B3.cell 1
          simp only [List.getElem?_toArray, List.getElem?_cons_zero, List.getElem?_cons_succ] at u0 u1
          obtain ⟨y, hy⟩ : ∃ y, L[i]? = some y := ⟨L[i]'(by rw [HD.out.len, ← HN.out]; exact hin), List.getElem?_eq_getElem _⟩
          have d0 := S2.out.cell rfl (j := i * 2 + 0) (by omega)
          have d1 := S2.out.cell rfl (j := i * 2 + 1) (by omega)
          rw [flat_at WE.cells 2 WE.len L i _ y hy (by omega)] at d0 d1
          simp only [WE.cells, List.getElem?_cons_zero, List.getElem?_cons_succ, Nat.add_zero] at d0 d1
          rw [← Nat.add_assoc] at d1
          have f0 := S2.out.frozen rfl (o + i * 2)
          have f1 := S2.out.frozen rfl (o + i * 2 + 1)
          clear v0 v1 B3 hy
          go_upto_region 10 with (fail)
          refine wp_let (fun V => SL V 103 2 (some ⟨b, o, none⟩) n c ((L.set i x).flatMap WE.cells) ∧ KeepF (fun k => k = b) w V) ⟨S2.out.setAt WE.len i hin x, K2.out.trans (ts_keep (F := fun k => k = b) (b := b) rfl x.cells (o + i * 2) w2) (fun _ _ h => h)⟩ ?_
          rintro V3 ⟨s1, s2⟩
          have S3 := Lib.hid s1
          have K3 := Lib.hid s2
          have HD3 := Lib.hid (HD.out.keep HXJ.out HPX.out.symm)
          clear s1 s2 u0 u1 d0 d1 f0 f1
          go_wp2
          go_roundw
          case rel => ((repeat apply Exists.intro); refine ⟨?_, rfl⟩); exact ⟨j + 1, i + 1, L.set i x, by go_num, by go_num, by omega, HD3.out, S3.out, K3.out⟩
          case measure => simp [intOf]; omega
        · have HD3 := Lib.hid (HD.out.drop HXJ.out HPX.out.symm)
          go_wp2_with (go_at_call 86; refine (HC2.out).mono ?_; rintro e w2 ⟨rfl, hB3⟩; have HB3 := Lib.hid hB3; clear hB3)
          have hB12 := Lib.hid (B2.out.trans (HB3.out.mono (by have := B1.out.lt; omega)))
          go_roundw
          case rel => ((repeat apply Exists.intro); refine ⟨?_, rfl⟩); exact ⟨j + 1, i, L, by go_num, by go_num, by omega, HD3.out, HS.out.next (hB12.out.mono (by rw [HVB.out]; exact Nat.le_refl _)), HK.out.trans (KeepF.of_below (F := fun k => k = b) (hB12.out.mono (by rw [HVB.out]; exact Nat.le_refl _))) (fun _ _ h => h)⟩
          case measure => simp [intOf]; omega
      · obtain rfl : j = n := by omega
        have hdone := (HN.out ▸ HD.out).done
        have hil : i = (lq.filter fun x => !p x).length := by
          rw [← hdone, List.length_take, HD.out.len, ← HN.out]
          omega
        have HDN := Lib.hid hdone
        have HIL := Lib.hid hil
        have hci : ¬ c = i := by omega
        have hci2 : ¬ c < i := by omega
        have c9 : (c : Int) ≤ 9223372036854775807 := by omega
        have kc : (i : Int) ≤ (c : Int) := by omega
        have kn : (j : Int) ≤ (c : Int) := by omega
        have hzs : (#[.slice none 0 0, .int .i64 0] : Array Value).size = 2 := rfl
        have hcl : ∀ ty, (Builtin.clear_ #[81] ty #[.slice (some ⟨b, o + i * 2, none⟩) (j - i) (c - i)]).run Tryz.prog wr = .ok (.tuple #[]) (wr.setCells b (o + i * 2) (Builtin.zeroCells #[.slice none 0 0, .int .i64 0] (j - i)).toList) := fun ty =>
          run_clear_many wr 81 103 ty (.agg #[.slice none 0 0, .int .i64 0]) Tryz.underlying81 zWait_run (by simp [Value.cells, Value.oneCell']) b (o + i * 2) (j - i) (c - i)
            (fun q hq => by
              have hq2 : q < (j - i) * 2 := hq
              have := HS.out.room (j := i * 2 + q) (by omega)
              rwa [← Nat.add_assoc] at this) (fun q hq => HS.out.frozen rfl _)
        obtain ⟨ZC, hZC⟩ : ∃ ZC, ZC = (Builtin.zeroCells #[.slice none 0 0, .int .i64 0] (j - i)).toList := ⟨_, rfl⟩
        rw [← hZC] at hcl
        have HF := Lib.hid ((HS.out.take i (by omega)).past (i * 2) (Nat.le_refl _) ZC)
        have HG := Lib.hid (HK.out.trans (ts_keep (F := fun k => k = b) (b := b) rfl ZC (o + i * 2) wr) (fun _ _ h => h))
        obtain ⟨wB, hwB⟩ : ∃ wB, wB = wr.setCells b (o + i * 2) ZC := ⟨_, rfl⟩
        rw [← hwB] at hcl HF HG
        clear hwB hZC hdone hil
        go_wp2
        go_ret
        have hh := HF.out
        rw [take_flatW, HDN.out] at hh
        rw [← HIL.out]
        exact ⟨rfl, hh, HG.out.mono (fun k e => ⟨_, rfl, e⟩)⟩
  · rw [hf] at HI
    have hall : (lq.filter fun x => !p x) = lq := List.filter_eq_self.2 fun y hy => by
      obtain ⟨k, hk, rfl⟩ := List.mem_iff_getElem.1 hy
      have := hno k (by omega)
      unfold delAt at this
      rw [List.getElem?_eq_getElem hk] at this
      simp only at this
      rw [this]
      rfl
    rw [hall, ← hn]
    clear h hn hx hf hno hall
    go_enter Tryz.func85, Tryz.ntmps85
    go_wp2_with (go_at_call 110; refine (HI.out).mono ?_; rintro e w1 ⟨rfl, hB1⟩; have HB1 := Lib.hid hB1; clear hB1)
    go_ret
    exact ⟨rfl, HSL.out.next HB1.out, KeepF.of_below HB1.out⟩
end Go.Proofs.YtiffminhlimajaaGreat
