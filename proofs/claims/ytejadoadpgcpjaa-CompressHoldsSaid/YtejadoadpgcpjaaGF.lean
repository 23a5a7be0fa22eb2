/- compress: find. -/
import Derived.Test.YtejadoadpgcpjaaGE
namespace Go.Proofs.Ytejadoadpgcpjaa
open Go.RowKit

/-- what find makes of a context -/
def fv (f0 f1 f2 f3 f4 : Int) (x : Rx) : Int := if x.used && sameFlow x.f0 x.f1 x.f2 x.f3 x.f4 f0 f1 f2 f3 f4 then -2 else if x.used then x.turn else -1
/-- the first place of the least value among the first k -/
def bestI (v : Nat → Int) : Nat → Nat
  | 0 => 0
  | k + 1 => if v k < v (bestI v k) then k else bestI v k
theorem best_le (v : Nat → Int) : ∀ k, bestI v k ≤ k
  | 0 => Nat.le_refl _
  | k + 1 => by
    unfold bestI
    have := best_le v k
    split <;> omega

set_option maxRecDepth 100000 in
set_option maxHeartbeats 1600000 in
theorem findf_ok (x : Rx) (f0 f1 f2 f3 f4 : Int) (fb : Nat) (w : World) (hB : Blk w fb 52 #[.int .i64 f0, .int .i64 f1, .int .i64 f2, .int .i64 f3, .int .i64 f4]) :
    Calls Try.prog 92 #[.agg #[.int .i64 x.hops, .int .i64 x.ident, .int .i64 x.time, .bool x.used, .int .i64 x.f0, .int .i64 x.f1, .int .i64 x.f2, .int .i64 x.f3, .int .i64 x.f4, .bool x.began, .int .u8 x.gen, .int .i64 x.step, .bool x.need, .int .i64 x.turn], .pointer (some ⟨fb, 0, none⟩)] w fun e w' => e = .returned (.int .i64 (fv f0 f1 f2 f3 f4 x)) ∧ Below w.heap.size w w' := by
  obtain ⟨b0, b1, b2, b3, b4⟩ := hB.five
  have hlt := hB.lt
  have heq := flow_eql x.f0 x.f1 x.f2 x.f3 x.f4 f0 f1 f2 f3 f4
  obtain ⟨r, hr⟩ : ∃ r, r = fv f0 f1 f2 f3 f4 x := ⟨_, rfl⟩
  rw [← hr]
  unfold fv at hr
  obtain ⟨sf, hsf⟩ : ∃ sf, sf = sameFlow x.f0 x.f1 x.f2 x.f3 x.f4 f0 f1 f2 f3 f4 := ⟨_, rfl⟩
  rw [← hsf] at heq hr
  obtain ⟨u, hu⟩ : ∃ u, u = x.used := ⟨_, rfl⟩
  rw [← hu] at hr ⊢
  clear hsf hB hu
  have HR := Lib.hid hr
  clear hr
  cases u
  · have hr1 : r = -1 := HR.out
    subst hr1
    go_enter Try.func92, Try.ntmps92
    go_wp2
    go_ret
    exact ⟨rfl, (Below.refl _ w).alloc (Nat.le_refl _) _⟩
  · cases sf
    · have hr1 : r = x.turn := HR.out
      subst hr1
      go_enter Try.func92, Try.ntmps92
      go_wp2
      go_ret
      exact ⟨rfl, (Below.refl _ w).alloc (Nat.le_refl _) _⟩
    · have hr1 : r = -2 := HR.out
      subst hr1
      go_enter Try.func92, Try.ntmps92
      go_wp2
      go_ret
      exact ⟨rfl, (Below.refl _ w).alloc (Nat.le_refl _) _⟩

set_option maxRecDepth 100000 in
set_option maxHeartbeats 3200000 in
theorem best_ok (g fb : Nat) (made : Bool) (S : Nat → Rx) (T : Int) (f0 f1 f2 f3 f4 : Int) (w : World) (h : CB w g made S T) (hB : Blk w fb 52 #[.int .i64 f0, .int .i64 f1, .int .i64 f2, .int .i64 f3, .int .i64 f4]) :
    Calls Try.prog 91 #[.slice (some ⟨g, 1, none⟩) 16 16, .func (.func 92) #[] #[.pointer (some ⟨fb, 0, none⟩)]] w fun e w' => e = .returned (.int .i64 (bestI (fun k => fv f0 f1 f2 f3 f4 (S k)) 16 : Nat)) ∧ Below w.heap.size w w' := by
  have HB := Lib.hid h
  have HF := Lib.hid hB
  have hgl := h.lt
  have hfl := hB.lt
  clear h hB
  obtain ⟨v, hv⟩ : ∃ v, v = fun k => fv f0 f1 f2 f3 f4 (S k) := ⟨_, rfl⟩
  rw [← hv]
  have HV := Lib.hid (fun k => (congrFun hv k : v k = fv f0 f1 f2 f3 f4 (S k)))
  clear hv
  go_enter Try.func91, Try.ntmps91
  go_wp2
  go_loopw [4, 9] (fun v4 v9 wr => ∃ k : Nat, k ≤ 16 ∧ v9 = .int .i64 k ∧ v4 = .int .i64 (bestI v k : Nat) ∧ Below w.heap.size w wr) (fun _ v _ => 16 - (intOf v).toNat)
  case atStart => exact ⟨0, by decide, rfl, rfl, Below.refl _ _⟩
  case round =>
    obtain ⟨k, hk, rfl, rfl, hb⟩ := hrel
    by_cases hlt : k < 16
    · have hbk := best_le v k
      obtain ⟨q, hq⟩ : ∃ q, q = bestI v k := ⟨_, rfl⟩
      have HQ := Lib.hid hq
      rw [← hq] at hbk ⊢
      have hq16 : q < 16 := by omega
      have KR := Lib.hid (HB.out.below hb hgl)
      have FR := Lib.hid (HF.out.below hb hfl)
      have BR := Lib.hid hb
      have k0 : (0 : Int) ≤ (k : Int) := by omega
      have k1 : (k : Int) < 16 := by omega
      have q0 : (0 : Int) ≤ (q : Int) := by omega
      have q1 : (q : Int) < 16 := by omega
      obtain ⟨c0, c1, c2, c3, c4, c5, c6, c7, c8, c9, c10, c11, c12, c13⟩ := KR.out.cells (o := 1 + k * 14) hlt (by omega)
      clear hq hb
      go_wp2
      obtain ⟨xb, hxb⟩ : ∃ xb, xb = wr.heap.size := ⟨_, rfl⟩
      obtain ⟨W1, hW1⟩ : ∃ W1, W1 = wr.alloc (.cells #[.int .i64 (S k).hops, .int .i64 (S k).ident, .int .i64 (S k).time, .bool (S k).used, .int .i64 (S k).f0, .int .i64 (S k).f1, .int .i64 (S k).f2, .int .i64 (S k).f3, .int .i64 (S k).f4, .bool (S k).began, .int .u8 (S k).gen, .int .i64 (S k).step, .bool (S k).need, .int .i64 (S k).turn] 88) := ⟨_, rfl⟩
      have X1 := Lib.hid (show Blk W1 xb 88 #[.int .i64 (S k).hops, .int .i64 (S k).ident, .int .i64 (S k).time, .bool (S k).used, .int .i64 (S k).f0, .int .i64 (S k).f1, .int .i64 (S k).f2, .int .i64 (S k).f3, .int .i64 (S k).f4, .bool (S k).began, .int .u8 (S k).gen, .int .i64 (S k).step, .bool (S k).need, .int .i64 (S k).turn] by rw [hW1, hxb]; exact Blk.new _ _ _)
      have K1 := Lib.hid (show CB W1 g made S T by rw [hW1]; exact KR.out.alloc _)
      have F1 := Lib.hid (show Blk W1 fb 52 #[.int .i64 f0, .int .i64 f1, .int .i64 f2, .int .i64 f3, .int .i64 f4] by rw [hW1]; exact FR.out.alloc _)
      have B1 := Lib.hid (show Below w.heap.size w W1 by rw [hW1]; exact below_new BR.out _)
      rw [← hW1, ← hxb]
      clear hW1 hxb c0 c1 c2 c3 c4 c5 c6 c7 c8 c9 c10 c11 c12 c13
      have xl := X1.out.lt
      have gl := K1.out.lt
      have fl := F1.out.lt
      obtain ⟨d0, d1, d2, d3, d4, d5, d6, d7, d8, d9, d10, d11, d12, d13⟩ := K1.out.cells (o := 1 + q * 14) hq16 (by omega)
      have x0 : ∀ e : ExtW W1, e.v.cell? ⟨xb, 0, none⟩ = some (.int .i64 (S k).hops) := fun e => e.cell (X1.out.cell 0) xl
      have y0 : ∀ e : ExtW W1, e.v.cell? ⟨g, 1 + q * 14, none⟩ = some (.int .i64 (S q).hops) := fun e => e.cell d0 gl
      have x1 : ∀ e : ExtW W1, e.v.cell? ⟨xb, 1, none⟩ = some (.int .i64 (S k).ident) := fun e => e.cell (X1.out.cell 1) xl
      have y1 : ∀ e : ExtW W1, e.v.cell? ⟨g, 1 + q * 14 + 1, none⟩ = some (.int .i64 (S q).ident) := fun e => e.cell d1 gl
      have x2 : ∀ e : ExtW W1, e.v.cell? ⟨xb, 2, none⟩ = some (.int .i64 (S k).time) := fun e => e.cell (X1.out.cell 2) xl
      have y2 : ∀ e : ExtW W1, e.v.cell? ⟨g, 1 + q * 14 + 2, none⟩ = some (.int .i64 (S q).time) := fun e => e.cell d2 gl
      have x3 : ∀ e : ExtW W1, e.v.cell? ⟨xb, 3, none⟩ = some (.bool (S k).used) := fun e => e.cell (X1.out.cell 3) xl
      have y3 : ∀ e : ExtW W1, e.v.cell? ⟨g, 1 + q * 14 + 3, none⟩ = some (.bool (S q).used) := fun e => e.cell d3 gl
      have x4 : ∀ e : ExtW W1, e.v.cell? ⟨xb, 4, none⟩ = some (.int .i64 (S k).f0) := fun e => e.cell (X1.out.cell 4) xl
      have y4 : ∀ e : ExtW W1, e.v.cell? ⟨g, 1 + q * 14 + 4, none⟩ = some (.int .i64 (S q).f0) := fun e => e.cell d4 gl
      have x5 : ∀ e : ExtW W1, e.v.cell? ⟨xb, 5, none⟩ = some (.int .i64 (S k).f1) := fun e => e.cell (X1.out.cell 5) xl
      have y5 : ∀ e : ExtW W1, e.v.cell? ⟨g, 1 + q * 14 + 5, none⟩ = some (.int .i64 (S q).f1) := fun e => e.cell d5 gl
      have x6 : ∀ e : ExtW W1, e.v.cell? ⟨xb, 6, none⟩ = some (.int .i64 (S k).f2) := fun e => e.cell (X1.out.cell 6) xl
      have y6 : ∀ e : ExtW W1, e.v.cell? ⟨g, 1 + q * 14 + 6, none⟩ = some (.int .i64 (S q).f2) := fun e => e.cell d6 gl
      have x7 : ∀ e : ExtW W1, e.v.cell? ⟨xb, 7, none⟩ = some (.int .i64 (S k).f3) := fun e => e.cell (X1.out.cell 7) xl
      have y7 : ∀ e : ExtW W1, e.v.cell? ⟨g, 1 + q * 14 + 7, none⟩ = some (.int .i64 (S q).f3) := fun e => e.cell d7 gl
      have x8 : ∀ e : ExtW W1, e.v.cell? ⟨xb, 8, none⟩ = some (.int .i64 (S k).f4) := fun e => e.cell (X1.out.cell 8) xl
      have y8 : ∀ e : ExtW W1, e.v.cell? ⟨g, 1 + q * 14 + 8, none⟩ = some (.int .i64 (S q).f4) := fun e => e.cell d8 gl
      have x9 : ∀ e : ExtW W1, e.v.cell? ⟨xb, 9, none⟩ = some (.bool (S k).began) := fun e => e.cell (X1.out.cell 9) xl
      have y9 : ∀ e : ExtW W1, e.v.cell? ⟨g, 1 + q * 14 + 9, none⟩ = some (.bool (S q).began) := fun e => e.cell d9 gl
      have x10 : ∀ e : ExtW W1, e.v.cell? ⟨xb, 10, none⟩ = some (.int .u8 (S k).gen) := fun e => e.cell (X1.out.cell 10) xl
      have y10 : ∀ e : ExtW W1, e.v.cell? ⟨g, 1 + q * 14 + 10, none⟩ = some (.int .u8 (S q).gen) := fun e => e.cell d10 gl
      have x11 : ∀ e : ExtW W1, e.v.cell? ⟨xb, 11, none⟩ = some (.int .i64 (S k).step) := fun e => e.cell (X1.out.cell 11) xl
      have y11 : ∀ e : ExtW W1, e.v.cell? ⟨g, 1 + q * 14 + 11, none⟩ = some (.int .i64 (S q).step) := fun e => e.cell d11 gl
      have x12 : ∀ e : ExtW W1, e.v.cell? ⟨xb, 12, none⟩ = some (.bool (S k).need) := fun e => e.cell (X1.out.cell 12) xl
      have y12 : ∀ e : ExtW W1, e.v.cell? ⟨g, 1 + q * 14 + 12, none⟩ = some (.bool (S q).need) := fun e => e.cell d12 gl
      have x13 : ∀ e : ExtW W1, e.v.cell? ⟨xb, 13, none⟩ = some (.int .i64 (S k).turn) := fun e => e.cell (X1.out.cell 13) xl
      have y13 : ∀ e : ExtW W1, e.v.cell? ⟨g, 1 + q * 14 + 13, none⟩ = some (.int .i64 (S q).turn) := fun e => e.cell d13 gl
      have C1 := Lib.hid (fun e : ExtW W1 => findf_ok (S k) f0 f1 f2 f3 f4 fb e.v (F1.out.below e.h fl))
      have C2 := Lib.hid (fun e : ExtW W1 => findf_ok (S q) f0 f1 f2 f3 f4 fb e.v (F1.out.below e.h fl))
      have BX : Hid (∀ e : ExtW W1, Below w.heap.size w e.v) := Lib.hid fun e => below_step B1.out e.h
      obtain ⟨vk, hvk⟩ : ∃ vk, vk = fv f0 f1 f2 f3 f4 (S k) := ⟨_, rfl⟩
      obtain ⟨vq, hvq⟩ : ∃ vq, vq = fv f0 f1 f2 f3 f4 (S q) := ⟨_, rfl⟩
      rw [← hvk] at C1
      rw [← hvq] at C2
      have HVK := Lib.hid hvk
      have HVQ := Lib.hid hvq
      clear d0 d1 d2 d3 d4 d5 d6 d7 d8 d9 d10 d11 d12 d13 hvk hvq
      by_cases hcmp : vk < vq
      · have hbi : bestI v (k + 1) = k := by
          unfold bestI
          rw [← HQ.out, HV.out k, HV.out q, ← HVK.out, ← HVQ.out, if_pos hcmp]
        have HBI := Lib.hid hbi
        clear hbi
        refine wp_region_ext (by kernel_rfl) (by kernel_rfl) ?_
        repeat (go_big_quiet_step (first | (with_reducible exact Calls.ext_of (C1.out _)) | (with_reducible exact Calls.ext_of (C2.out _))))
        refine wpQuiet_nil ?_
        rintro _ ⟨ex, rfl⟩
        go_wp2
        go_roundw
        case rel => exact ⟨k + 1, by omega, by go_num, by rw [HBI.out], BX.out ex⟩
        case measure => simp [intOf]; omega
      · have hbi : bestI v (k + 1) = q := by
          unfold bestI
          rw [← HQ.out, HV.out k, HV.out q, ← HVK.out, ← HVQ.out, if_neg hcmp]
        have HBI := Lib.hid hbi
        clear hbi
        refine wp_region_ext (by kernel_rfl) (by kernel_rfl) ?_
        repeat (go_big_quiet_step (first | (with_reducible exact Calls.ext_of (C1.out _)) | (with_reducible exact Calls.ext_of (C2.out _))))
        refine wpQuiet_nil ?_
        rintro _ ⟨ex, rfl⟩
        go_wp2
        go_roundw
        case rel => exact ⟨k + 1, by omega, by go_num, by rw [HBI.out], BX.out ex⟩
        case measure => simp [intOf]; omega
    · obtain rfl : k = 16 := by omega
      go_wp2
      go_ret
      exact ⟨rfl, hb⟩

set_option maxRecDepth 100000 in
set_option maxHeartbeats 1600000 in
theorem find_ok (g : Nat) (made : Bool) (S : Nat → Rx) (T : Int) (f0 f1 f2 f3 f4 : Int) (w : World) (h : CB w g made S T) :
    Calls Try.prog 64 #[.pointer (some ⟨g, 0, none⟩), .agg #[.int .i64 f0, .int .i64 f1, .int .i64 f2, .int .i64 f3, .int .i64 f4]] w fun e w' => e = .returned (.int .i64 (bestI (fun k => fv f0 f1 f2 f3 f4 (S k)) 16 : Nat)) ∧ Below w.heap.size w w' := by
  have HB := Lib.hid (fun o : Obj => h.alloc o)
  have HF := Lib.hid (Blk.new w 52 #[.int .i64 f0, .int .i64 f1, .int .i64 f2, .int .i64 f3, .int .i64 f4])
  have hbo := Lib.hid (fun W hc hf => best_ok g w.heap.size made S T f0 f1 f2 f3 f4 W hc hf)
  have hmf : ∀ (fn : Fn) (first cap : Array Value) (w : World), (Instr.makeFunc fn first cap).run Try.prog w = .ok (.func fn first cap) w := fun _ _ _ _ => rfl
  obtain ⟨r, hr⟩ : ∃ r, r = bestI (fun k => fv f0 f1 f2 f3 f4 (S k)) 16 := ⟨_, rfl⟩
  rw [← hr] at hbo ⊢
  clear h hr
  go_enter Try.func64, Try.ntmps64
  go_wp2_with (go_at_call 91; refine (hbo.out _ (HB.out _) HF.out).mono ?_; rintro e w1 ⟨rfl, b1⟩)
  go_ret
  exact ⟨rfl, ((Below.refl _ w).alloc (Nat.le_refl _) _).trans (b1.mono (by simp))⟩
end Go.Proofs.Ytejadoadpgcpjaa
