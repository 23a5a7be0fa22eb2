/- Counter mode: the key stream, an iterator without an end. -/
import Derived.Test.YtiffminhlimajaaGreatVT
import Derived.Test.YtiffminhlimajaaGreatVP
namespace Go.Proofs.YtiffminhlimajaaGreat
open Go.RowKit Go.Shelf
set_option linter.unusedVariables false
attribute [local go_sem] Oper.semAt_some

/-- whatever is cells lies as it lay, but for the blocks ob and ab -/
structure KeepC (ob ab : Nat) (A B : World) : Prop where
  size : A.heap.size ≤ B.heap.size
  same : ∀ b cs t fr, b ≠ ob → b ≠ ab → A.heap[b]? = some (.cells cs t fr) → B.heap[b]? = some (.cells cs t fr)
theorem KeepC.refl (ob ab : Nat) (A : World) : KeepC ob ab A A := ⟨Nat.le_refl _, fun _ _ _ _ _ _ h => h⟩
theorem KeepC.trans {ob ab : Nat} {A B C : World} (h : KeepC ob ab A B) (k : KeepC ob ab B C) : KeepC ob ab A C := ⟨Nat.le_trans h.size k.size, fun b cs t fr h1 h2 h3 => k.same b cs t fr h1 h2 (h.same b cs t fr h1 h2 h3)⟩
theorem KeepC.of_below {ob ab : Nat} {A B : World} (h : Below A.heap.size A B) : KeepC ob ab A B := ⟨h.size, fun b cs t fr _ _ hb => (h.block b (Array.getElem?_eq_some_iff.1 hb).1).trans hb⟩
theorem KeepC.blk {ob ab : Nat} {A B : World} (h : KeepC ob ab A B) {b : Nat} {t : TypeId} {cs : Array Value} (hB : Blk A b t cs) (h1 : b ≠ ob) (h2 : b ≠ ab) : Blk B b t cs := h.same b cs t _ h1 h2 hB
theorem keepC_put {w : World} {ob ab : Nat} (W : World) (l : Nat) (o o' : Obj) (_ : w.heap.size ≤ l) (h : W.heap[l]? = some o) (ho : o.isCells = false) (_ : o.isWalk = false) : KeepC ob ab W (W.putObj l o') :=
  ⟨by rw [World.putObj_size]; exact Nat.le_refl _, fun b cs t fr _ _ hb => (World.putObj_heap_other (by rintro rfl; rw [h] at hb; cases hb; cases ho)).trans hb⟩
/-- what an iterator's steps that only make memory do to the caller's invariant -/
theorem abides_below {β : Type} {B : Nat} {J : β → World → Prop} (hJ : AbidesFrom B J) {s : β} {A C : World} (h : J s A) (hb : Below A.heap.size A C) : J s C :=
  hJ s A C none h ⟨hb.os, hb.tape, hb.output, hb.size, fun k hk _ => hb.block k hk⟩ (fun r e => by cases e)
/-- the first m bytes of the key stream -/
def ksL (key : Nat → Nat) (ct b d m : Nat) : List (Fin 256) := (List.range m).map fun j => ⟨ksF key ct b d j % 256, Nat.mod_lt _ (by decide)⟩
theorem ksL_len (key : Nat → Nat) (ct b d m : Nat) : (ksL key ct b d m).length = m := by simp [ksL]
theorem ksL_succ (key : Nat → Nat) (ct b d m : Nat) : ksL key ct b d (m + 1) = ksL key ct b d m ++ [⟨ksF key ct b d m % 256, Nat.mod_lt _ (by decide)⟩] := by simp [ksL, List.range_succ]
theorem stream_made (key : Nat → Nat) (ct b d : Nat) (w : World) :
    Calls Tryz.prog 53 #[.agg (b16 key), .int .u32 ct, .int .i64 b, .int .i64 d] w fun e w' => e = .returned (.func (.func 91) #[] #[.pointer (some ⟨w.heap.size, 0, none⟩), .pointer (some ⟨w.heap.size + 1, 0, none⟩), .pointer (some ⟨w.heap.size + 1 + 1, 0, none⟩), .pointer (some ⟨w.heap.size + 1 + 1 + 1, 0, none⟩)]) ∧ (((w.alloc (.cells (b16 key) 23)).alloc (.cells #[.int .u32 ct] 26)).alloc (.cells #[.int .i64 b] 3)).alloc (.cells #[.int .i64 d] 22) = w' := by
  have hmf : ∀ (fn : Fn) (first cap : Array Value) (w : World), (Instr.makeFunc fn first cap).run Tryz.prog w = .ok (.func fn first cap) w := fun _ _ _ _ => rfl
  obtain ⟨K, hK⟩ : ∃ K, K = b16 key := ⟨_, rfl⟩
  rw [← hK]
  clear hK
  go_enter Tryz.func53, Tryz.ntmps53
  go_wp2
  go_ret
  exact ⟨rfl, rfl⟩
/-- what the captured variables hold -/
structure StrM (w : World) (p : Nat) (key : Nat → Nat) (ct b d : Nat) : Prop where
  k : Blk w p 23 (b16 key)
  c : Blk w (p + 1) 26 #[.int .u32 ct]
  b : Blk w (p + 1 + 1) 3 #[.int .i64 b]
  d : Blk w (p + 1 + 1 + 1) 22 #[.int .i64 d]
theorem StrM.below {w w' : World} {p : Nat} {key : Nat → Nat} {ct b d : Nat} (h : StrM w p key ct b d) (hb : Below w.heap.size w w') : StrM w' p key ct b d := ⟨h.k.below hb h.k.lt, h.c.below hb h.c.lt, h.b.below hb h.b.lt, h.d.below hb h.d.lt⟩
theorem StrM.keepC {w w' : World} {p ob ab : Nat} {key : Nat → Nat} {ct b d : Nat} (h : StrM w p key ct b d) (hb : KeepC ob ab w w') (h1 : ob < p ∨ p + 3 < ob) (h2 : ab < p ∨ p + 3 < ab) : StrM w' p key ct b d := ⟨hb.blk h.k (by omega) (by omega), hb.blk h.c (by omega) (by omega), hb.blk h.b (by omega) (by omega), hb.blk h.d (by omega) (by omega)⟩
set_option maxRecDepth 100000 in
set_option maxHeartbeats 3200000 in
theorem stream_runs (key : Nat → Nat) (ct b d : Nat) (hk : B16 key) (hc : ct < 4294967296) (hb : b < 32) (hd : d < 2) (p ob ab n : Nat) (w : World) (hM : StrM w p key ct b d) (hob : ob < w.heap.size) (hab : ab < w.heap.size) (h1 : ob < p ∨ p + 3 < ob) (h2 : ab < p ∨ p + 3 < ab) (hn : 1 ≤ n) :
    SeqRuns Fence.wide n Tryz.prog 91 #[.pointer (some ⟨p, 0, none⟩), .pointer (some ⟨p + 1, 0, none⟩), .pointer (some ⟨p + 1 + 1, 0, none⟩), .pointer (some ⟨p + 1 + 1 + 1, 0, none⟩)] (fun x : Fin 256 => #[.int .u8 ((x.1 : Nat) : Int)]) (KeepC ob ab) (fun pre => ∃ m, pre = ksL key ct b d m) 1000000 w := fun N l J Jx W hN hW hJ hJx hlen hY h0 => by
  have HJB := Lib.hid (fun (s : List (Fin 256)) (A C : World) (h : J s A) (hb : Below A.heap.size A C) => abides_below hJ h hb)
  have HY := Lib.hid hY
  have HLN := Lib.hid hlen
  have HM := Lib.hid (hM.below hW)
  have HOB := Lib.hid (show ob < W.heap.size ∧ ab < W.heap.size ∧ (ob < p ∨ p + 3 < ob) ∧ (ab < p ∨ p + 3 < ab) by have := hW.size; omega)
  have HNW := Lib.hid (fun V => anew_ok key hk V)
  have HBK := Lib.hid (fun i (hi : i < 18446744073709551616) V => block_ok ct b d i hc hb hd hi V)
  have HEN := Lib.hid (fun i g V (hV : CipM V g key) => encrypt_ok key (ctrB ct b d i) hk (ctrB_lt ct b d i) g V hV)
  have HKS := Lib.hid (fun i k (hk' : k < 16) => (show aesF key (ctrB ct b d i) k = ksF key ct b d (16 * i + k) by unfold ksF; rw [show (16 * i + k) / 16 = i by omega, show (16 * i + k) % 16 = k by omega]))
  have HKL := Lib.hid (fun j => ksF_lt hk ct b d j)
  clear hJ hJx hY hlen hM hW h1 h2 hob hab hk hb hd hc
  obtain ⟨KY, hKY⟩ : ∃ KY, KY = b16 key := ⟨_, rfl⟩
  have HSK : Hid ((Tryz.prog.info? 23).map (·.size) = some KY.size) := Lib.hid (by rw [hKY, b16_size]; kernel_rfl)
  have HMK : Hid (Blk W p 23 KY) := Lib.hid (by rw [hKY]; exact HM.out.k)
  rw [← hKY] at HNW
  clear hKY
  refine callsIn_of_wp Tryz.func91 rfl trivial ?_ rfl
  simp only [Tryz.ntmps91, List.size_toArray, List.length_cons, List.length_nil, Nat.reduceAdd, Nat.reduceSub, Array.replicate_succ, Array.replicate_zero, List.push_toArray, List.append_toArray, List.nil_append, List.cons_append]
  refine wpIn_wide.2 ?_
  go_upto_region 1 with (first
    | (refine wpList_load_row rfl _ _ rfl p rfl 23 KY (0, 0) _ HMK.out Tryz.underlying23 rfl HSK.out ?_)
    | (go_at_call 92; refine (HNW.out _).mono ?_; rintro e w4 ⟨cg, rfl, hcg, hge, hb4⟩; have C1 := Lib.hid (HM.out.below hb4); have C2 := Lib.hid hcg; have C3 := Lib.hid (HJB.out _ _ _ h0 hb4); have C4 := Lib.hid (show ob < cg ∧ ab < cg by have := HOB.out; omega); clear hb4 hcg hge))
  clear h0 HM HMK
  go_wp2
  go_loopw [7] (fun v7 wr => ∃ i : Nat, v7 = .int .u64 i ∧ J (ksL key ct b d (16 * i)) wr ∧ StrM wr p key ct b d ∧ CipM wr cg key) (fun v7 _ => N - (intOf v7).toNat)
  case atStart => exact ⟨0, rfl, C3.out, C1.out, C2.out⟩
  case round =>
    clear C1 C2 C3
    obtain ⟨i, rfl, hj, hm, hg⟩ := hrel
    have hiN : 16 * i < N := by have := HLN.out _ _ hj; rwa [ksL_len] at this
    have i0 : (0 : Int) ≤ (i : Int) := by omega
    have i1 : (i : Int) < 1000000 := by omega
    have HJ := Lib.hid hj
    have HM := Lib.hid hm
    have HG := Lib.hid hg
    have d1 : wr.cell? ⟨p + 1, 0, none⟩ = some (.int .u32 ct) := hm.c.cell 0
    have d2 : wr.cell? ⟨p + 1 + 1, 0, none⟩ = some (.int .i64 b) := hm.b.cell 0
    have d3 : wr.cell? ⟨p + 1 + 1 + 1, 0, none⟩ = some (.int .i64 d) := hm.d.cell 0
    have HB1 := Lib.hid (HBK.out i (by omega) wr)
    obtain ⟨CB, hCB⟩ : ∃ CB, CB = b16 (ctrB ct b d i) := ⟨_, rfl⟩
    have HC1 : Hid ((Tryz.prog.info? 23).map (·.size) = some CB.size) := Lib.hid (by rw [hCB, b16_size]; kernel_rfl)
    have HC2 : Hid (CB.all (·.oneCell') = true) := Lib.hid (by rw [hCB]; exact b16_one _)
    have HC3 : Hid ((#[.int .u8 0, .int .u8 0, .int .u8 0, .int .u8 0, .int .u8 0, .int .u8 0, .int .u8 0, .int .u8 0, .int .u8 0, .int .u8 0, .int .u8 0, .int .u8 0, .int .u8 0, .int .u8 0, .int .u8 0, .int .u8 0] : Array Value).size = CB.size) := Lib.hid (by rw [hCB, b16_size]; rfl)
    have HE1 := Lib.hid (fun V (hV : CipM V cg key) => HEN.out i cg V hV)
    rw [← hCB] at HB1 HE1
    have HES := Lib.hid (fun k (hk : k < 16) => (b16_at (aesF key (ctrB ct b d i)) hk).trans (by rw [HKS.out i k hk]))
    obtain ⟨EB, hEB⟩ : ∃ EB, EB = b16 (aesF key (ctrB ct b d i)) := ⟨_, rfl⟩
    rw [← hEB] at HE1 HES
    clear hj hm hg hCB hEB
    go_upto_region 4 with (first
      | (go_at_call 93; refine (HB1.out).mono ?_; rintro e w5 ⟨rfl, hb5⟩; have D1 := Lib.hid (HM.out.below hb5); have D2 := Lib.hid (HG.out.below hb5); have D3 := Lib.hid (HJB.out _ _ _ HJ.out hb5); clear hb5)
      | (refine wpList_store_row rfl _ _ _ rfl w5.heap.size CB rfl rfl 23 #[.int .u8 0, .int .u8 0, .int .u8 0, .int .u8 0, .int .u8 0, .int .u8 0, .int .u8 0, .int .u8 0, .int .u8 0, .int .u8 0, .int .u8 0, .int .u8 0, .int .u8 0, .int .u8 0, .int .u8 0, .int .u8 0] (Blk.new _ _ _) HC1.out HC3.out HC2.out ?_))
    obtain ⟨q, hq⟩ : ∃ q, q = w5.heap.size := ⟨_, rfl⟩
    have hb6 : Below w5.heap.size w5 ((w5.alloc (.cells #[.int .u8 0, .int .u8 0, .int .u8 0, .int .u8 0, .int .u8 0, .int .u8 0, .int .u8 0, .int .u8 0, .int .u8 0, .int .u8 0, .int .u8 0, .int .u8 0, .int .u8 0, .int .u8 0, .int .u8 0, .int .u8 0] 23)).setRow w5.heap.size CB) := belowRow ((Below.refl _ _).alloc (Nat.le_refl _) _) (Nat.le_refl _) _
    refine wp_let (fun V => Blk V q 23 CB ∧ J (ksL key ct b d (16 * i)) V ∧ StrM V p key ct b d ∧ CipM V cg key) ⟨by rw [hq]; exact setRow_heap _ _ _ CB 23 (0, 0) (Blk.new _ _ _), HJB.out _ _ _ D3.out hb6, D1.out.below hb6, D2.out.below hb6⟩ ?_
    rintro W6 ⟨b1, b2, b3, b4⟩
    have E1 := Lib.hid b1
    have E2 := Lib.hid b2
    have E3 := Lib.hid b3
    have E4 := Lib.hid b4
    rw [← hq]
    clear b1 b2 b3 b4 hb6 hq D1 D2 D3 d1 d2 d3 HJ HM HG
    go_wp2_with (first
      | (refine wpList_load_row rfl _ _ rfl q rfl 23 CB (0, 0) _ E1.out Tryz.underlying23 rfl HC1.out ?_)
      | (go_at_call 94; refine (HE1.out _ E4.out).mono ?_; rintro e w7 ⟨rfl, hb7⟩; have F1 := Lib.hid (E3.out.below hb7); have F2 := Lib.hid (E4.out.below hb7); have F3 := Lib.hid (HJB.out _ _ _ E2.out hb7); clear hb7))
    clear E1 E2 E3 E4
    go_loopw [27] (fun v wr => ∃ k : Nat, k ≤ 16 ∧ v = .int .i64 k ∧ J (ksL key ct b d (16 * i + k)) wr ∧ StrM wr p key ct b d ∧ CipM wr cg key) (fun v _ => 16 - (intOf v).toNat)
    case atStart => exact ⟨0, by omega, rfl, F3.out, F1.out, F2.out⟩
    case round =>
      clear F1 F2 F3
      obtain ⟨k, hk, rfl, hj, hm, hg⟩ := hrel
      have HJ := Lib.hid hj
      have HM := Lib.hid hm
      have HG := Lib.hid hg
      clear hj hm hg
      by_cases hlt : k < 16
      · have k0 : (0 : Int) ≤ (k : Int) := by omega
        have k1 : (k : Int) < 16 := by omega
        obtain ⟨iu, hiu, hius⟩ := infoU8
        have hix := idx_arr (P := Tryz.prog) 23 5 16 Tryz.underlying23 iu hiu hius .u8 Tryz.underlying5 EB k hlt _ (HES.out k hlt)
        obtain ⟨fn, tmps, assign, body, hy, hR⟩ := HY.out (ksL key ct b d (16 * i + k)) ⟨ksF key ct b d (16 * i + k) % 256, Nat.mod_lt _ (by decide)⟩ wr HJ.out
        have hxx : ksF key ct b d (16 * i + k) % 256 = ksF key ct b d (16 * i + k) := Nat.mod_eq_of_lt (HKL.out _)
        simp only [hxx] at hy
        have HSU := Lib.hid (ksL_succ key ct b d (16 * i + k))
        rw [← ksL_succ] at hR
        have HRr := Lib.hid hR
        obtain ⟨x, hx⟩ : ∃ x, x = ksF key ct b d (16 * i + k) := ⟨_, rfl⟩
        rw [← hx] at hy hix
        clear hR hxx hx hiu
        go_upto_region 7 with (fail)
        refine (wpIn_wide (n := n)).1 ?_
        gi_wp2
        refine HRr.out.mono ?_
        rintro e w8 (⟨rfl, hJ4, hk4⟩ | ⟨rfl, hx4⟩)
        · gi_wp2
          go_wp2
          go_roundw
          case rel => exact ⟨k + 1, by omega, by go_num, hJ4, HM.out.keepC hk4 HOB.out.2.2.1 HOB.out.2.2.2, hk4.blk HG.out (by have := C4.out; omega) (by have := C4.out; omega)⟩
          case measure => simp [intOf]; omega
        · gi_wp2
          go_wp2
          refine bodyPost_ret (results_none rfl _ _ _) rfl ?_
          exact ⟨⟨_, rfl⟩, _, ⟨_, rfl⟩, hx4⟩
      · obtain rfl : k = 16 := by omega
        have n1 : ¬ (16 : Int) < 16 := by omega
        go_wp2
        go_roundw
        case rel => exact ⟨i + 1, by go_num, by rw [show 16 * (i + 1) = 16 * i + 16 by omega]; exact HJ.out, HM.out, HG.out⟩
        case measure => simp [intOf]; omega
end Go.Proofs.YtiffminhlimajaaGreat
