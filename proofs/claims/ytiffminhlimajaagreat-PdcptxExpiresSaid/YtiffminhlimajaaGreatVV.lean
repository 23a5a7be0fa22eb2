/- Counter mode: Crypt. -/
import Derived.Test.YtiffminhlimajaaGreatVU
import Derived.Test.YtiffminhlimajaaGreatTI
import Derived.Deep.RegionHeld
namespace Go.Proofs.YtiffminhlimajaaGreat
open Go.RowKit Go.Shelf
set_option linter.unusedVariables false
attribute [local go_sem] Oper.semAt_some

/-- the bytes of a message so far encrypted with the given bytes -/
def outL (z : Nat → Nat) (pre : List (Fin 256)) : List Value := pre.zipIdx.map fun x => .int .u8 ((z x.2 ^^^ x.1.1 : Nat) : Int)
theorem outL_nil (z : Nat → Nat) : outL z [] = [] := rfl
theorem outL_len (z : Nat → Nat) (pre : List (Fin 256)) : (outL z pre).length = pre.length := by simp [outL]
theorem outL_snoc (z : Nat → Nat) (pre : List (Fin 256)) (x : Fin 256) : outL z (pre ++ [x]) = outL z pre ++ [.int .u8 ((z pre.length ^^^ x.1 : Nat) : Int)] := by
  simp [outL, List.zipIdx_append]
theorem outL_ks {key : Nat → Nat} (hk : B16 key) (ct b d m : Nat) (z : Nat → Nat) {j : Nat} (hj : j < m) : (outL z (ksL key ct b d m))[j]? = some (.int .u8 (cryF key ct b d z j : Nat)) := by
  have hl : j < (ksL key ct b d m).length := by rw [ksL_len]; exact hj
  have e : (ksL key ct b d m)[j]'hl = ⟨ksF key ct b d j % 256, Nat.mod_lt _ (by decide)⟩ := by simp [ksL]
  simp [outL, List.getElem?_eq_getElem hl, e, cryF, Nat.mod_eq_of_lt (ksF_lt hk ct b d j)]
theorem make_room (n : Nat) (hn : n ≤ 1000000) (w : World) : (Instr.makeSlice 27 (.int .i64 0) (.int .i64 (n : Int))).run Tryz.prog w = .ok (.slice (some ⟨w.heap.size, 0, none⟩) 0 n) (w.alloc (.cells (madeCells #[.int .u8 0] n) 5)) := by
  obtain ⟨i, hi, hz, hs, hb⟩ := info_parts Tryz.infoByte
  have h := run_make (P := Tryz.prog) w 27 5 i (.int .u8 0) Tryz.underlying27 hi hz .i64 .i64 0 (n : Int) (by omega) (by omega) (by rw [hb]; omega) (by omega)
  rw [h, hs]; simp; rfl
/-- what Crypt answers -/
def CryC (key : Nat → Nat) (ct b d n : Nat) (z : Nat → Nat) (w : World) (e : Ending) (w' : World) : Prop :=
  ∃ A c, e = .returned (.tuple #[.slice A n c, .int .i64 0]) ∧ n ≤ c ∧ Fresh w.heap.size A ∧ Row w' w'.heap.size A n (fun j => .int .u8 ((cryF key ct b d z j : Nat) : Int)) ∧ Below w.heap.size w w'
/-- the loop's own variables, behind some rounds -/
structure CryI (w : World) (kb ab n : Nat) (bs : Value) (z : Nat → Nat) (pre : List (Fin 256)) (W : World) : Prop where
  box : Boxed W (ab + 1) 27 (.slice (some ⟨ab, 0, none⟩) pre.length n)
  sl : SL W 5 1 (some ⟨ab, 0, none⟩) pre.length n (outL z pre)
  arg : Boxed W (kb + 1) 27 bs
  low : Below w.heap.size w W
theorem cryI_own {w : World} {kb ab n B : Nat} {bs : Value} {z : Nat → Nat} (hB : w.heap.size ≤ B) (R : List (Fin 256) → Prop) : OwnFrom B (fun pre W => CryI w kb ab n bs z pre W ∧ R pre) := fun s X Y row ⟨h, hR⟩ hg hr => by
  have keep : ∀ k (o : Obj), X.heap[k]? = some o → o.isCells = true → Y.heap[k]? = X.heap[k]? := fun k o ho hc => hg.block k (Array.getElem?_eq_some_iff.1 ho).1 (fun e => by
    obtain ⟨_, o', ho', hc'⟩ := hr k e.symm
    rw [ho] at ho'; cases ho'; rw [hc] at hc'; cases hc')
  refine ⟨⟨(keep _ _ h.box rfl).trans h.box, h.sl.keep (fun a ha => ?_), (keep _ _ h.arg rfl).trans h.arg, ⟨hg.os.trans h.low.os, hg.tape.trans h.low.tape, hg.output.trans h.low.output, Nat.le_trans h.low.size hg.size, fun k hk => ?_⟩⟩, hR⟩
  · obtain ⟨cur, hc⟩ := h.sl.obj ha
    exact keep _ _ hc rfl
  · exact (hg.block k (Nat.lt_of_lt_of_le hk h.low.size) (fun e => by have := (hr k e.symm).1; omega)).trans (h.low.block k hk)
set_option maxRecDepth 100000 in
set_option maxHeartbeats 6400000 in
theorem crypt_ok (key : Nat → Nat) (ct b d : Nat) (hk : B16 key) (hc : ct < 4294967296) (hb : b < 32) (hd : d < 2) (A : Option Addr) (n c : Nat) (z : Nat → Nat) (hn1 : 1 ≤ n) (hn2 : n ≤ 16384) (hz : ∀ j, j < n → z j < 256) (w : World) (hr : Row w w.heap.size A n (fun j => .int .u8 ((z j : Nat) : Int))) :
    Calls Tryz.prog 19 #[.agg (b16 key), .int .u32 ct, .int .i64 b, .int .i64 d, .slice A n c] w (CryC key ct b d n z w) := by
  have HPF := Lib.hid (fun V => prefix_ok ct b d hc hb hd V)
  have HSM := Lib.hid (fun V => stream_made key ct b d V)
  have HOL := Lib.hid (fun m j (hj : j < m) => outL_ks hk ct b d m z hj)
  obtain ⟨lb, lo, rfl, hlb, hlc⟩ := hr (by omega)
  have HLC := Lib.hid hlc
  have HLB := Lib.hid hlb
  have HZ := Lib.hid hz
  have HSR := Lib.hid (fun p ob ab (V : World) (hM : StrM V p key ct b d) h1 h2 h3 h4 => stream_runs key ct b d hk hc hb hd p ob ab 7 V hM h1 h2 h3 h4 (by decide))
  obtain ⟨ZB, hZB⟩ : ∃ ZB : Array Value, ZB = #[.int .u8 0, .int .u8 0, .int .u8 0, .int .u8 0, .int .u8 0, .int .u8 0, .int .u8 0, .int .u8 0] := ⟨_, rfl⟩
  have HZB := Lib.hid hZB
  obtain ⟨X, hX⟩ : ∃ X, X = bA 8 (halfB (pfx ct b d)) := ⟨_, rfl⟩
  have HX : Hid ((Tryz.prog.info? 109).map (·.size) = some X.size) := Lib.hid (by rw [hX]; exact size8 _)
  have HOX : Hid (X.all (·.oneCell') = true) := Lib.hid (by rw [hX]; exact bA_one _ _)
  have HZX : Hid (ZB.size = X.size) := Lib.hid (by rw [hX, hZB, bA_size]; rfl)
  rw [← hX] at HPF
  obtain ⟨KY, hKY⟩ : ∃ KY, KY = b16 key := ⟨_, rfl⟩
  have HSK : Hid ((Tryz.prog.info? 23).map (·.size) = some KY.size) := Lib.hid (by rw [hKY, b16_size]; kernel_rfl)
  have HKY := Lib.hid hKY
  rw [← hKY] at HSM
  rw [← hKY]
  have n0 : (1 : Int) ≤ (n : Int) := by omega
  have n1 : (n : Int) ≤ 16384 := by omega
  have n2 : ((n : Int) == 0) = false := by rw [beq_eq_false_iff_ne]; omega
  have hmk := make_room n (by omega)
  clear hk hc hb hd hr hz hlb hlc hX hKY hZB
  refine (callsIn_wide (n := 8)).1 ?_
  refine callsIn_of_wp_marks Tryz.func19 rfl trivial ?_ rfl
  simp only [Tryz.ntmps19, List.size_toArray, List.length_cons, List.length_nil, Nat.reduceAdd, Nat.reduceSub, Array.replicate_succ, Array.replicate_zero, List.push_toArray, List.append_toArray, List.nil_append, List.cons_append]
  refine wpIn_wide.2 ?_
  go_upto_region 1 with (fail)
  obtain ⟨kb, hkb⟩ : ∃ kb, kb = w.heap.size := ⟨_, rfl⟩
  refine wp_let (fun V => Blk V kb 23 KY ∧ Blk V (kb + 1) 27 #[.slice (some ⟨lb, lo, none⟩) n c] ∧ Below w.heap.size w V) ⟨by rw [hkb]; exact (blk_atA _ _ _ _ rfl).alloc _, by rw [hkb]; exact blk_atA _ _ _ _ (by simp), ((Below.refl _ _).alloc (Nat.le_refl _) _).alloc (by simp) _⟩ ?_
  rintro W1 ⟨b1, b2, b3⟩
  have B1 := Lib.hid b1
  have B2 := Lib.hid b2
  have B3 := Lib.hid b3
  have HKB := Lib.hid hkb
  rw [← hkb]
  clear b1 b2 b3 hkb
  go_upto_region 2 with (first
    | (go_at_call 52; refine (HPF.out _).mono ?_; rintro e w4 ⟨rfl, hb4⟩; have C1 := Lib.hid (B1.out.below hb4 B1.out.lt); have C2 := Lib.hid (B2.out.below hb4 B2.out.lt); have C3 := Lib.hid (B3.out.trans (hb4.mono B3.out.size)); clear hb4)
    | (refine wpList_store_row rfl _ _ _ rfl w4.heap.size X rfl rfl 109 ZB (by rw [HZB.out]; exact Blk.new _ _ _) HX.out HZX.out HOX.out ?_))
  have hb5 : Below w4.heap.size w4 ((w4.alloc (.cells ZB 109)).setRow w4.heap.size X) := belowRow ((Below.refl _ _).alloc (Nat.le_refl _) _) (Nat.le_refl _) _
  refine wp_let (fun V => Blk V kb 23 KY ∧ Blk V (kb + 1) 27 #[.slice (some ⟨lb, lo, none⟩) n c] ∧ Below w.heap.size w V) ⟨C1.out.below (by rw [← HZB.out]; exact hb5) C1.out.lt, C2.out.below (by rw [← HZB.out]; exact hb5) C2.out.lt, C3.out.trans ((by rw [← HZB.out]; exact hb5 : Below _ _ _).mono C3.out.size)⟩ ?_
  rintro W2 ⟨b1, b2, b3⟩
  have D1 := Lib.hid b1
  have D2 := Lib.hid b2
  have D3 := Lib.hid b3
  have d2 := b2.cell 0
  clear b1 b2 b3 hb5 B1 B2 B3 C1 C2 C3
  simp at d2
  go_upto_region 9 with (fail)
  obtain ⟨ab, hab⟩ : ∃ ab, ab = W2.heap.size := ⟨_, rfl⟩
  refine wp_let (fun V => Blk V kb 23 KY ∧ Blk V (kb + 1) 27 #[.slice (some ⟨lb, lo, none⟩) n c] ∧ Boxed V (ab + 1) 27 (.slice (some ⟨ab, 0, none⟩) 0 n) ∧ SL V 5 1 (some ⟨ab, 0, none⟩) 0 n [] ∧ Below w.heap.size w V ∧ V.heap.size = ab + 2) ⟨(D1.out.alloc _).alloc _, (D2.out.alloc _).alloc _, by rw [hab]; exact blk_atA _ _ _ _ (by simp), ⟨rfl, .inr ⟨ab, 0, _, rfl, by rw [hab]; exact (Blk.new _ _ _).alloc _, Nat.zero_le _, by unfold maxLen; omega, by simp [size_madeCells], fun j hj => by omega⟩⟩, (D3.out.alloc D3.out.size _).alloc (by simp; have := D3.out.size; omega) _, by rw [hab]; simp⟩ ?_
  rintro W3 ⟨b1, b2, b3, b4, b5, b6⟩
  have E1 := Lib.hid b1
  have E2 := Lib.hid b2
  have E3 := Lib.hid b3
  have E4 := Lib.hid b4
  have E5 := Lib.hid b5
  have HAB := Lib.hid (show w.heap.size ≤ ab ∧ kb + 1 < ab by have := D2.out.lt; have := D3.out.size; omega)
  have HW3 := Lib.hid b6
  rw [← hab]
  clear b1 b2 b3 b4 b5 b6 hab D1 D2 D3 d2
  go_wp2_with (first
    | (refine wpList_load_row rfl _ _ rfl kb rfl 23 KY (0, 0) _ E1.out Tryz.underlying23 rfl HSK.out ?_)
    | (go_at_call 53; refine (HSM.out _).mono ?_; rintro e w5 ⟨rfl, rfl⟩))
  refine wp_let (fun V => StrM V (ab + 2) key ct b d ∧ CryI w kb ab n (.slice (some ⟨lb, lo, none⟩) n c) z [] V) ⟨?_, ?_⟩ ?_
  · rw [HKY.out]
    have e := HW3.out
    exact ⟨((blk_atA _ _ _ _ e).alloc _).alloc _ |>.alloc _, ((blk_atA _ _ _ _ (by simp; omega)).alloc _).alloc _, (blk_atA _ _ _ _ (by simp; omega)).alloc _, blk_atA _ _ _ _ (by simp; omega)⟩
  · have e := E5.out.size
    have hbw : Below w.heap.size w ((((W3.alloc (.cells KY 23)).alloc (.cells #[.int .u32 ct] 26)).alloc (.cells #[.int .i64 b] 3)).alloc (.cells #[.int .i64 d] 22)) := (((E5.out.alloc (by omega) _).alloc (by simp; omega) _).alloc (by simp; omega) _).alloc (by simp; omega) _
    have hb3 : Below W3.heap.size W3 ((((W3.alloc (.cells KY 23)).alloc (.cells #[.int .u32 ct] 26)).alloc (.cells #[.int .i64 b] 3)).alloc (.cells #[.int .i64 d] 22)) := ((((Below.refl _ _).alloc (Nat.le_refl _) _).alloc (by simp) _).alloc (by simp; omega) _).alloc (by simp; omega) _
    exact ⟨(hb3.block _ E3.out.lt).trans E3.out, E4.out.next hb3, (hb3.block _ E2.out.lt).trans E2.out, hbw⟩
  rintro W5 ⟨b1, b2⟩
  have F1 := Lib.hid b1
  have F2 := Lib.hid b2
  have hW3 := HW3.out
  rw [hW3]
  have HZS := Lib.hid (show ab + 2 ≤ W5.heap.size by have := b1.k.lt; omega)
  clear b1 b2 hW3 E1 E2 E3 E4 E5 HW3
  refine (wpIn_wide (n := 8)).1 ?_
  have hseq := HSR.out (ab + 2) (ab + 1) ab W5 F1.out (by have := HZS.out; omega) (by have := HZS.out; omega) (.inl (by omega)) (.inl (by omega))
  obtain ⟨i0, hi0, hz0, hz1, hz2⟩ := info_parts Tryz.infoByte
  refine wpIn_rangeFunc_runs rfl (by decide) (gf := 91) (lb := #[.pointer (some ⟨ab + 2, 0, none⟩), .pointer (some ⟨ab + 2 + 1, 0, none⟩), .pointer (some ⟨ab + 2 + 1 + 1, 0, none⟩), .pointer (some ⟨ab + 2 + 1 + 1 + 1, 0, none⟩)]) rfl trivial (enters_of Tryz.func91 (by kernel_rfl) rfl)
    hseq KeepC.trans keepC_put (Below.refl _ _) (fun _ => rfl) n (by omega)
    (fun pre W => CryI w kb ab n (.slice (some ⟨lb, lo, none⟩) n c) z pre W ∧ pre.length < n)
    (fun cd pre W => cd = .exit 1 ∧ CryI w kb ab n (.slice (some ⟨lb, lo, none⟩) n c) z pre W ∧ pre.length = n)
    (cryI_own (by have := F2.out.low.size; omega) _)
    (fun cd s A B row hs hg hr => ⟨hs.1, cryI_own (by have := F2.out.low.size; omega) (fun pre => pre.length = n) s A B row hs.2 hg hr⟩)
    (fun pre W h => h.2) ⟨F2.out, by show 0 < n; omega⟩ ?a1 ?assign ?body ?stop
  case assign =>
    intro l x W K hK
    gi_wp2
    exact hK
  case body =>
    rintro l pre x W ⟨hI, hlt⟩
    obtain ⟨m, hm⟩ : ∃ m, m = pre.length := ⟨_, rfl⟩
    have HM := Lib.hid hm
    have hmn : m < n := by omega
    have m0 : (0 : Int) ≤ (m : Int) := by omega
    have m1 : (m : Int) < (n : Int) := by omega
    obtain ⟨zz, hzz⟩ : ∃ zz, zz = z m := ⟨_, rfl⟩
    obtain ⟨xx, hxx⟩ : ∃ xx, xx = x.1 := ⟨_, rfl⟩
    obtain ⟨yy, hyy⟩ : ∃ yy, yy = zz ^^^ xx := ⟨_, rfl⟩
    have HXX := Lib.hid hxx
    have hz8 : zz < 256 := by rw [hzz]; exact HZ.out m hmn
    have hx8 : xx < 256 := by rw [hxx]; exact x.2
    have hbx := bx zz xx yy hz8 hx8 hyy.symm
    have HYL := Lib.hid (show outL z (pre ++ [x]) = outL z pre ++ [.int .u8 yy] by rw [outL_snoc, ← hm, hyy, hzz, hxx])
    have hbox := hI.box
    have hsl := hI.sl
    have harg := hI.arg
    have hlow := hI.low
    rw [← hm] at hbox hsl
    have HBOX := Lib.hid hbox
    have HC14 := Lib.hid (show W.drew.cell? ⟨ab + 1, 0, none⟩ = some (.slice (some ⟨ab, 0, none⟩) m n) from hbox.cell)
    have HC9 := Lib.hid harg.cell
    have hcz : W.cell? ⟨lb, lo + m, none⟩ = some (.int .u8 zz) := by rw [hzz]; exact (hlow.cell (p := ⟨lb, lo + m, none⟩) HLB.out).trans (HLC.out m hmn)
    have HS0 := Lib.hid (show W.drew.cell? ⟨kb + 1, 0, none⟩ = some (.slice (some ⟨lb, lo, none⟩) n c) ∧ W.drew.cell? ⟨lb, lo + m, none⟩ = some (.int .u8 zz) from ⟨harg.cell, hcz⟩)
    have HTA := Lib.hid (show Below W.heap.size W ((W.drew).alloc (.cells #[.int .u8 yy] 5)) from ((Below.refl _ W).drew).alloc (Nat.le_refl _) _)
    have HC15 := Lib.hid (show ((W.drew).alloc (.cells #[.int .u8 yy] 5)).cell? ⟨ab + 1, 0, none⟩ = some (.slice (some ⟨ab, 0, none⟩) m n) from (HTA.out.cell (p := ⟨ab + 1, 0, none⟩) hbox.lt).trans hbox.cell)
    have HS1 := Lib.hid (show ((W.drew).alloc (.cells #[.int .u8 yy] 5)).cell? ⟨kb + 1, 0, none⟩ = some (.slice (some ⟨lb, lo, none⟩) n c) ∧ ((W.drew).alloc (.cells #[.int .u8 yy] 5)).cell? ⟨lb, lo + m, none⟩ = some (.int .u8 zz) from ⟨(HTA.out.cell (p := ⟨kb + 1, 0, none⟩) harg.lt).trans harg.cell, (HTA.out.cell (p := ⟨lb, lo + m, none⟩) (Nat.lt_of_lt_of_le HLB.out hlow.size)).trans hcz⟩)
    have HSL1 := Lib.hid (hsl.next HTA.out)
    have HTB := Lib.hid (show ∀ (j : Nat) (u : Value), ([.int .u8 yy] : List Value)[j]? = some u → ((W.drew).alloc (.cells #[.int .u8 yy] 5)).cell? ((⟨W.heap.size, 0, none⟩ : Addr).add j) = some u from fun j u hu => by
      cases j with
      | zero => rw [Addr.add_lit]; simp at hu; subst hu; exact (blk_atA W.drew 5 #[.int .u8 yy] W.heap.size rfl).cell 0
      | succ j => simp at hu)
    have hkb1 : kb + 1 < ab := HAB.out.2
    have HEND : Hid (∀ w6, SL w6 5 1 (some ⟨ab, 0, none⟩) (m + 1) n (outL z pre ++ [.int .u8 yy]) → KeepF (fun k => k = ab) ((W.drew).alloc (.cells #[.int .u8 yy] 5)) w6 →
        (w6.cell? ⟨kb + 1, 0, none⟩ = some (.slice (some ⟨lb, lo, none⟩) n c) ∧ w6.cell? ⟨lb, lo + m, none⟩ = some (.int .u8 zz)) ∧ w6.cell? ⟨ab + 1, 0, none⟩ = some (.slice (some ⟨ab, 0, none⟩) m n) ∧ w6.frozen? ⟨ab + 1, 0, none⟩ = false ∧
        ((w6.setCell ⟨ab + 1, 0, none⟩ (.slice (some ⟨ab, 0, none⟩) (m + 1) n)).cell? ⟨kb + 1, 0, none⟩ = some (.slice (some ⟨lb, lo, none⟩) n c) ∧ (w6.setCell ⟨ab + 1, 0, none⟩ (.slice (some ⟨ab, 0, none⟩) (m + 1) n)).cell? ⟨lb, lo + m, none⟩ = some (.int .u8 zz)) ∧
        ((w6.setCell ⟨ab + 1, 0, none⟩ (.slice (some ⟨ab, 0, none⟩) (m + 1) n)).cell? ⟨kb + 1, 0, none⟩ = some (.slice (some ⟨lb, lo, none⟩) n c) ∧ (w6.setCell ⟨ab + 1, 0, none⟩ (.slice (some ⟨ab, 0, none⟩) (m + 1) n)).cell? ⟨ab + 1, 0, none⟩ = some (.slice (some ⟨ab, 0, none⟩) (m + 1) n) ∧
          KeepsFrom W5.heap.size W (w6.setCell ⟨ab + 1, 0, none⟩ (.slice (some ⟨ab, 0, none⟩) (m + 1) n)) ∧ KeepC (ab + 1) ab W (w6.setCell ⟨ab + 1, 0, none⟩ (.slice (some ⟨ab, 0, none⟩) (m + 1) n)) ∧ CryI w kb ab n (.slice (some ⟨lb, lo, none⟩) n c) z (pre ++ [x]) (w6.setCell ⟨ab + 1, 0, none⟩ (.slice (some ⟨ab, 0, none⟩) (m + 1) n)) ∧ True)) := Lib.hid (fun w6 hs6 hk6 => by
      have hlbw : lb < w.heap.size := HLB.out
      have hwab : w.heap.size ≤ ab := HAB.out.1
      have hbxl := hbox.lt
      have hkW : KeepF (fun k => k = ab) W w6 := (KeepF.of_below HTA.out).trans hk6 (fun _ _ h => h)
      have bb6 : Boxed w6 (ab + 1) 27 (.slice (some ⟨ab, 0, none⟩) m n) := hkW.blk hbox (by omega)
      have ba6 : Boxed w6 (kb + 1) 27 (.slice (some ⟨lb, lo, none⟩) n c) := hkW.blk harg (by omega)
      have hkS : KeepF (fun k => k = ab ∨ k = ab + 1) W (w6.setCell ⟨ab + 1, 0, none⟩ (.slice (some ⟨ab, 0, none⟩) (m + 1) n)) := (hkW.mono (fun _ h => .inl h)).setCell (p := ⟨ab + 1, 0, none⟩) (.inr rfl) _
      have cz6 : w6.cell? ⟨lb, lo + m, none⟩ = some (.int .u8 zz) := (hkW.cell (p := ⟨lb, lo + m, none⟩) (by have := hlow.size; show lb < _; omega) (by show ¬ lb = ab; omega)).trans hcz
      have ck9 : (w6.setCell ⟨ab + 1, 0, none⟩ (.slice (some ⟨ab, 0, none⟩) (m + 1) n)).cell? ⟨kb + 1, 0, none⟩ = some (.slice (some ⟨lb, lo, none⟩) n c) := (World.cell?_setCell_other w6 _ _ _ (fun e => by injection e with e; omega)).trans ba6.cell
      have cz9 : (w6.setCell ⟨ab + 1, 0, none⟩ (.slice (some ⟨ab, 0, none⟩) (m + 1) n)).cell? ⟨lb, lo + m, none⟩ = some (.int .u8 zz) := (World.cell?_setCell_other w6 _ _ _ (fun e => by injection e with e; omega)).trans cz6
      obtain ⟨cab, hcab⟩ := hsl.obj rfl
      refine ⟨⟨ba6.cell, cz6⟩, bb6.cell, bb6.frozen, ⟨ck9, cz9⟩, ck9, (bb6.set _).cell, ⟨hkS.size, fun k o hk hko hno => ?_⟩, ⟨hkS.size, fun k cs t fr h1 h2 h3 => (hkS.block k (Array.getElem?_eq_some_iff.1 h3).1 (by omega)).trans h3⟩, ⟨?_, ?_, ?_, ?_⟩, trivial⟩
      · refine (hkS.block k (Array.getElem?_eq_some_iff.1 hko).1 (fun e => ?_)).trans hko
        have := HZS.out
        omega
      · rw [List.length_append, ← hm]; exact bb6.set _
      · rw [List.length_append, ← hm, HYL.out]
        exact hs6.keep (fun a ha => by cases ha; exact Below.heap_setCell _ _ _ _ (by show ab ≠ ab + 1; omega))
      · exact hkS.blk harg (by omega)
      · exact KeepF.below hlow hkS (fun k hk => by omega) (by have := hlow.size; omega))
    clear hI hbox hsl harg hlow hcz hm hzz hxx hyy hlt
    gi_wp2_with (fail)
    rw [← HXX.out]
    refine region_held_round (S := fun w' => w'.cell? ⟨kb + 1, 0, none⟩ = some (.slice (some ⟨lb, lo, none⟩) n c) ∧ w'.cell? ⟨lb, lo + m, none⟩ = some (.int .u8 zz)) (by rintro ⟨_, _, h⟩; exact h) (by kernel_rfl) (by kernel_rfl) HS0.out (fun hHeld => ?_)
    refine wpAnyH_take (i := 1) (oi := ⟨some 45, _, _, _, _, _⟩) (v := .slice (some ⟨lb, lo, none⟩) n c) rfl (by kernel_rfl) (by kernel_rfl) (by kernel_rfl) (fun _ _ _ h => h) (Or.inl ⟨by rfl, fun W hW => (by have s0 := hW.1; go_simp)⟩) (by assumption) ?_
    try simp only [Act.put, List.setIfInBounds_toArray, List.set_cons_zero, List.set_cons_succ]
    refine wpAnyH_take (i := 6) (oi := ⟨some 50, _, _, _, _, _⟩) (v := .int .u8 xx) rfl (by kernel_rfl) (by kernel_rfl) (by kernel_rfl) (fun _ _ _ h => h) (Or.inl ⟨by rfl, fun W hW => (by rfl)⟩) (by assumption) ?_
    try simp only [Act.put, List.setIfInBounds_toArray, List.set_cons_zero, List.set_cons_succ]
    refine wpAnyH_ready (rs := [0, 2]) (by kernel_rfl) (by simp) ?_
    refine AllReadyH.cons (o := ⟨some 44, _, _, _, _, _⟩) rfl (fun K hK => ?_) (AllReadyH.cons (o := ⟨some 46, _, _, _, _, _⟩) rfl (fun K hK => ?_) AllReadyH.nil)
    · rw [if_pos (by rfl)]
      have cl := HC14.out
      go_simp
      clear cl
      refine hK.out _ _ HS0.out (fun hHeld => ?_)
      clear hK K
      try simp only [Act.put, List.setIfInBounds_toArray, List.set_cons_zero, List.set_cons_succ]
      refine wpAnyH_ready (rs := [2]) (by kernel_rfl) (by simp) ?_
      refine AllReadyH.cons (o := ⟨some 46, _, _, _, _, _⟩) rfl (fun K hK => ?_) AllReadyH.nil
      rw [if_pos (by rfl)]
      have cl := HC14.out
      go_simp
      clear cl
      refine hK.out _ _ HS0.out (fun hHeld => ?_)
      clear hK K
      try simp only [Act.put, List.setIfInBounds_toArray, List.set_cons_zero, List.set_cons_succ]
      refine wpAnyH_take (i := 3) (oi := ⟨some 47, _, _, _, _, _⟩) (v := .int .i64 m) rfl (by kernel_rfl) (by kernel_rfl) (by kernel_rfl) (fun _ _ _ h => h) (Or.inl ⟨by rfl, fun W hW => (by go_simp)⟩) (by assumption) ?_
      try simp only [Act.put, List.setIfInBounds_toArray, List.set_cons_zero, List.set_cons_succ]
      refine wpAnyH_take (i := 4) (oi := ⟨some 48, _, _, _, _, _⟩) (v := .pointer (some ⟨lb, lo + m, none⟩)) rfl (by kernel_rfl) (by kernel_rfl) (by kernel_rfl) (fun _ _ _ h => h) (Or.inl ⟨by rfl, fun W hW => (by go_simp)⟩) (by assumption) ?_
      try simp only [Act.put, List.setIfInBounds_toArray, List.set_cons_zero, List.set_cons_succ]
      refine wpAnyH_take (i := 5) (oi := ⟨some 49, _, _, _, _, _⟩) (v := .int .u8 zz) rfl (by kernel_rfl) (by kernel_rfl) (by kernel_rfl) (fun _ _ _ h => h) (Or.inl ⟨by rfl, fun W hW => (by have s1 := hW.2; go_simp)⟩) (by assumption) ?_
      try simp only [Act.put, List.setIfInBounds_toArray, List.set_cons_zero, List.set_cons_succ]
      refine wpAnyH_take (i := 7) (oi := ⟨some 51, _, _, _, _, _⟩) (v := .int .u8 yy) rfl (by kernel_rfl) (by kernel_rfl) (by kernel_rfl) (fun _ _ _ h => h) (Or.inl ⟨by rfl, fun W hW => (by go_simp)⟩) (by assumption) ?_
      try simp only [Act.put, List.setIfInBounds_toArray, List.set_cons_zero, List.set_cons_succ]
      refine wpAnyH_ready (rs := [8]) (by kernel_rfl) (by simp) ?_
      refine AllReadyH.cons (o := ⟨some 52, _, _, _, _, _⟩) rfl (fun K hK => ?_) AllReadyH.nil
      rw [if_pos (by rfl)]
      go_simp
      refine hK.out _ _ HS1.out (fun hHeld => ?_)
      clear hK K
      try simp only [Act.put, List.setIfInBounds_toArray, List.set_cons_zero, List.set_cons_succ]
      refine wpAnyH_ready (rs := [9]) (by kernel_rfl) (by simp) ?_
      refine AllReadyH.cons (o := ⟨some 53, _, _, _, _, _⟩) rfl (fun K hK => ?_) AllReadyH.nil
      rw [if_pos (by rfl)]
      refine wp_sl_room _ _ 27 27 rfl _ 5 i0 1 Tryz.underlying27 hi0 hz1 ab 0 m n (outL z pre) rfl HSL1.out (.slice (some ⟨W.heap.size, 0, none⟩) 1 1) rfl 1 [.int .u8 yy]
        (Src.ofSlice _ Tryz.underlying27 ⟨W.heap.size, 0, none⟩ 1 1 [.int .u8 yy] (by rfl) (fun j u hu => HTB.out j u hu) (by intro u hu; simp at hu; subst hu; rfl)) (by omega) (fun w6 hs6 hk6 => ?_)
      have HS6 := Lib.hid hs6
      have HK6 := Lib.hid hk6
      have HG6 := Lib.hid (HEND.out w6 hs6 hk6)
      have hS6 := HG6.out.1
      refine hK.out _ _ hS6 (fun hHeld => ?_)
      clear hK K hs6 hk6 hS6
      try simp only [Act.put, List.setIfInBounds_toArray, List.set_cons_zero, List.set_cons_succ]
      refine wpAnyH_ready (rs := [10]) (by kernel_rfl) (by simp) ?_
      refine AllReadyH.cons (o := ⟨none, _, _, _, _, _⟩) rfl (fun K hK => ?_) AllReadyH.nil
      rw [if_pos (by rfl)]
      have cl := HG6.out.2.1
      have cf := HG6.out.2.2.1
      go_simp
      clear cl cf
      refine hK.out _ _ HG6.out.2.2.2.1 (fun hHeld => ?_)
      clear hK K
      try simp only [Act.put, List.setIfInBounds_toArray, List.set_cons_zero, List.set_cons_succ]
      refine wpAnyH_done (by kernel_rfl) ?_ _
      have HE6 := Lib.hid HG6.out.2.2.2.2
      have c14 := HE6.out.2.1
      have c9 := HE6.out.1
      clear HS6 HK6 HG6
      obtain ⟨W9, hW9⟩ : ∃ W9, W9 = w6.setCell ⟨ab + 1, 0, none⟩ (.slice (some ⟨ab, 0, none⟩) (m + 1) n) := ⟨_, rfl⟩
      rw [← hW9] at HE6 c14 c9 ⊢
      clear hW9
      by_cases hlast : m + 1 = n
      · have t1 : ((m : Int) + 1 == (n : Int)) = true := by rw [beq_iff_eq]; omega
        gi_wp2
        exact ⟨HE6.out.2.2.1, rfl, HE6.out.2.2.2.2.1, by rw [List.length_append, ← HM.out]; exact hlast⟩
      · have t1 : ((m : Int) + 1 == (n : Int)) = false := by rw [beq_eq_false_iff_ne]; omega
        gi_wp2
        exact ⟨HE6.out.2.2.1, HE6.out.2.2.2.1, HE6.out.2.2.2.2.1, by rw [List.length_append, ← HM.out]; show m + 1 < n; omega⟩
    · rw [if_pos (by rfl)]
      have cl := HC14.out
      go_simp
      clear cl
      refine hK.out _ _ HS0.out (fun hHeld => ?_)
      clear hK K
      try simp only [Act.put, List.setIfInBounds_toArray, List.set_cons_zero, List.set_cons_succ]
      refine wpAnyH_take (i := 3) (oi := ⟨some 47, _, _, _, _, _⟩) (v := .int .i64 m) rfl (by kernel_rfl) (by kernel_rfl) (by kernel_rfl) (fun _ _ _ h => h) (Or.inl ⟨by rfl, fun W hW => (by go_simp)⟩) (by assumption) ?_
      try simp only [Act.put, List.setIfInBounds_toArray, List.set_cons_zero, List.set_cons_succ]
      refine wpAnyH_take (i := 4) (oi := ⟨some 48, _, _, _, _, _⟩) (v := .pointer (some ⟨lb, lo + m, none⟩)) rfl (by kernel_rfl) (by kernel_rfl) (by kernel_rfl) (fun _ _ _ h => h) (Or.inl ⟨by rfl, fun W hW => (by go_simp)⟩) (by assumption) ?_
      try simp only [Act.put, List.setIfInBounds_toArray, List.set_cons_zero, List.set_cons_succ]
      refine wpAnyH_take (i := 5) (oi := ⟨some 49, _, _, _, _, _⟩) (v := .int .u8 zz) rfl (by kernel_rfl) (by kernel_rfl) (by kernel_rfl) (fun _ _ _ h => h) (Or.inl ⟨by rfl, fun W hW => (by have s1 := hW.2; go_simp)⟩) (by assumption) ?_
      try simp only [Act.put, List.setIfInBounds_toArray, List.set_cons_zero, List.set_cons_succ]
      refine wpAnyH_take (i := 7) (oi := ⟨some 51, _, _, _, _, _⟩) (v := .int .u8 yy) rfl (by kernel_rfl) (by kernel_rfl) (by kernel_rfl) (fun _ _ _ h => h) (Or.inl ⟨by rfl, fun W hW => (by go_simp)⟩) (by assumption) ?_
      try simp only [Act.put, List.setIfInBounds_toArray, List.set_cons_zero, List.set_cons_succ]
      refine wpAnyH_ready (rs := [0, 8]) (by kernel_rfl) (by simp) ?_
      refine AllReadyH.cons (o := ⟨some 44, _, _, _, _, _⟩) rfl (fun K hK => ?_) (AllReadyH.cons (o := ⟨some 52, _, _, _, _, _⟩) rfl (fun K hK => ?_) AllReadyH.nil)
      · rw [if_pos (by rfl)]
        have cl := HC14.out
        go_simp
        clear cl
        refine hK.out _ _ HS0.out (fun hHeld => ?_)
        clear hK K
        try simp only [Act.put, List.setIfInBounds_toArray, List.set_cons_zero, List.set_cons_succ]
        refine wpAnyH_ready (rs := [8]) (by kernel_rfl) (by simp) ?_
        refine AllReadyH.cons (o := ⟨some 52, _, _, _, _, _⟩) rfl (fun K hK => ?_) AllReadyH.nil
        rw [if_pos (by rfl)]
        go_simp
        refine hK.out _ _ HS1.out (fun hHeld => ?_)
        clear hK K
        try simp only [Act.put, List.setIfInBounds_toArray, List.set_cons_zero, List.set_cons_succ]
        refine wpAnyH_ready (rs := [9]) (by kernel_rfl) (by simp) ?_
        refine AllReadyH.cons (o := ⟨some 53, _, _, _, _, _⟩) rfl (fun K hK => ?_) AllReadyH.nil
        rw [if_pos (by rfl)]
        refine wp_sl_room _ _ 27 27 rfl _ 5 i0 1 Tryz.underlying27 hi0 hz1 ab 0 m n (outL z pre) rfl HSL1.out (.slice (some ⟨W.heap.size, 0, none⟩) 1 1) rfl 1 [.int .u8 yy]
          (Src.ofSlice _ Tryz.underlying27 ⟨W.heap.size, 0, none⟩ 1 1 [.int .u8 yy] (by rfl) (fun j u hu => HTB.out j u hu) (by intro u hu; simp at hu; subst hu; rfl)) (by omega) (fun w6 hs6 hk6 => ?_)
        have HS6 := Lib.hid hs6
        have HK6 := Lib.hid hk6
        have HG6 := Lib.hid (HEND.out w6 hs6 hk6)
        have hS6 := HG6.out.1
        refine hK.out _ _ hS6 (fun hHeld => ?_)
        clear hK K hs6 hk6 hS6
        try simp only [Act.put, List.setIfInBounds_toArray, List.set_cons_zero, List.set_cons_succ]
        refine wpAnyH_ready (rs := [10]) (by kernel_rfl) (by simp) ?_
        refine AllReadyH.cons (o := ⟨none, _, _, _, _, _⟩) rfl (fun K hK => ?_) AllReadyH.nil
        rw [if_pos (by rfl)]
        have cl := HG6.out.2.1
        have cf := HG6.out.2.2.1
        go_simp
        clear cl cf
        refine hK.out _ _ HG6.out.2.2.2.1 (fun hHeld => ?_)
        clear hK K
        try simp only [Act.put, List.setIfInBounds_toArray, List.set_cons_zero, List.set_cons_succ]
        refine wpAnyH_done (by kernel_rfl) ?_ _
        have HE6 := Lib.hid HG6.out.2.2.2.2
        have c14 := HE6.out.2.1
        have c9 := HE6.out.1
        clear HS6 HK6 HG6
        obtain ⟨W9, hW9⟩ : ∃ W9, W9 = w6.setCell ⟨ab + 1, 0, none⟩ (.slice (some ⟨ab, 0, none⟩) (m + 1) n) := ⟨_, rfl⟩
        rw [← hW9] at HE6 c14 c9 ⊢
        clear hW9
        by_cases hlast : m + 1 = n
        · have t1 : ((m : Int) + 1 == (n : Int)) = true := by rw [beq_iff_eq]; omega
          gi_wp2
          exact ⟨HE6.out.2.2.1, rfl, HE6.out.2.2.2.2.1, by rw [List.length_append, ← HM.out]; exact hlast⟩
        · have t1 : ((m : Int) + 1 == (n : Int)) = false := by rw [beq_eq_false_iff_ne]; omega
          gi_wp2
          exact ⟨HE6.out.2.2.1, HE6.out.2.2.2.1, HE6.out.2.2.2.2.1, by rw [List.length_append, ← HM.out]; show m + 1 < n; omega⟩
      · rw [if_pos (by rfl)]
        go_simp
        refine hK.out _ _ HS1.out (fun hHeld => ?_)
        clear hK K
        try simp only [Act.put, List.setIfInBounds_toArray, List.set_cons_zero, List.set_cons_succ]
        refine wpAnyH_ready (rs := [0]) (by kernel_rfl) (by simp) ?_
        refine AllReadyH.cons (o := ⟨some 44, _, _, _, _, _⟩) rfl (fun K hK => ?_) AllReadyH.nil
        rw [if_pos (by rfl)]
        obtain ⟨V8, hV8⟩ : ∃ V, V = (W.alloc (.cells #[.int .u8 yy] 5)).drew := ⟨_, rfl⟩
        have cl : ((W.alloc (.cells #[.int .u8 yy] 5)).drew).cell? ⟨ab + 1, 0, none⟩ = some (.slice (some ⟨ab, 0, none⟩) m n) := HC15.out
        rw [← hV8] at cl ⊢
        have HV8 := Lib.hid hV8
        clear hV8
        go_simp
        clear cl
        rw [HV8.out]
        refine hK.out _ _ HS1.out (fun hHeld => ?_)
        clear hK K
        try simp only [Act.put, List.setIfInBounds_toArray, List.set_cons_zero, List.set_cons_succ]
        refine wpAnyH_ready (rs := [9]) (by kernel_rfl) (by simp) ?_
        refine AllReadyH.cons (o := ⟨some 53, _, _, _, _, _⟩) rfl (fun K hK => ?_) AllReadyH.nil
        rw [if_pos (by rfl)]
        refine wp_sl_room _ _ 27 27 rfl _ 5 i0 1 Tryz.underlying27 hi0 hz1 ab 0 m n (outL z pre) rfl HSL1.out (.slice (some ⟨W.heap.size, 0, none⟩) 1 1) rfl 1 [.int .u8 yy]
          (Src.ofSlice _ Tryz.underlying27 ⟨W.heap.size, 0, none⟩ 1 1 [.int .u8 yy] (by rfl) (fun j u hu => HTB.out j u hu) (by intro u hu; simp at hu; subst hu; rfl)) (by omega) (fun w6 hs6 hk6 => ?_)
        have HS6 := Lib.hid hs6
        have HK6 := Lib.hid hk6
        have HG6 := Lib.hid (HEND.out w6 hs6 hk6)
        have hS6 := HG6.out.1
        refine hK.out _ _ hS6 (fun hHeld => ?_)
        clear hK K hs6 hk6 hS6
        try simp only [Act.put, List.setIfInBounds_toArray, List.set_cons_zero, List.set_cons_succ]
        refine wpAnyH_ready (rs := [10]) (by kernel_rfl) (by simp) ?_
        refine AllReadyH.cons (o := ⟨none, _, _, _, _, _⟩) rfl (fun K hK => ?_) AllReadyH.nil
        rw [if_pos (by rfl)]
        have cl := HG6.out.2.1
        have cf := HG6.out.2.2.1
        go_simp
        clear cl cf
        refine hK.out _ _ HG6.out.2.2.2.1 (fun hHeld => ?_)
        clear hK K
        try simp only [Act.put, List.setIfInBounds_toArray, List.set_cons_zero, List.set_cons_succ]
        refine wpAnyH_done (by kernel_rfl) ?_ _
        have HE6 := Lib.hid HG6.out.2.2.2.2
        have c14 := HE6.out.2.1
        have c9 := HE6.out.1
        clear HS6 HK6 HG6
        obtain ⟨W9, hW9⟩ : ∃ W9, W9 = w6.setCell ⟨ab + 1, 0, none⟩ (.slice (some ⟨ab, 0, none⟩) (m + 1) n) := ⟨_, rfl⟩
        rw [← hW9] at HE6 c14 c9 ⊢
        clear hW9
        by_cases hlast : m + 1 = n
        · have t1 : ((m : Int) + 1 == (n : Int)) = true := by rw [beq_iff_eq]; omega
          gi_wp2
          exact ⟨HE6.out.2.2.1, rfl, HE6.out.2.2.2.2.1, by rw [List.length_append, ← HM.out]; exact hlast⟩
        · have t1 : ((m : Int) + 1 == (n : Int)) = false := by rw [beq_eq_false_iff_ne]; omega
          gi_wp2
          exact ⟨HE6.out.2.2.1, HE6.out.2.2.2.1, HE6.out.2.2.2.2.1, by rw [List.length_append, ← HM.out]; show m + 1 < n; omega⟩
  case stop =>
    rintro D cd pre W hD ⟨m, hpre⟩ ⟨rfl, hI, hlen⟩ hdf
    subst hpre
    rw [ksL_len] at hlen
    subst hlen
    have hbox := hI.box
    have hsl := hI.sl
    rw [ksL_len] at hbox hsl
    have hc := hbox.cell
    have HSL := Lib.hid hsl
    have HLW := Lib.hid hI.low
    have HDF := Lib.hid hdf
    have HDN := Lib.hid (show D ≠ ab by have := HZS.out; omega)
    clear hbox hsl hI hdf
    gi_wp2
    go_wp2
    refine ⟨by simp, .inl ⟨_, _, rfl, run_takeDeferred HDF.out, ?_⟩⟩
    refine ⟨.tuple #[.slice (some ⟨ab, 0, none⟩) m m, .int .i64 0], by simp [results, Tryz.results19, go_sem], some ⟨ab, 0, none⟩, m, rfl, Nat.le_refl _, fresh_some HAB.out.1, ?_, ?_⟩
    · have hput := HSL.out.keep (w' := W.putObj D (.deferred none)) (fun a ha => by cases ha; exact World.putObj_heap_other (Ne.symm HDN.out))
      intro _
      refine ⟨ab, 0, rfl, hput.lt rfl, fun j hj => ?_⟩
      rw [hput.cell rfl (by omega), HOL.out m j hj]
    · exact HLW.out.grown (grownBy_putObj' _ D _) HLW.out.size (fun k e => by cases e; have := HZS.out; have := HAB.out; omega)
end Go.Proofs.YtiffminhlimajaaGreat
