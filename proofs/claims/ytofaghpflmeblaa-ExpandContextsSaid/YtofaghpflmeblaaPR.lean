/- steps: both expanders over a list of byte slices. -/
import Derived.Test.YtofaghpflmeblaaPN
namespace Go.Proofs.Ytofaghpflmeblaa
open Go.RowKit Go.WideShapes
set_option linter.unusedVariables false
attribute [local go_sem ↓] Go.wp_at_zero Go.wp_at_succ

/-- the state behind k steps -/
def xrun (pn : Nat → Nat) (z : Nat → Nat → Int) (S0 : Nat → Ec) : Nat → Nat → Ec
  | 0 => S0
  | k + 1 => if pn k = 0 then fun _ => Ec.zero else xS (xrun pn z S0 k) (pn k) (z k)
theorem xrun_zero {pn : Nat → Nat} {z : Nat → Nat → Int} {S0 : Nat → Ec} {k : Nat} (h : pn k = 0) : xrun pn z S0 (k + 1) = fun _ => Ec.zero := by
  show (if pn k = 0 then _ else _) = _
  rw [if_pos h]
theorem xrun_step {pn : Nat → Nat} {z : Nat → Nat → Int} {S0 : Nat → Ec} {k : Nat} (h : pn k ≠ 0) : xrun pn z S0 (k + 1) = xS (xrun pn z S0 k) (pn k) (z k) := by
  show (if pn k = 0 then _ else _) = _
  rw [if_neg h]
theorem xrun_ok (pn : Nat → Nat) (z : Nat → Nat → Int) (S0 : Nat → Ec) (m : Nat) (h0 : ∀ i, i < 16 → (S0 i).Ok) (hz : ∀ k, k < m → ∀ j, j < pn k → 0 ≤ z k j ∧ z k j < 256) : ∀ k, k ≤ m → ∀ i, i < 16 → (xrun pn z S0 k i).Ok
  | 0, _ => h0
  | k + 1, hk => by
    by_cases h : pn k = 0
    · rw [xrun_zero h]; exact zero_all
    · rw [xrun_step h]; exact xS_ok _ _ _ (xrun_ok pn z S0 m h0 hz k (by omega)) (hz k (by omega))
theorem row_ne {w : World} {A : Option Addr} {n g : Nat} {v : Nat → Value} {t : TypeId} {cs : Array Value} (h : Row w w.heap.size A n v) (hB : Blk w g t cs) (hne : ∀ i : Nat, i < cs.size → ∀ j, cs[i]? ≠ some (v j)) : ∀ a, A = some a → n ≠ 0 → a.block ≠ g := by
  rintro a rfl hn rfl
  obtain ⟨b, off, e, hb, hc⟩ := h (by omega)
  cases e
  have h1 := hc 0 (by omega)
  rw [Blk.cell hB] at h1
  rcases Nat.lt_or_ge (off + 0) cs.size with hl | hl
  · exact hne _ hl 0 h1
  · rw [Array.getElem?_eq_none hl] at h1; cases h1
theorem rx_no_u8 (S : Nat → Ec) (f : Nat → Int) : ∀ i : Nat, i < (rxArr S).size → ∀ j, (rxArr S)[i]? ≠ some (.int .u8 (f j)) := by
  intro i hi j e
  rw [rxArr_size] at hi
  rw [rxArr_at S i hi] at e
  have hk : i % 12 < 12 := Nat.mod_lt _ (by decide)
  revert e
  generalize S (i / 12) = c
  revert hk
  generalize i % 12 = k
  intro hk
  match k, hk with
  | 0, _ | 1, _ | 2, _ | 3, _ | 4, _ | 5, _ | 6, _ | 7, _ | 8, _ | 9, _ | 10, _ | 11, _ => intro e; simp [Ec.rcell, Ec.rcells] at e

theorem results_cell_one {P : Program} {fn : Func} {p q : Tmp} {ty : TypeId} (h : fn.results = #[.cell p ty, .tmp q]) (tmps : Array Value) (w : World) (g : Nat) (t : TypeId) (cs : Array Value) (fr : Nat × Nat) (d : TypeDesc)
    (hp : tmps.getD p undef = .pointer (some ⟨g, 0, none⟩)) (hg : w.heap[g]? = some (.cells cs t fr))
    (hu : P.underlying ty = some d) (hd : (match d with | .struct _ | .array _ _ => true | _ => false) = true) (hi : (P.info? ty).map (·.size) = some cs.size) (u : Value) (hq : tmps.getD q undef = u) :
    (results fn tmps).run P w = .ok (.tuple #[.agg cs, u]) w := by
  subst hq
  have hp' : tmps[p]?.getD undef = .pointer (some ⟨g, 0, none⟩) := by simpa using hp
  simp [results, h, hp', asAddr, run_loadVar_row w g t ty cs fr d hg hu hd hi]
theorem Keep1.rowFar {g b : Nat} {w W : World} (h : Keep1 g w W) (hb : w.heap.size ≤ b) (cs : Array Value) : Keep1 g w (W.setRow b cs) :=
  ⟨h.os, h.tape, h.output, by rw [size_setRow]; exact h.size, fun k hk hne => (setRow_other W b k cs (by omega)).trans (h.block k hk hne)⟩
theorem EB.rowFar {g b : Nat} {made : Bool} {S : Nat → Ec} {W : World} (h : EB W g made S) (hb : g ≠ b) (cs : Array Value) : EB (W.setRow b cs) g made S := (setRow_other W b g cs hb).trans h
theorem Blk.rowFar {g b : Nat} {t : TypeId} {ds : Array Value} {W : World} (h : Blk W g t ds) (hb : g ≠ b) (cs : Array Value) : Blk (W.setRow b cs) g t ds := (setRow_other W b g cs hb).trans h

/-- what stands behind the reference's Expand -/
def Mid9 (wr : World) (A : Option Addr) (S : Nat → Ec) (n : Nat) (z : Nat → Int) (v10 v11 v12 v13 : Value) (wx : World) : Prop :=
  ∃ (vb : Nat) (B C : Option Addr) (d f : Nat), v10 = .pointer (some ⟨vb, 0, none⟩) ∧ v11 = .slice B (xLen S n z) d ∧ v12 = .slice C (xFb S n z) f ∧ v13 = .int .i64 (xErr S n z) ∧ wr.heap.size ≤ vb ∧ XB wx vb (xS S n z) ∧
    Row wx wx.heap.size B (xLen S n z) (fun j => .int .u8 (xY S n z j)) ∧ Row wx wx.heap.size C (xFb S n z) (fun _ => .int .u8 (160 + (xAt z : Int))) ∧ Below wr.heap.size wr wx ∧ (∀ b, B = some b → wr.heap.size ≤ b.block ∨ ∃ a, A = some a ∧ a.block = b.block) ∧ Fresh wr.heap.size C
/-- the two sides behind k steps -/
def Side44 (w : World) (X g : Nat) (Z : Array Value) (S : Nat → Ec) (W : World) : Prop := EB W g true S ∧ XB W X S ∧ Blk W (X + 1) 41 Z ∧ Keep1 g w W

set_option maxRecDepth 100000 in
set_option maxHeartbeats 6400000 in
theorem steps44_ok (g : Nat) (S0 : Nat → Ec) (A : Option Addr) (m c : Nat) (PA : Nat → Option Addr) (pn pc : Nat → Nat) (z : Nat → Nat → Int) (w0 w : World) (hR : Rows2 w0 A m PA pn pc z) (hb0 : Below w0.heap.size w0 w) (hg : w0.heap.size ≤ g) (hall : ∀ k, k < m → pn k ≤ 100) (hmx : m ≤ 1000000) (hok : ∀ i, i < 16 → (S0 i).Ok) (h : EB w g true S0) :
    Calls Try.prog 17 #[.pointer (some ⟨g, 0, none⟩), .agg (rxArr S0), .slice A m c] w fun e w' => e = .returned (.tuple #[.agg (rxArr (xrun pn z S0 m)), .bool true]) ∧ EB w' g true (xrun pn z S0 m) ∧ Keep1 g w w' := by
  have hz' := zeroXp
  have HOK := Lib.hid (xrun_ok pn z S0 m hok hR.byte)
  have HR := Lib.hid hR
  have HB0 := Lib.hid hb0
  have HALL := Lib.hid hall
  have HG := Lib.hid hg
  have HE := Lib.hid h
  obtain ⟨L0, hL0⟩ : ∃ L0, L0 = rxArr S0 := ⟨_, rfl⟩
  obtain ⟨Z, hZ⟩ : ∃ Z, Z = rxArr (fun _ => Ec.zero) := ⟨_, rfl⟩
  have HL0 := Lib.hid hL0
  have HZZ := Lib.hid hZ
  have HZ0 : Hid (Z.size = 192) := Lib.hid (by rw [hZ, rxArr_size])
  obtain ⟨X, hX⟩ : ∃ X, X = w.heap.size := ⟨_, rfl⟩
  have HXW := Lib.hid hX
  rw [← hZ] at hz'
  rw [← hL0]
  clear hL0 hZ hok hR hb0 hall hg h
  go_enter Try.func17, Try.ntmps17
  go_upto_region 1 with (fail)
  refine wp_world (fun W => Side44 w X g Z S0 W) ⟨?_, by rw [hX]; unfold XB; rw [← HL0.out]; exact (Blk.new _ _ _).alloc _, by rw [hX]; exact blk_new_at _ _ _ _ (by simp), keep_of_below (((Below.refl _ w).alloc (Nat.le_refl _) _).alloc (by simp) _)⟩ ?_
  · exact (HE.out.alloc _).alloc _
  rw [← hX]
  rintro W1 s1
  have SD := Lib.hid s1
  have hgX : g < X := by rw [hX]; exact HE.out.lt
  clear s1 hX
  go_wp2
  go_loopw [8] (fun v8 wr => ∃ k : Nat, k ≤ m ∧ v8 = .int .i64 k ∧ Side44 w X g Z (xrun pn z S0 k) wr) (fun v8 _ => m - (intOf v8).toNat)
  case atStart => exact ⟨0, by omega, rfl, SD.out⟩
  case round =>
    obtain ⟨k, hk, rfl, hEB, hXB, hZB, hKR⟩ := hrel
    obtain ⟨S, hS⟩ : ∃ S, S = xrun pn z S0 k := ⟨_, rfl⟩
    rw [← hS] at hEB hXB
    have HS := Lib.hid hS
    have EBr := Lib.hid hEB
    have XBr := Lib.hid hXB
    have ZBr := Lib.hid hZB
    have KR := Lib.hid hKR
    obtain ⟨L, hL⟩ : ∃ L, L = rxArr S := ⟨_, rfl⟩
    have HLS := Lib.hid hL
    have HSZ : Hid ((Try.prog.info? 41).map (·.size) = some L.size) := Lib.hid (by rw [hL, rxArr_size]; exact sizeXp)
    have HS2 : Hid (Z.size = L.size) := Lib.hid (by rw [hL, HZ0.out, rxArr_size])
    have HO1 : Hid (L.all (·.oneCell') = true) := Lib.hid (by rw [hL]; exact rxp_one S)
    have XL := Lib.hid (show Blk wr X 41 L from by rw [hL]; exact hXB)
    clear hEB hXB hZB hKR hS hL SD
    by_cases hlt : k < m
    · obtain ⟨lb, lo, rfl, hlb, hcl⟩ := HR.out.at_ (by omega)
      have hwx : w0.heap.size ≤ w.heap.size := HB0.out.size
      have q1 : wr.cell? ⟨lb, lo + k, none⟩ = some (.slice (PA k) (pn k) (pc k)) := (World.cell?_of_block (KR.out.block lb (by omega) (by have := HG.out; simp; omega))).trans ((HB0.out.cell (p := ⟨lb, lo + k, none⟩) hlb).trans (hcl k hlt))
      have k0 : (0 : Int) ≤ (k : Int) := by omega
      have k1 : (k : Int) < (m : Int) := by omega
      have RW := Lib.hid (show Row wr wr.heap.size (PA k) (pn k) (fun j => .int .u8 (z k j)) from ((KR.out.rown ((HR.out.row k hlt).below HB0.out) hwx (fun a e h0 => by
        obtain ⟨b, off, e2, hb, _⟩ := HR.out.row k hlt (by omega)
        have hgo := HG.out
        rw [e] at e2; cases e2
        show b ≠ g; omega)).more (Nat.le_trans hwx KR.out.size)))
      have hnc := HR.out.cap k hlt
      have hn1 := HALL.out k hlt
      clear hcl
      by_cases hp0 : pn k = 0
      · have HXR := Lib.hid (xrun_zero (z := z) (S0 := S0) hp0)
        have hpz : ((pn k : Int) == 0) = true := by rw [hp0]; rfl
        have HNW := Lib.hid (fun W => ernew_ok W)
        rw [← HZZ.out] at HNW
        have HSZ0 : Hid ((Try.prog.info? 41).map (·.size) = some Z.size) := Lib.hid (by rw [HZ0.out]; exact sizeXp)
        have HO0 : Hid (Z.all (·.oneCell') = true) := Lib.hid (by rw [HZZ.out]; exact rxp_one _)
        go_wp2_with (first
          | (go_at_call 18; refine (HNW.out _).mono ?_; rintro e w2 ⟨rfl, hB2⟩; have B2 := Lib.hid hB2; have X2 := Lib.hid (XL.out.below hB2 XL.out.lt); have Z2 := Lib.hid (ZBr.out.below hB2 ZBr.out.lt); have E2 := Lib.hid (EBr.out.below hB2 EBr.out.lt); clear hB2)
          | (refine wpList_store_row rfl _ _ _ rfl X Z rfl rfl 41 L X2.out HSZ0.out HS2.out.symm HO0.out ?_)
          | (go_at_call 22; refine (ereset_ok g S _ (E2.out.rowFar (by omega) _)).mono ?_; rintro e w3 ⟨rfl, hE3, hK3⟩; have E3 := Lib.hid hE3; have K3 := Lib.hid hK3; clear hE3 hK3)
          | (go_at_call 15; refine (num44_ok _ _).mono ?_; rintro e w9 ⟨rfl, rfl⟩))
        have KA := Lib.hid ((KR.out.trans (keep_of_below (g := g) B2.out)).rowFar (b := X) (by have := HXW.out; omega) Z)
        go_round
        case rel => exact ⟨k + 1, by omega, by go_num, by rw [HXR.out]; exact ⟨E3.out, K3.out.blk (show Blk _ X 41 _ from by rw [← HZZ.out]; exact X2.out.setRow) (by omega), K3.out.blk (Z2.out.rowFar (by omega) _) (by omega), KA.out.trans K3.out⟩⟩
        case measure => simp [intOf]; omega
      · obtain ⟨n, hn⟩ : ∃ n, n = pn k := ⟨_, rfl⟩
        have HRX := Lib.hid (fun (W : World) (hr : Row W W.heap.size (PA k) (pn k) (fun j => .int .u8 (z k j))) => rexpand_any S (PA k) (pn k) (pc k) (z k) W (by rw [HS.out]; exact HOK.out k (by omega)) hnc (by unfold maxLen; omega) (HR.out.byte k hlt) hr)
        have HPX := Lib.hid (fun (A : Option Addr) (cp : Nat) (W : World) (h : EB W g true S) (hc : pn k ≤ cp) (hr : Row W W.heap.size A (pn k) (fun j => .int .u8 (z k j))) (hl : ∀ a, A = some a → a.block ≠ g) => expand_any g S A (pn k) cp (z k) W h (by rw [HS.out]; exact HOK.out k (by omega)) hc (by unfold maxLen; omega) (HR.out.byte k hlt) hr hl)
        have hnp : 0 < n := by omega
        have hn100 : n ≤ 100 := by omega
        have HP0 := Lib.hid hp0
        have HXR := Lib.hid (xrun_step (z := z) (S0 := S0) hp0)
        rw [← hn] at HRX HPX q1 RW hnc HXR
        rw [← HS.out] at HXR
        rw [← HLS.out] at HRX
        have q2 : (wr.alloc (.cells #[] 5)).cell? ⟨lb, lo + k, none⟩ = some (.slice (PA k) n (pc k)) := (World.cell?_alloc_lt _ _ _ (World.block_lt_of_cell? _ _ q1)).trans q1
        have hpz : ((n : Int) == 0) = false := by simp; omega
        obtain ⟨i0, hi, hz1, hz2, hz3⟩ := info_parts Try.infoByte
        have N100 := Lib.hid hn100
        have NP := Lib.hid hnp
        have CP := Lib.hid hnc
        clear hp0 hn hn1 hn100 hnc
        go_upto_region 9 with (first
          | (at_builtin; refine wpList_append_src _ rfl _ _ 24 rfl wr.heap.size 5 i0 (.int .u8 0) 1 Try.underlying24 hi hz1 hz2 hz3 rfl _ 0 [] rfl (owns_empty wr 5) wr.heap.size (PA k) n (pc k) (fun j => .int .u8 (z k j)) rfl (RW.out.alloc (Nat.le_refl _) _) (fun _ => rfl) (by have := N100.out; unfold maxLen; omega) (by have := N100.out; omega) (by simp) ?_; intro v' w4 hown4 hg4 _; obtain ⟨gw, cw, hv', hgw, hgw2, hcw⟩ := own_room hown4 (by have := NP.out; omega); subst hv'; have O4 := Lib.hid (own_row_map hown4); have B4 := Lib.hid (show Below wr.heap.size wr w4 from copy_below hg4); rw [Nat.zero_add] at *; have HGW := Lib.hid hgw; have HGW2 := Lib.hid hgw2; have HCW := Lib.hid hcw; clear hgw hgw2 hcw hown4 hg4))
        have E4 := Lib.hid (EBr.out.below B4.out EBr.out.lt)
        have X4 := Lib.hid (show Blk w4 X 41 L from XL.out.below B4.out XL.out.lt)
        have Z4 := Lib.hid (ZBr.out.below B4.out ZBr.out.lt)
        have K4 := Lib.hid (KR.out.trans (keep_of_below (g := g) B4.out))
        have R4 := Lib.hid (RW.out.next B4.out)
        have q4 : w4.cell? ⟨lb, lo + k, none⟩ = some (.slice (PA k) n (pc k)) := (B4.out.cell (World.block_lt_of_cell? _ _ q1)).trans q1
        go_cut [10, 11, 12, 13] from 41 to 52 (fun v10 v11 v12 v13 wx => Mid9 w4 (PA k) S n (z k) v10 v11 v12 v13 wx)
        case first =>
          obtain ⟨Ll, hLl⟩ : ∃ Ll : List Value, L = Ll.toArray := ⟨L.toList, by simp⟩
          have hiz : (Try.prog.info? 41).map (·.size) = some Ll.length := by have := HSZ.out; rw [hLl] at this; simpa using this
          have hu := Try.underlying41
          rw [hLl] at X4 HRX
          have HQ := Lib.hid (fun (W : World) (hW : Below w4.heap.size w4 W) => (hW.cell (World.block_lt_of_cell? _ _ q4)).trans q4)
          unfold RXOut at HRX
          clear q1 q2 q4 hLl
          refine wp_region_held_drew (S := fun w' => Below w4.heap.size w4 w') (by kernel_rfl) (Below.refl _ w4).drew (fun hHeld => ?_)
          refine' wpAnyH_take (i := 0) (oi := ⟨some 42, _, _, _, _, _⟩) (v := _) rfl (by kernel_rfl) (by kernel_rfl) (by kernel_rfl) (fun _ _ _ h => h) (yieldsIf_load_mid (by rfl) _ _ rfl _ _ rfl Ll _ (fun w h => (fun w h => (Blk.below (X4.out) h (X4.out.lt)).range Ll rfl) w h) hu rfl hiz) (by assumption) ?_
          try simp only [Act.put, List.setIfInBounds_toArray, List.set_cons_zero, List.set_cons_succ]
          refine wpAnyH_take (i := 1) (oi := ⟨some 43, _, _, _, _, _⟩) (v := .slice (some ⟨lb, lo, none⟩) m c) rfl (by kernel_rfl) (by kernel_rfl) (by kernel_rfl) (fun _ _ _ h => h) (Or.inl ⟨by rfl, fun W hW => (by rfl)⟩) (by assumption) ?_
          try simp only [Act.put, List.setIfInBounds_toArray, List.set_cons_zero, List.set_cons_succ]
          refine wpAnyH_take (i := 2) (oi := ⟨some 44, _, _, _, _, _⟩) (v := .int .i64 (k : Int)) rfl (by kernel_rfl) (by kernel_rfl) (by kernel_rfl) (fun _ _ _ h => h) (Or.inl ⟨by rfl, fun W hW => (by rfl)⟩) (by assumption) ?_
          try simp only [Act.put, List.setIfInBounds_toArray, List.set_cons_zero, List.set_cons_succ]
          refine wpAnyH_take (i := 3) (oi := ⟨some 45, _, _, _, _, _⟩) (v := .pointer (some ⟨lb, lo + k, none⟩)) rfl (by kernel_rfl) (by kernel_rfl) (by kernel_rfl) (fun _ _ _ h => h) (Or.inl ⟨by rfl, fun W hW => (by go_simp)⟩) (by assumption) ?_
          try simp only [Act.put, List.setIfInBounds_toArray, List.set_cons_zero, List.set_cons_succ]
          refine wpAnyH_take (i := 4) (oi := ⟨some 46, _, _, _, _, _⟩) (v := .slice (PA k) n (pc k)) rfl (by kernel_rfl) (by kernel_rfl) (by kernel_rfl) (fun _ _ _ h => h) (Or.inl ⟨by rfl, fun W hW => (by have s0 := HQ.out W hW; go_simp)⟩) (by assumption) ?_
          try simp only [Act.put, List.setIfInBounds_toArray, List.set_cons_zero, List.set_cons_succ]
          refine wpAnyH_ready (rs := [5, 11]) (by kernel_rfl) (by simp) ?_
          refine AllReadyH.cons (o := ⟨some 47, _, _, _, _, _⟩) rfl (fun K hK => ?_) (AllReadyH.cons (o := ⟨some 10, _, _, _, _, _⟩) rfl (fun K hK => ?_) AllReadyH.nil)
          · go_simp
            refine (HRX.out w4.drew R4.out.drew).mono ?_
            rintro e w6 ⟨B, d, C, f, rfl, _, _, hRB, hRC, hB', hFB, hFC⟩
            have hB : Below w4.heap.size w4 w6 := ⟨hB'.os, hB'.tape, hB'.output, hB'.size, hB'.block⟩
            have B6 := Lib.hid hB
            obtain ⟨Lp, hLp⟩ : ∃ Lp : List Value, Lp = (rxArr (xS S n (z k))).toList := ⟨_, rfl⟩
            have hLpa : rxArr (xS S n (z k)) = Lp.toArray := by rw [hLp]
            have hlp : Lp.length = 192 := by rw [hLp, Array.length_toList, rxArr_size]
            have hip : (Try.prog.info? 41).map (·.size) = some Lp.length := by rw [hlp]; exact sizeXp
            have HOp : Hid (∀ v ∈ Lp, v.oneCell' = true) := Lib.hid (by
              intro v hv
              have h1 := rxp_one (xS S n (z k))
              rw [Array.all_eq_true] at h1
              rw [hLp] at hv
              obtain ⟨i, hi, e⟩ := List.getElem_of_mem hv
              rw [← e]
              simpa using h1 i (by simpa using hi))
            have HLPA := Lib.hid hLpa
            have RB := Lib.hid hRB
            have RC := Lib.hid hRC
            rw [hLpa]
            clear hRB hRC hB hB' hLp hLpa
            dsimp only
            refine hK.out _ _ B6.out (fun hHeld => ?_)
            clear hK K
            refine wpAnyH_take (i := 6) (oi := ⟨some 41, _, _, _, _, _⟩) (v := .tuple #[.agg Lp.toArray, .slice B (xLen S n (z k)) d, .slice C (xFb S n (z k)) f, .int .i64 (xErr S n (z k))]) rfl (by kernel_rfl) (by kernel_rfl) (by kernel_rfl) (fun _ _ _ h => h) (Or.inl ⟨by rfl, fun W hW => (by rfl)⟩) (by assumption) ?_
            try simp only [Act.put, List.setIfInBounds_toArray, List.set_cons_zero, List.set_cons_succ]
            refine wpAnyH_take (i := 7) (oi := ⟨some 48, _, _, _, _, _⟩) (v := .agg Lp.toArray) rfl (by kernel_rfl) (by kernel_rfl) (by kernel_rfl) (fun _ _ _ h => h) (Or.inl ⟨by rfl, fun W hW => (by go_simp)⟩) (by assumption) ?_
            try simp only [Act.put, List.setIfInBounds_toArray, List.set_cons_zero, List.set_cons_succ]
            refine wpAnyH_take (i := 8) (oi := ⟨some 49, _, _, _, _, _⟩) (v := .slice B (xLen S n (z k)) d) rfl (by kernel_rfl) (by kernel_rfl) (by kernel_rfl) (fun _ _ _ h => h) (Or.inl ⟨by rfl, fun W hW => (by go_simp)⟩) (by assumption) ?_
            try simp only [Act.put, List.setIfInBounds_toArray, List.set_cons_zero, List.set_cons_succ]
            refine wpAnyH_take (i := 9) (oi := ⟨some 50, _, _, _, _, _⟩) (v := .slice C (xFb S n (z k)) f) rfl (by kernel_rfl) (by kernel_rfl) (by kernel_rfl) (fun _ _ _ h => h) (Or.inl ⟨by rfl, fun W hW => (by go_simp)⟩) (by assumption) ?_
            try simp only [Act.put, List.setIfInBounds_toArray, List.set_cons_zero, List.set_cons_succ]
            refine wpAnyH_take (i := 10) (oi := ⟨some 51, _, _, _, _, _⟩) (v := .int .i64 (xErr S n (z k))) rfl (by kernel_rfl) (by kernel_rfl) (by kernel_rfl) (fun _ _ _ h => h) (Or.inl ⟨by rfl, fun W hW => (by go_simp)⟩) (by assumption) ?_
            try simp only [Act.put, List.setIfInBounds_toArray, List.set_cons_zero, List.set_cons_succ]
            refine wpAnyH_ready (rs := [11]) (by kernel_rfl) (by simp) ?_
            refine AllReadyH.cons (o := ⟨some 10, _, _, _, _, _⟩) rfl (fun K hK => ?_) AllReadyH.nil
            go_simp
            refine hK.out _ _ (hHeld.alloc hHeld.size _) (fun hHeld => ?_)
            clear hK K
            have VB := Lib.hid (show Blk (w6.alloc (.cells Z 41)) w6.heap.size 41 Z from Blk.new _ _ _)
            refine wpAnyH_ready (rs := [12]) (by kernel_rfl) (by simp) ?_
            refine AllReadyH.cons (o := ⟨none, _, _, _, _, _⟩) rfl (fun K hK => ?_) AllReadyH.nil
            rw [if_pos (by rfl)]
            refine wp_store_mid _ _ _ rfl _ _ Lp.toArray rfl rfl (by have := VB.out.there 192 (by rw [HZZ.out, rxArr_size]; exact Nat.le_refl _); simpa [hlp] using this) (by simpa using hip) (all_oneCell_toArray HOp.out) ?_
            have KS : Keep1 (w6.heap.size) (w6.alloc (.cells Z 41)) ((w6.alloc (.cells Z 41)).setCells (w6.heap.size) 0 Lp) := grownBy_setCells (w6.heap.size) Lp 0 (w6.alloc (.cells Z 41))
            have b7 : Below w6.heap.size w6 ((w6.alloc (.cells Z 41)).setCells w6.heap.size 0 Lp) := below_keep ((Below.refl _ w6).alloc (Nat.le_refl _) _) KS (Nat.le_refl _) (by simp)
            refine hK.out _ _ (B6.out.trans (b7.mono B6.out.size)) (fun hHeld => ?_)
            clear hK K
            simp only [Act.put]
            refine wpAnyH_take (i := 13) (oi := ⟨some 11, _, _, _, _, _⟩) (v := .slice B (xLen S n (z k)) d) rfl (by kernel_rfl) (by kernel_rfl) (by kernel_rfl) (fun _ _ _ h => h) (Or.inl ⟨by rfl, fun W hW => (by rfl)⟩) (by assumption) ?_
            try simp only [Act.put, List.setIfInBounds_toArray, List.set_cons_zero, List.set_cons_succ]
            refine wpAnyH_take (i := 14) (oi := ⟨some 12, _, _, _, _, _⟩) (v := .slice C (xFb S n (z k)) f) rfl (by kernel_rfl) (by kernel_rfl) (by kernel_rfl) (fun _ _ _ h => h) (Or.inl ⟨by rfl, fun W hW => (by rfl)⟩) (by assumption) ?_
            try simp only [Act.put, List.setIfInBounds_toArray, List.set_cons_zero, List.set_cons_succ]
            refine wpAnyH_take (i := 15) (oi := ⟨some 13, _, _, _, _, _⟩) (v := .int .i64 (xErr S n (z k))) rfl (by kernel_rfl) (by kernel_rfl) (by kernel_rfl) (fun _ _ _ h => h) (Or.inl ⟨by rfl, fun W hW => (by rfl)⟩) (by assumption) ?_
            try simp only [Act.put, List.setIfInBounds_toArray, List.set_cons_zero, List.set_cons_succ]
            refine wpAnyH_done (by kernel_rfl) ?_ _
            go_wp2
            go_meet
            exact ⟨w6.heap.size, B, C, d, f, rfl, rfl, rfl, rfl, B6.out.size, by unfold XB; rw [HLPA.out]; exact Blk.setWhole VB.out Lp (by rw [HZZ.out, rxArr_size, hlp]), RB.out.next b7, RC.out.next b7, B6.out.trans (b7.mono B6.out.size), hFB, hFC⟩
          · go_simp
            refine hK.out _ _ ((Below.refl w4.heap.size w4).alloc (Nat.le_refl _) _).drew (fun hHeld => ?_)
            clear hK K
            refine wpAnyH_ready (rs := [5]) (by kernel_rfl) (by simp) ?_
            refine AllReadyH.cons (o := ⟨some 47, _, _, _, _, _⟩) rfl (fun K hK => ?_) AllReadyH.nil
            go_simp
            refine (HRX.out _ (row_new R4.out (.cells Z 41)).drew).mono ?_
            rintro e w6 ⟨B, d, C, f, rfl, _, _, hRB, hRC, hB', hFB, hFC⟩
            have hB : Below (w4.alloc (.cells Z 41)).heap.size (w4.alloc (.cells Z 41)) w6 := ⟨hB'.os, hB'.tape, hB'.output, hB'.size, hB'.block⟩
            have B5 := Lib.hid hB
            have B6 := Lib.hid (((Below.refl w4.heap.size w4).alloc (Nat.le_refl _) _).trans (hB.mono (by simp)))
            obtain ⟨Lp, hLp⟩ : ∃ Lp : List Value, Lp = (rxArr (xS S n (z k))).toList := ⟨_, rfl⟩
            have hLpa : rxArr (xS S n (z k)) = Lp.toArray := by rw [hLp]
            have hlp : Lp.length = 192 := by rw [hLp, Array.length_toList, rxArr_size]
            have hip : (Try.prog.info? 41).map (·.size) = some Lp.length := by rw [hlp]; exact sizeXp
            have HOp : Hid (∀ v ∈ Lp, v.oneCell' = true) := Lib.hid (by
              intro v hv
              have h1 := rxp_one (xS S n (z k))
              rw [Array.all_eq_true] at h1
              rw [hLp] at hv
              obtain ⟨i, hi, e⟩ := List.getElem_of_mem hv
              rw [← e]
              simpa using h1 i (by simpa using hi))
            have HLPA := Lib.hid hLpa
            have RB := Lib.hid hRB
            have RC := Lib.hid hRC
            rw [hLpa]
            clear hRB hRC hB hB' hLp hLpa
            dsimp only
            refine hK.out _ _ B6.out (fun hHeld => ?_)
            clear hK K
            refine wpAnyH_take (i := 6) (oi := ⟨some 41, _, _, _, _, _⟩) (v := .tuple #[.agg Lp.toArray, .slice B (xLen S n (z k)) d, .slice C (xFb S n (z k)) f, .int .i64 (xErr S n (z k))]) rfl (by kernel_rfl) (by kernel_rfl) (by kernel_rfl) (fun _ _ _ h => h) (Or.inl ⟨by rfl, fun W hW => (by rfl)⟩) (by assumption) ?_
            try simp only [Act.put, List.setIfInBounds_toArray, List.set_cons_zero, List.set_cons_succ]
            refine wpAnyH_take (i := 7) (oi := ⟨some 48, _, _, _, _, _⟩) (v := .agg Lp.toArray) rfl (by kernel_rfl) (by kernel_rfl) (by kernel_rfl) (fun _ _ _ h => h) (Or.inl ⟨by rfl, fun W hW => (by go_simp)⟩) (by assumption) ?_
            try simp only [Act.put, List.setIfInBounds_toArray, List.set_cons_zero, List.set_cons_succ]
            refine wpAnyH_take (i := 8) (oi := ⟨some 49, _, _, _, _, _⟩) (v := .slice B (xLen S n (z k)) d) rfl (by kernel_rfl) (by kernel_rfl) (by kernel_rfl) (fun _ _ _ h => h) (Or.inl ⟨by rfl, fun W hW => (by go_simp)⟩) (by assumption) ?_
            try simp only [Act.put, List.setIfInBounds_toArray, List.set_cons_zero, List.set_cons_succ]
            refine wpAnyH_take (i := 9) (oi := ⟨some 50, _, _, _, _, _⟩) (v := .slice C (xFb S n (z k)) f) rfl (by kernel_rfl) (by kernel_rfl) (by kernel_rfl) (fun _ _ _ h => h) (Or.inl ⟨by rfl, fun W hW => (by go_simp)⟩) (by assumption) ?_
            try simp only [Act.put, List.setIfInBounds_toArray, List.set_cons_zero, List.set_cons_succ]
            refine wpAnyH_take (i := 10) (oi := ⟨some 51, _, _, _, _, _⟩) (v := .int .i64 (xErr S n (z k))) rfl (by kernel_rfl) (by kernel_rfl) (by kernel_rfl) (fun _ _ _ h => h) (Or.inl ⟨by rfl, fun W hW => (by go_simp)⟩) (by assumption) ?_
            try simp only [Act.put, List.setIfInBounds_toArray, List.set_cons_zero, List.set_cons_succ]
            have VB := Lib.hid (show Blk w6 w4.heap.size 41 Z from (Blk.new w4 41 Z).below B5.out (by simp))
            refine wpAnyH_ready (rs := [12]) (by kernel_rfl) (by simp) ?_
            refine AllReadyH.cons (o := ⟨none, _, _, _, _, _⟩) rfl (fun K hK => ?_) AllReadyH.nil
            rw [if_pos (by rfl)]
            refine wp_store_mid _ _ _ rfl _ _ Lp.toArray rfl rfl (by have := VB.out.there 192 (by rw [HZZ.out, rxArr_size]; exact Nat.le_refl _); simpa [hlp] using this) (by simpa using hip) (all_oneCell_toArray HOp.out) ?_
            have KS : Keep1 (w4.heap.size) (w6) ((w6).setCells (w4.heap.size) 0 Lp) := grownBy_setCells (w4.heap.size) Lp 0 (w6)
            have b8 : Below w4.heap.size w4 (w6.setCells w4.heap.size 0 Lp) := below_keep B6.out KS (Nat.le_refl _) B6.out.size
            refine hK.out _ _ b8 (fun hHeld => ?_)
            clear hK K
            simp only [Act.put]
            refine wpAnyH_take (i := 13) (oi := ⟨some 11, _, _, _, _, _⟩) (v := .slice B (xLen S n (z k)) d) rfl (by kernel_rfl) (by kernel_rfl) (by kernel_rfl) (fun _ _ _ h => h) (Or.inl ⟨by rfl, fun W hW => (by rfl)⟩) (by assumption) ?_
            try simp only [Act.put, List.setIfInBounds_toArray, List.set_cons_zero, List.set_cons_succ]
            refine wpAnyH_take (i := 14) (oi := ⟨some 12, _, _, _, _, _⟩) (v := .slice C (xFb S n (z k)) f) rfl (by kernel_rfl) (by kernel_rfl) (by kernel_rfl) (fun _ _ _ h => h) (Or.inl ⟨by rfl, fun W hW => (by rfl)⟩) (by assumption) ?_
            try simp only [Act.put, List.setIfInBounds_toArray, List.set_cons_zero, List.set_cons_succ]
            refine wpAnyH_take (i := 15) (oi := ⟨some 13, _, _, _, _, _⟩) (v := .int .i64 (xErr S n (z k))) rfl (by kernel_rfl) (by kernel_rfl) (by kernel_rfl) (fun _ _ _ h => h) (Or.inl ⟨by rfl, fun W hW => (by rfl)⟩) (by assumption) ?_
            try simp only [Act.put, List.setIfInBounds_toArray, List.set_cons_zero, List.set_cons_succ]
            refine wpAnyH_done (by kernel_rfl) ?_ _
            go_wp2
            go_meet
            exact ⟨w4.heap.size, B, C, d, f, rfl, rfl, rfl, rfl, Nat.le_refl _, by unfold XB; rw [HLPA.out]; exact Blk.setWhole VB.out Lp (by rw [HZZ.out, rxArr_size, hlp]), (KS.rown RB.out (Nat.le_refl _) (row_ne RB.out VB.out (by rw [HZZ.out]; exact rx_no_u8 _ _))).more KS.size, (KS.rown RC.out (Nat.le_refl _) (row_ne RC.out VB.out (by rw [HZZ.out]; exact rx_no_u8 _ (fun _ => _)))).more KS.size, b8, fun b e => (hFB b e).imp (fun h => by simp at h; omega) id, fun b e => by have := hFC b e; simp at this; omega⟩
        case rest =>
          obtain ⟨vb, B, C, d, f, rfl, rfl, rfl, rfl, hvb, hVB, hRB, hRC, hBx, hFB, hFC⟩ := hcut
          have gl : g < w4.heap.size := E4.out.lt
          have xl : X < w4.heap.size := X4.out.lt
          have HBG := Lib.hid (fun a (e : B = some a) => (show a.block ≠ g from by
            rcases hFB a e with h | ⟨a', e', h⟩
            · omega
            · obtain ⟨b, off, e2, hb, _⟩ := HR.out.row k hlt (by have := HP0.out; omega)
              have := HG.out
              rw [e'] at e2; cases e2
              simp only at h
              omega))
          have HCG := Lib.hid (fun a (e : C = some a) => (show a.block ≠ g from by have := hFC a e; omega))
          have HPG := Lib.hid (fun a (e : PA k = some a) => (show a.block ≠ g from by
            obtain ⟨b, off, e2, hb, _⟩ := HR.out.row k hlt (by have := HP0.out; omega)
            have := HG.out
            rw [e] at e2; cases e2
            show b ≠ g
            omega))
          obtain ⟨Lx, hLx⟩ : ∃ Lx, Lx = rxArr (xS S n (z k)) := ⟨_, rfl⟩
          have HLX := Lib.hid hLx
          have HSX : Hid ((Try.prog.info? 41).map (·.size) = some Lx.size) := Lib.hid (by rw [hLx, rxArr_size]; exact sizeXp)
          have HXO : Hid (Lx.all (·.oneCell') = true) := Lib.hid (by rw [hLx]; exact rxp_one _)
          have HXL : Hid (L.size = Lx.size) := Lib.hid (by rw [HLS.out, hLx, rxArr_size, rxArr_size])
          have VX := Lib.hid (show Blk wc vb 41 Lx from by rw [hLx]; exact hVB)
          have XX := Lib.hid (show Blk wc X 41 L from X4.out.below hBx X4.out.lt)
          have EX := Lib.hid (E4.out.below hBx E4.out.lt)
          have ZX := Lib.hid (Z4.out.below hBx Z4.out.lt)
          have KX := Lib.hid (K4.out.trans (keep_of_below (g := g) hBx))
          have PX := Lib.hid (R4.out.next hBx)
          have OX := Lib.hid (O4.out.next hBx)
          have RBX := Lib.hid hRB
          have RCX := Lib.hid hRC
          have qx : wc.cell? ⟨lb, lo + k, none⟩ = some (.slice (PA k) n (pc k)) := (hBx.cell (World.block_lt_of_cell? _ _ q4)).trans q4
          have lbX : lb < X := by have := HXW.out; omega
          have nu8 := fun f : Nat → Int => rx_no_u8 S f
          rw [← HLS.out] at nu8
          have NU := Lib.hid nu8
          clear hVB hRB hRC hBx hFB hFC hLx q1 q2 q4 nu8
          go_upto_region 11 with (first
            | (refine wpList_load_row rfl _ _ rfl vb rfl 41 Lx (0, 0) _ VX.out Try.underlying41 rfl HSX.out ?_)
            | (refine wpList_store_row rfl _ _ _ rfl X Lx rfl rfl 41 L XX.out HSX.out HXL.out HXO.out ?_))
          have KSX : Keep1 X wc (wc.setRow X Lx) := keep_row (World.grownBy_refl wc _) Lx
          refine wp_world (fun W => (EB W g true S ∧ XB W X (xS S n (z k)) ∧ Blk W (X + 1) 41 Z ∧ Keep1 g w W) ∧ (Row W W.heap.size (PA k) n (fun j => .int .u8 (z k j)) ∧ Row W W.heap.size (some ⟨gw, 0, none⟩) n (fun j => .int .u8 (z k j)) ∧ Row W W.heap.size B (xLen S n (z k)) (fun j => .int .u8 (xY S n (z k) j)) ∧ Row W W.heap.size C (xFb S n (z k)) (fun _ => .int .u8 (160 + (xAt (z k) : Int)))) ∧ W.cell? ⟨lb, lo + k, none⟩ = some (.slice (PA k) n (pc k)))
            ⟨⟨EX.out.rowFar (by omega) _, by unfold XB; rw [← HLX.out]; exact XX.out.setRow, ZX.out.rowFar (by omega) _, KX.out.rowFar (by have := HXW.out; omega) _⟩,
             ⟨(KSX.rown PX.out (Nat.le_refl _) (row_ne PX.out XX.out (NU.out _))).more KSX.size, (KSX.rown OX.out (Nat.le_refl _) (row_ne OX.out XX.out (NU.out _))).more KSX.size, (KSX.rown RBX.out (Nat.le_refl _) (row_ne RBX.out XX.out (NU.out _))).more KSX.size, (KSX.rown RCX.out (Nat.le_refl _) (row_ne RCX.out XX.out (NU.out (fun _ => _)))).more KSX.size⟩,
             (World.cell?_of_block (KSX.block lb (World.block_lt_of_cell? _ _ qx) (by simp; omega))).trans qx⟩ ?_
          rintro w5 ⟨⟨e5, x5, z5, k5⟩, ⟨p5, o5, b5, c5⟩, q5⟩
          have HX5 := Lib.hid (HPX.out (some ⟨gw, 0, none⟩) cw w5 e5 HCW.out o5 (fun a e => by cases e; have := HGW.out; have := EBr.out.lt; show gw ≠ g; omega))
          unfold XOut at HX5
          have XB5 := Lib.hid x5
          have ZB5 := Lib.hid z5
          have KB5 := Lib.hid k5
          have P5 := Lib.hid p5
          have O5 := Lib.hid o5
          have B5 := Lib.hid b5
          have C5 := Lib.hid c5
          have q5l := World.block_lt_of_cell? _ _ q5
          have LG : lb ≠ g := by have := HG.out; omega
          clear e5 x5 z5 k5 p5 o5 b5 c5 VX XX EX ZX KX PX OX RBX RCX qx KSX HPX HRX
          go_upto_region 12 with (go_at_call 14; refine HX5.out.mono ?_; rintro e w6 ⟨B2, d2, C2, f2, rfl, _, _, _, _, hRB2, hRC2, hEB6, hK6⟩; have RB2 := Lib.hid hRB2; have RC2 := Lib.hid hRC2; have EB6 := Lib.hid hEB6; have K6 := Lib.hid hK6; clear hRB2 hRC2 hEB6 hK6)
          have P6 := Lib.hid ((K6.out.row P5.out (Nat.le_refl _) (fun a e => HPG.out a e)).more K6.out.size)
          have O6 := Lib.hid ((K6.out.row O5.out (Nat.le_refl _) (fun a e => by cases e; have := HGW.out; have := EBr.out.lt; show gw ≠ g; omega)).more K6.out.size)
          have B6 := Lib.hid ((K6.out.row B5.out (Nat.le_refl _) (fun a e => HBG.out a e)).more K6.out.size)
          have C6 := Lib.hid ((K6.out.row C5.out (Nat.le_refl _) (fun a e => HCG.out a e)).more K6.out.size)
          have X6 := Lib.hid (show XB w6 X (xS S n (z k)) from K6.out.blk XB5.out (by omega))
          have Z6 := Lib.hid (K6.out.blk ZB5.out (by omega))
          have KK6 := Lib.hid (KB5.out.trans K6.out)
          have q6 : w6.cell? ⟨lb, lo + k, none⟩ = some (.slice (PA k) n (pc k)) := (World.cell?_of_block (K6.out.block lb q5l (by simp; exact LG))).trans q5
          have y6 : ∀ e : ExtW w6, e.v.cell? ⟨lb, lo + k, none⟩ = some (.slice (PA k) n (pc k)) := fun e => e.cell q6 (World.block_lt_of_cell? _ _ q6)
          obtain ⟨SY, hSY⟩ : ∃ SY, SY = bytesOf (xLen S n (z k)) (xY S n (z k)) := ⟨_, rfl⟩
          obtain ⟨SF, hSF⟩ : ∃ SF, SF = bytesOf (xFb S n (z k)) (fun _ => 160 + (xAt (z k) : Int)) := ⟨_, rfl⟩
          obtain ⟨SO, hSO⟩ : ∃ SO, SO = bytesOf n (z k) := ⟨_, rfl⟩
          have rs := fun (W : World) (A : Option Addr) (m c : Nat) (y : Nat → Int) (h : Row W W.heap.size A m (fun j => .int .u8 (y j))) => row_string 24 9 5 Try.underlying24 Try.underlying5 Try.underlying9 h c
          have s1 : ∀ e : ExtW w6, (convert 24 9 (.slice B (xLen S n (z k)) d)).run Try.prog e.v = .ok (.string SY) e.v := fun e => by rw [hSY]; exact rs _ _ _ _ _ (B6.out.next e.h)
          have s2 : ∀ e : ExtW w6, (convert 24 9 (.slice B2 (xLen S n (z k)) d2)).run Try.prog e.v = .ok (.string SY) e.v := fun e => by rw [hSY]; exact rs _ _ _ _ _ (RB2.out.next e.h)
          have s3 : ∀ e : ExtW w6, (convert 24 9 (.slice C (xFb S n (z k)) f)).run Try.prog e.v = .ok (.string SF) e.v := fun e => by rw [hSF]; exact rs _ _ _ _ _ (C6.out.next e.h)
          have s4 : ∀ e : ExtW w6, (convert 24 9 (.slice C2 (xFb S n (z k)) f2)).run Try.prog e.v = .ok (.string SF) e.v := fun e => by rw [hSF]; exact rs _ _ _ _ _ (RC2.out.next e.h)
          have s5 : ∀ e : ExtW w6, (convert 24 9 (.slice (some ⟨gw, 0, none⟩) n cw)).run Try.prog e.v = .ok (.string SO) e.v := fun e => by rw [hSO]; exact rs _ _ _ _ _ (O6.out.next e.h)
          have s6 : ∀ e : ExtW w6, (convert 24 9 (.slice (PA k) n (pc k))).run Try.prog e.v = .ok (.string SO) e.v := fun e => by rw [hSO]; exact rs _ _ _ _ _ (P6.out.next e.h)
          clear rs hSY hSF hSO
          refine wp_region_ext (by kernel_rfl) (by kernel_rfl) ?_
          repeat (go_big_quiet_step (exact Calls.ext_of ((num44_ok _ _).mono fun e w' h => ⟨h.1, by rw [← h.2]; exact Below.refl _ _⟩)))
          refine wpQuiet_nil ?_
          rintro _ ⟨ex, rfl⟩
          go_wp2
          go_round
          case rel => exact ⟨k + 1, by omega, by go_num, by rw [HXR.out]; exact ⟨EB6.out.below ex.h EB6.out.lt, Blk.below X6.out ex.h X6.out.lt, Z6.out.below ex.h Z6.out.lt, KK6.out.trans (keep_of_below (g := g) ex.h)⟩⟩
          case measure => simp [intOf]; omega
    · obtain rfl : k = m := by omega
      go_wp2_with (first
        | (refine wpList_load_row rfl _ _ rfl X rfl 41 L (0, 0) _ XL.out Try.underlying41 rfl HSZ.out ?_)
        | (refine wpList_store_row rfl _ _ _ rfl (X + 1) L rfl rfl 41 Z ZBr.out HSZ.out HS2.out HO1.out ?_))
      refine bodyPost_ret (v := .tuple #[.agg L, .bool true]) (results_cell_one (g := X + 1) (t := 41) (fr := (0, 0)) Try.results17 _ _ L _ rfl (Blk.setRow (ZBr.out)) Try.underlying41 rfl HSZ.out _ rfl) rfl ⟨by rw [HLS.out, HS.out], ?_, ?_⟩
      · rw [← HS.out]; exact (EBr.out).rowFar (by omega) _
      · exact (KR.out).rowFar (by have := HXW.out; omega) _
end Go.Proofs.Ytofaghpflmeblaa
