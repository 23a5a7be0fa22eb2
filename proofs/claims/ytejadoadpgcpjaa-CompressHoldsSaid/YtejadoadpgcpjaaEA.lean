/- field.Writer: what its memory says; (*buffer).add. -/
import Derived.Test.YtejadoadpgcpjaaU
import Derived.StillTailTactics
namespace Go.Proofs.Ytejadoadpgcpjaa
open Go.RowKit

/-- the first m bytes of the packed bits bt 0, .., bt (n - 1) -/
def pkList (bt : Nat → Bool) (n m : Nat) : List Value := (List.range m).map (fun j => .int .u8 ((HM.pk bt n j : Nat) : Int))
theorem pkList_len (bt : Nat → Bool) (n m : Nat) : (pkList bt n m).length = m := by simp [pkList]
theorem pkList_at (bt : Nat → Bool) (n m j : Nat) (h : j < m) : (pkList bt n m)[j]? = some (.int .u8 ((HM.pk bt n j : Nat) : Int)) := by simp [pkList, h]
theorem pkList_grow (bt : Nat → Bool) (n m : Nat) (h : n ≤ 8 * m) : pkList bt n (m + 1) = pkList bt n m ++ [.int .u8 0] := by
  unfold pkList
  rw [List.range_succ, List.map_append, List.map_singleton, HM.pk_far bt n m h]; rfl
theorem pkList_set (bt : Nat → Bool) (n m : Nat) : (pkList bt n m).set (n / 8) (.int .u8 ((HM.pk bt (n + 1) (n / 8) : Nat) : Int)) = pkList bt (n + 1) m := by
  refine List.ext_getElem? fun j => ?_
  rw [List.getElem?_set]
  by_cases hj : j < m
  · rw [pkList_at _ _ _ _ hj, pkList_at _ (n + 1) _ _ hj, pkList_len]
    split
    · rename_i e; subst e; rw [if_pos hj]
    · rename_i e; rw [HM.pk_other bt n j e]
  · rw [List.getElem?_eq_none (by rw [pkList_len]; omega), List.getElem?_eq_none (by rw [pkList_len]; omega), pkList_len]
    split
    · rw [if_neg (by omega)]
    · rfl
theorem pkList_congr {bt bs : Nat → Bool} {n m : Nat} (h : ∀ j, j < n → bt j = bs j) : pkList bt n m = pkList bs n m := by
  unfold pkList
  exact List.map_congr_left fun j _ => by rw [HM.pk_congr n j h]

/-- block g is a Writer that holds n bits -/
def WS (w : World) (g : Nat) (bt : Nat → Bool) (n : Nat) : Prop :=
  ∃ v, Blk w g 114 #[v, .int .i64 (n : Int)] ∧ w.ownsRow (g + 1) 5 1 v ((n + 7) / 8) (pkList bt n ((n + 7) / 8))
/-- all blocks but g and those of bytes lie as they lay -/
def KeepsNon (g : Nat) (W W' : World) : Prop := ∀ k o, W.heap[k]? = some o → k ≠ g → (∀ cs f, o ≠ .cells cs 5 f) → W'.heap[k]? = some o
theorem KeepsNon.refl (g : Nat) (W : World) : KeepsNon g W W := fun _ _ h _ _ => h
theorem KeepsNon.trans {g : Nat} {A B C : World} (h : KeepsNon g A B) (k : KeepsNon g B C) : KeepsNon g A C := fun b o h1 h2 h3 => k b o (h b o h1 h2 h3) h2 h3
theorem KeepsNon.blk {g : Nat} {A B : World} (h : KeepsNon g A B) {b : Nat} {t : TypeId} {cs : Array Value} (hB : Blk A b t cs) (h1 : b ≠ g) (h2 : t ≠ 5) : Blk B b t cs :=
  h b _ hB h1 (fun cs f e => h2 (by cases e; rfl))

def AddPost (g : Nat) (bt : Nat → Bool) (n : Nat) (w : World) (e : Ending) (w' : World) : Prop :=
  e = .returned (.tuple #[]) ∧ WS w' g bt (n + 1) ∧ Below g w w' ∧ KeepsNon g w w'
theorem shl_or (bt : Nat → Bool) (n : Nat) (x : Bool) (hx : bt n = x) (y : Int) (hy : y = if x then 1 else 0) :
    bits BinOp.or .u8 ((HM.pk bt n (n / 8) : Nat) : Int) (IntKind.u8.wrap (y * 2 ^ (7 - n % 8))) = ((HM.pk bt (n + 1) (n / 8) : Nat) : Int) := by
  have hl := HM.pk_lt bt n (n / 8)
  subst hy
  cases x with
  | false =>
    have e : IntKind.u8.wrap ((if false = true then 1 else 0) * 2 ^ (7 - n % 8)) = ((0 : Nat) : Int) := by simp [IntKind.wrap_u8]
    rw [e, u8_or_nat _ _ hl (by decide), HM.pk_skip bt n _ hx, Nat.or_zero]
  | true =>
    have h128 : ∀ r, r < 8 → IntKind.u8.wrap ((if true = true then 1 else 0) * 2 ^ (7 - r)) = (128 / 2 ^ r : Int) := by decide
    rw [h128 (n % 8) (by omega)]
    exact or_pk bt n hx
theorem grownBy_setCellAt (W : World) (b i : Nat) (v : Value) : W.grownBy (W.setCell ⟨b, i, none⟩ v) (some b) :=
  ⟨rfl, rfl, rfl, (KeepsWalks.setCell W _ v).size, fun k _ hk => Below.heap_setCell _ _ _ k (fun e => hk (by rw [e]))⟩
theorem KeepsNon.set_row {g r : Nat} {A B : World} (h : KeepsNon g A B) {i : Nat} {u : Value} {cs : Array Value} {f : Nat × Nat} (hr : B.heap[r]? = some (.cells cs 5 f)) : KeepsNon g A (B.setCell ⟨r, i, none⟩ u) := fun k o h1 h2 h3 => by
  have h4 := h k o h1 h2 h3
  by_cases e : k = r
  · subst e; rw [hr] at h4; cases h4; exact absurd rfl (h3 _ _)
  · exact (Below.heap_setCell B _ _ k e).trans h4
theorem KeepsNon.set_g {g : Nat} {A B : World} (h : KeepsNon g A B) {i : Nat} {u : Value} : KeepsNon g A (B.setCell ⟨g, i, none⟩ u) := fun k o h1 h2 h3 =>
  (Below.heap_setCell B _ _ k h2).trans (h k o h1 h2 h3)
theorem own_heap {w : World} {base e n : Nat} {r cap : Nat} {xs : List Value} (h : w.ownsRow base e 1 (.slice (some ⟨r, 0, none⟩) n cap) n xs) : ∃ cs, w.heap[r]? = some (.cells cs e (0, 0)) := by
  rcases h.2 with ⟨h0, _⟩ | ⟨g, c, cur, hv, _, hh, _⟩
  · cases h0
  · cases hv; exact ⟨cur, hh⟩

def AddIn (g r : Nat) (bt : Nat → Bool) (n cap : Nat) (w : World) : Prop :=
  Blk w g 114 #[.slice (some ⟨r, 0, none⟩) (n / 8 + 1) cap, .int .i64 (n : Int)] ∧ w.ownsRow (g + 1) 5 1 (.slice (some ⟨r, 0, none⟩) (n / 8 + 1) cap) (n / 8 + 1) (pkList bt n (n / 8 + 1))
theorem AddIn.mk' {g r n cap : Nat} {bt : Nat → Bool} {w : World} (h1 : Blk w g 114 #[.slice (some ⟨r, 0, none⟩) (n / 8 + 1) cap, .int .i64 (n : Int)]) (h2 : w.ownsRow (g + 1) 5 1 (.slice (some ⟨r, 0, none⟩) (n / 8 + 1) cap) (n / 8 + 1) (pkList bt n (n / 8 + 1))) : AddIn g r bt n cap w := ⟨h1, h2⟩
/-- the world behind add -/
theorem add_end {g r n cap : Nat} {bt : Nat → Bool} {w : World} (h : AddIn g r bt n cap w) (w0 : World) (hb : Below g w0 w) (hk : KeepsNon g w0 w) :
    WS ((w.setCell ⟨r, n / 8, none⟩ (.int .u8 ((HM.pk bt (n + 1) (n / 8) : Nat) : Int))).setCell ⟨g, 1, none⟩ (.int .i64 ((n : Int) + 1))) g bt (n + 1) ∧
    Below g w0 ((w.setCell ⟨r, n / 8, none⟩ (.int .u8 ((HM.pk bt (n + 1) (n / 8) : Nat) : Int))).setCell ⟨g, 1, none⟩ (.int .i64 ((n : Int) + 1))) ∧
    KeepsNon g w0 ((w.setCell ⟨r, n / 8, none⟩ (.int .u8 ((HM.pk bt (n + 1) (n / 8) : Nat) : Int))).setCell ⟨g, 1, none⟩ (.int .i64 ((n : Int) + 1))) := by
  obtain ⟨hB, hown⟩ := h
  have hr : g + 1 ≤ r := (hown.lt r (by simp [Value.ownBlock])).1
  obtain ⟨cs, hcs⟩ := own_heap hown
  have hne : g ≠ r := by omega
  refine ⟨⟨.slice (some ⟨r, 0, none⟩) (n / 8 + 1) cap, ?_, ?_⟩, ?_, ?_⟩
  · have := (hB.far (p := ⟨r, n / 8, none⟩) hne (.int .u8 ((HM.pk bt (n + 1) (n / 8) : Nat) : Int))).set_ 1 (.int .i64 ((n : Int) + 1))
    exact this
  · rw [show (n + 1 + 7) / 8 = n / 8 + 1 by omega]
    have h1 := (hown.stored (n / 8) (.int .u8 ((HM.pk bt (n + 1) (n / 8) : Nat) : Int))).1
    rw [pkList_set] at h1
    exact h1.kept (grownBy_setCellAt _ g 1 _) (.inr (by simp [Value.ownBlock]; omega))
  · exact (hb.setCell (p := ⟨r, n / 8, none⟩) (by simp; omega) _).setCell (p := ⟨g, 1, none⟩) (Nat.le_refl _) _
  · exact (hk.set_row hcs).set_g

set_option maxRecDepth 100000 in
set_option maxHeartbeats 1600000 in
theorem add_ok (g : Nat) (bt : Nat → Bool) (n : Nat) (x : Bool) (y : Int) (hy : y = if x then 1 else 0) (hx : bt n = x) (hn : n ≤ 1000000) (w : World) (h : WS w g bt n) :
    Calls Try.prog 105 #[.pointer (some ⟨g, 0, none⟩), .int .u8 y] w (AddPost g bt n w) := by
  obtain ⟨v, hB, hown⟩ := h
  obtain ⟨i0, hi0, hz0, hz1, hz2⟩ := info_parts Try.infoByte
  have c0 : w.cell? ⟨g, 0, none⟩ = some v := hB.cell 0
  have c1 : w.cell? ⟨g, 1, none⟩ = some (.int .i64 (n : Int)) := hB.cell 1
  have f0 := hB.frozen 0
  have f1 := hB.frozen 1
  have HOr := Lib.hid (shl_or bt n x hx y hy)
  have hnn : (n : Int) ≤ 1000000 := by omega
  clear hx hy
  by_cases h8 : n % 8 = 0
  · have h8i : ((n : Int) % 8 == 0) = true := by simp; omega
    rw [show (n + 7) / 8 = n / 8 by omega] at hown
    have hbg : ∀ W', (w.alloc (.cells #[.int .u8 0] 5)).grownBy W' v.ownBlock → Blk W' g 114 #[v, .int .i64 (n : Int)] := fun W' hg =>
      (hB.alloc _).grown hg (fun e => by have := (hown.lt g e.symm).1; omega)
    have HBG := Lib.hid hbg
    obtain ⟨vl, vA, vc, rfl⟩ : ∃ vl vA vc, v = .slice vA vl vc := by
      obtain ⟨A, c, hv, _⟩ := own_any (f := fun j => .int .u8 ((HM.pk bt n j : Nat) : Int)) hown (fun j hj => pkList_at _ _ _ _ hj)
      exact ⟨_, A, c, hv⟩
    have hob : ∀ k, some k = (Value.slice vA vl vc).ownBlock → ∃ cs, w.heap[k]? = some (.cells cs 5 (0, 0)) := by
      intro k e
      rcases hown.2 with ⟨hv, _⟩ | ⟨g', c', cur, hv, _, hh, _⟩
      · rw [hv] at e; simp [Value.ownBlock] at e
      · rw [hv] at e; simp [Value.ownBlock] at e; subst e; exact ⟨cur, hh⟩
    have HOB := Lib.hid hob
    clear hbg hob
    go_enter Try.func105, Try.ntmps105
    go_wp2_with (at_builtin; refine wpList_append_own _ rfl _ _ 22 rfl (g + 1) 5 i0 (.int .u8 0) 1 1 Try.underlying22 hi0 hz0 hz1 hz2 rfl (by decide) _ _ _ rfl (hown.alloc _) ⟨w.heap.size, 0, none⟩ 1 1 [.int .u8 0] rfl rfl (cell_one_new _ _ _) (by simp [Value.oneCell']) (by unfold maxLen; omega) (by omega) (by simp; have := hB.lt; omega) ?_; intro v' w1 hown' hgrow _; obtain ⟨r, cap, rfl, hr, hrl, hcap⟩ := own_room hown' (by omega); have B1 := HBG.out w1 hgrow; have q0 : w1.cell? ⟨g, 0, none⟩ = some (.slice vA vl vc) := B1.cell 0; have q0f := B1.frozen 0)
    have hbw : Below g w w1 := ((Below.refl g w).alloc (Nat.le_of_lt hB.lt) _).grown hgrow (by simp; have := hB.lt; omega) (fun k hk => by have := (hown.lt k hk).1; omega)
    have hkn : KeepsNon g w w1 := fun k o h1 h2 h3 => by
      have hk := (Array.getElem?_eq_some_iff.1 h1).1
      refine (hgrow.block k (by simp; omega) (fun e => ?_)).trans ((Below.heap_alloc w _ k hk).trans h1)
      obtain ⟨cs, hcs⟩ := HOB.out k e
      rw [hcs] at h1; cases h1; exact h3 _ _ rfl
    have HIn : AddIn g r bt n cap (w1.setCell ⟨g, 0, none⟩ (.slice (some ⟨r, 0, none⟩) (n / 8 + 1) cap)) := by
      refine ⟨B1.set_ 0 _, ?_⟩
      rw [pkList_grow bt n _ (by omega)]
      exact hown'.kept (grownBy_setCell' w1 g _) (.inr (by simp [Value.ownBlock]; omega))
    obtain ⟨W2, hW2⟩ : ∃ W2, W2 = w1.setCell ⟨g, 0, none⟩ (.slice (some ⟨r, 0, none⟩) (n / 8 + 1) cap) := ⟨_, rfl⟩
    have hbW : Below g w W2 := by rw [hW2]; exact hbw.setCell (p := ⟨g, 0, none⟩) (Nat.le_refl _) _
    have hkW : KeepsNon g w W2 := by rw [hW2]; exact hkn.set_g
    rw [← hW2] at HIn ⊢
    clear c0 c1 f0 f1 q0 q0f hW2 hkn hbw hgrow hown' hown B1 hB HBG hrl hcap h8 h8i
    obtain ⟨hB, hown⟩ := HIn
    have HIn2 := Lib.hid (AddIn.mk' hB hown)
    have c0 : W2.cell? ⟨g, 0, none⟩ = some (.slice (some ⟨r, 0, none⟩) (n / 8 + 1) cap) := hB.cell 0
    have c1 : W2.cell? ⟨g, 1, none⟩ = some (.int .i64 (n : Int)) := hB.cell 1
    have f0 := hB.frozen 0
    have f1 := hB.frozen 1
    have hnm : n / 8 < n / 8 + 1 := by omega
    have hni : (n : Int) / 8 < ((n / 8 : Nat) : Int) + 1 := by omega
    have hcell : W2.cell? ⟨r, n / 8, none⟩ = some (.int .u8 ((HM.pk bt n (n / 8) : Nat) : Int)) := by
      have := hown.cells (g := r) rfl (n / 8) _ (pkList_at bt n _ _ hnm)
      have e : (⟨r, 0, none⟩ : Addr).add (n / 8) = ⟨r, n / 8, none⟩ := by unfold Addr.add; split <;> simp_all
      rw [← e]; exact this
    have hfr := hown.frozenAt (n / 8)
    have k0 : (n : Int).tmod 8 = (n : Int) % 8 := Int.tmod_eq_emod_of_nonneg (by omega)
    have k1 : IntKind.i64.wrap ((n : Int) / 8) = (n : Int) / 8 := IntWalk.i64_in _ (by omega)
    have k2 : IntKind.i64.wrap ((n : Int) % 8) = (n : Int) % 8 := IntWalk.i64_in _ (by omega)
    have k3 : IntKind.i64.wrap (7 - (n : Int) % 8) = 7 - (n : Int) % 8 := IntWalk.i64_in _ (by omega)
    have k4 : (0 : Int) ≤ (n : Int) / 8 := by omega
    have k5 : ((n : Int) / 8).toNat = n / 8 := by omega
    have k6 : (0 : Int) ≤ 7 - (n : Int) % 8 := by omega
    have k7 : (7 - (n : Int) % 8).toNat = 7 - n % 8 := by omega
    obtain ⟨m, hm⟩ : ∃ m, m = n / 8 + 1 := ⟨_, rfl⟩
    have k8 : (n : Int) / 8 < (m : Int) := by omega
    rw [← hm] at c0
    have HMM := Lib.hid hm
    have d0 : ({ heap := W2.heap, tape := W2.tape, drawn := W2.drawn + 1, os := W2.os, output := W2.output } : World).cell? ⟨g, 0, none⟩ = _ := c0
    have d1 : ({ heap := W2.heap, tape := W2.tape, drawn := W2.drawn + 1, os := W2.os, output := W2.output } : World).cell? ⟨g, 1, none⟩ = _ := c1
    have d2 : ({ heap := W2.heap, tape := W2.tape, drawn := W2.drawn + 1, os := W2.os, output := W2.output } : World).cell? ⟨r, n / 8, none⟩ = _ := hcell
    clear hB hown hm hni hnm
    go_still_tail 21, (by kernel_rfl)
    clear k0 k1 k2 k3 k4 k5 k6 k7 k8 d0 d1 d2
    change wpList _ _ _ _ _ W2.drew
    rw [HOr.out]
    obtain ⟨W3, hW3⟩ : ∃ W3, W3 = W2.drew := ⟨_, rfl⟩
    have HIn3 : AddIn g r bt n cap W3 := by rw [hW3]; exact HIn2.out
    have hb3 : Below g w W3 := by rw [hW3]; exact hbW.drew
    have hk3 : KeepsNon g w W3 := by rw [hW3]; exact hkW
    rw [← hW3]
    clear hW3 c0 c1 f0 f1 hcell hfr
    have c1 : W3.cell? ⟨g, 1, none⟩ = some (.int .i64 (n : Int)) := HIn3.1.cell 1
    have f1 := HIn3.1.frozen 1
    have hgr : r ≠ g := by omega
    have hcell : W3.cell? ⟨r, n / 8, none⟩ = some (.int .u8 ((HM.pk bt n (n / 8) : Nat) : Int)) := by
      have := HIn3.2.cells (g := r) rfl (n / 8) _ (pkList_at bt n _ _ (by omega))
      have e : (⟨r, 0, none⟩ : Addr).add (n / 8) = ⟨r, n / 8, none⟩ := by unfold Addr.add; split <;> simp_all
      rw [← e]; exact this
    have hfr := HIn3.2.frozenAt (n / 8)
    have HI3 := Lib.hid HIn3
    clear HIn3
    go_wp2
    go_end0
    exact ⟨rfl, add_end HI3.out w hb3 hk3⟩
  · have h8i : ((n : Int) % 8 == 0) = false := by simp; omega
    rw [show (n + 7) / 8 = n / 8 + 1 by omega] at hown
    obtain ⟨r, cap, rfl, hr, hrl, hcap⟩ := own_room hown (by omega)
    have HIn : AddIn g r bt n cap w := ⟨hB, hown⟩
    obtain ⟨W2, hW2⟩ : ∃ W2, W2 = w := ⟨_, rfl⟩
    have hbW : Below g w W2 := by rw [hW2]; exact Below.refl _ _
    have hkW : KeepsNon g w W2 := by rw [hW2]; exact KeepsNon.refl _ _
    go_enter Try.func105, Try.ntmps105
    go_wp2
    rw [← hW2] at HIn ⊢
    clear c0 c1 f0 f1 hW2 hown hB hrl hcap
    obtain ⟨hB, hown⟩ := HIn
    have HIn2 := Lib.hid (AddIn.mk' hB hown)
    have c0 : W2.cell? ⟨g, 0, none⟩ = some (.slice (some ⟨r, 0, none⟩) (n / 8 + 1) cap) := hB.cell 0
    have c1 : W2.cell? ⟨g, 1, none⟩ = some (.int .i64 (n : Int)) := hB.cell 1
    have f0 := hB.frozen 0
    have f1 := hB.frozen 1
    have hnm : n / 8 < n / 8 + 1 := by omega
    have hni : (n : Int) / 8 < ((n / 8 : Nat) : Int) + 1 := by omega
    have hcell : W2.cell? ⟨r, n / 8, none⟩ = some (.int .u8 ((HM.pk bt n (n / 8) : Nat) : Int)) := by
      have := hown.cells (g := r) rfl (n / 8) _ (pkList_at bt n _ _ hnm)
      have e : (⟨r, 0, none⟩ : Addr).add (n / 8) = ⟨r, n / 8, none⟩ := by unfold Addr.add; split <;> simp_all
      rw [← e]; exact this
    have hfr := hown.frozenAt (n / 8)
    have k0 : (n : Int).tmod 8 = (n : Int) % 8 := Int.tmod_eq_emod_of_nonneg (by omega)
    have k1 : IntKind.i64.wrap ((n : Int) / 8) = (n : Int) / 8 := IntWalk.i64_in _ (by omega)
    have k2 : IntKind.i64.wrap ((n : Int) % 8) = (n : Int) % 8 := IntWalk.i64_in _ (by omega)
    have k3 : IntKind.i64.wrap (7 - (n : Int) % 8) = 7 - (n : Int) % 8 := IntWalk.i64_in _ (by omega)
    have k4 : (0 : Int) ≤ (n : Int) / 8 := by omega
    have k5 : ((n : Int) / 8).toNat = n / 8 := by omega
    have k6 : (0 : Int) ≤ 7 - (n : Int) % 8 := by omega
    have k7 : (7 - (n : Int) % 8).toNat = 7 - n % 8 := by omega
    obtain ⟨m, hm⟩ : ∃ m, m = n / 8 + 1 := ⟨_, rfl⟩
    have k8 : (n : Int) / 8 < (m : Int) := by omega
    rw [← hm] at c0
    have HMM := Lib.hid hm
    have d0 : ({ heap := W2.heap, tape := W2.tape, drawn := W2.drawn + 1, os := W2.os, output := W2.output } : World).cell? ⟨g, 0, none⟩ = _ := c0
    have d1 : ({ heap := W2.heap, tape := W2.tape, drawn := W2.drawn + 1, os := W2.os, output := W2.output } : World).cell? ⟨g, 1, none⟩ = _ := c1
    have d2 : ({ heap := W2.heap, tape := W2.tape, drawn := W2.drawn + 1, os := W2.os, output := W2.output } : World).cell? ⟨r, n / 8, none⟩ = _ := hcell
    clear hB hown hm hni hnm
    go_still_tail 21, (by kernel_rfl)
    clear k0 k1 k2 k3 k4 k5 k6 k7 k8 d0 d1 d2
    change wpList _ _ _ _ _ W2.drew
    rw [HOr.out]
    obtain ⟨W3, hW3⟩ : ∃ W3, W3 = W2.drew := ⟨_, rfl⟩
    have HIn3 : AddIn g r bt n cap W3 := by rw [hW3]; exact HIn2.out
    have hb3 : Below g w W3 := by rw [hW3]; exact hbW.drew
    have hk3 : KeepsNon g w W3 := by rw [hW3]; exact hkW
    rw [← hW3]
    clear hW3 c0 c1 f0 f1 hcell hfr
    have c1 : W3.cell? ⟨g, 1, none⟩ = some (.int .i64 (n : Int)) := HIn3.1.cell 1
    have f1 := HIn3.1.frozen 1
    have hgr : r ≠ g := by omega
    have hcell : W3.cell? ⟨r, n / 8, none⟩ = some (.int .u8 ((HM.pk bt n (n / 8) : Nat) : Int)) := by
      have := HIn3.2.cells (g := r) rfl (n / 8) _ (pkList_at bt n _ _ (by omega))
      have e : (⟨r, 0, none⟩ : Addr).add (n / 8) = ⟨r, n / 8, none⟩ := by unfold Addr.add; split <;> simp_all
      rw [← e]; exact this
    have hfr := HIn3.2.frozenAt (n / 8)
    have HI3 := Lib.hid HIn3
    clear HIn3
    go_wp2
    go_end0
    exact ⟨rfl, add_end HI3.out w hb3 hk3⟩
end Go.Proofs.Ytejadoadpgcpjaa
