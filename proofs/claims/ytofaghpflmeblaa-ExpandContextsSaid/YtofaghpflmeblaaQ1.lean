/- field.Writer: what its memory says; (*buffer).add. field.Writer: the iterator over the bits of a field. field.Writer: put. field.Writer: check, PutAll of one field, Put, Bytes. header.parts: the table of the fields. header: the fields of a header value, and the test of one field. header.Valid. header.Encode. header.Build. The reference of chapter 42: values, Widths, Fits, Valid. The reference of chapter 42: Bytes. The reference of chapter 42: Build. field.Reader: Left, Get. field: each, GetAll; header: must, got, all. field.GetAll, NewReader; header.must, got, all; the iterator of header.Fields. header.widths, parser.all. header.caught, Parse$1, parser.all. parser.all. header.Parse: the failing ends. -/
import Derived.Test.YtofaghpflmeblaaU
import Derived.StillTailTactics
import Derived.Laws.Tables
import Derived.Laws.EntriesVeiled
import Derived.Deep.OwnRows
import Derived.Defers
import Derived.Recover
import Derived.Laws.Pointers
import Derived.BigQuiet
namespace Go.Proofs.Ytofaghpflmeblaa
open Go.RowKit

/-- the first m bytes of the packed bits bt 0, .., bt (n - 1) -/
def pkList (bt : Nat → Bool) (n m : Nat) : List Value := (List.range m).map (fun j => .int .u8 ((HM.pk bt n j : Nat) : Int))
theorem pkList_len (bt : Nat → Bool) (n m : Nat) : (pkList bt n m).length = m := by simp [pkList]
theorem pkList_at (bt : Nat → Bool) (n m j : Nat) (h : j < m) : (pkList bt n m)[j]? = some (.int .u8 ((HM.pk bt n j : Nat) : Int)) := by simp [pkList, h]
theorem pkList_grow (bt : Nat → Bool) (n m : Nat) (h : n ≤ 8 * m) : pkList bt n (m + 1) = pkList bt n m ++ [.int .u8 0] := by
  unfold pkList
  rw [List.range_succ, List.map_append, List.map_singleton, HM.pk_far bt n m h]; rfl
theorem pkList_set (bt : Nat → Bool) (n m : Nat) : (pkList bt n m).set (n / 8) (.int .u8 ((HM.pk bt (n + 1) (n / 8) : Nat) : Int)) = pkList bt (n + 1) m := by
  refine List.ext_getElem? fun j => ?_
  rw [List.getElem?_set]
  by_cases hj : j < m
  · rw [pkList_at _ _ _ _ hj, pkList_at _ (n + 1) _ _ hj, pkList_len]
    split
    · rename_i e; subst e; rw [if_pos hj]
    · rename_i e; rw [HM.pk_other bt n j e]
  · rw [List.getElem?_eq_none (by rw [pkList_len]; omega), List.getElem?_eq_none (by rw [pkList_len]; omega), pkList_len]
    split
    · rw [if_neg (by omega)]
    · rfl
theorem pkList_congr {bt bs : Nat → Bool} {n m : Nat} (h : ∀ j, j < n → bt j = bs j) : pkList bt n m = pkList bs n m := by
  unfold pkList
  exact List.map_congr_left fun j _ => by rw [HM.pk_congr n j h]

/-- block g is a Writer that holds n bits -/
def WS (w : World) (g : Nat) (bt : Nat → Bool) (n : Nat) : Prop :=
  ∃ v, Blk w g 157 #[v, .int .i64 (n : Int)] ∧ w.ownsRow (g + 1) 5 1 v ((n + 7) / 8) (pkList bt n ((n + 7) / 8))
/-- all blocks but g and those of bytes lie as they lay -/
def KeepsNon (g : Nat) (W W' : World) : Prop := ∀ k o, W.heap[k]? = some o → k ≠ g → (∀ cs f, o ≠ .cells cs 5 f) → W'.heap[k]? = some o
theorem KeepsNon.refl (g : Nat) (W : World) : KeepsNon g W W := fun _ _ h _ _ => h
theorem KeepsNon.trans {g : Nat} {A B C : World} (h : KeepsNon g A B) (k : KeepsNon g B C) : KeepsNon g A C := fun b o h1 h2 h3 => k b o (h b o h1 h2 h3) h2 h3
theorem KeepsNon.blk {g : Nat} {A B : World} (h : KeepsNon g A B) {b : Nat} {t : TypeId} {cs : Array Value} (hB : Blk A b t cs) (h1 : b ≠ g) (h2 : t ≠ 5) : Blk B b t cs :=
  h b _ hB h1 (fun cs f e => h2 (by cases e; rfl))

def AddPost (g : Nat) (bt : Nat → Bool) (n : Nat) (w : World) (e : Ending) (w' : World) : Prop :=
  e = .returned (.tuple #[]) ∧ WS w' g bt (n + 1) ∧ Below g w w' ∧ KeepsNon g w w'
theorem shl_or (bt : Nat → Bool) (n : Nat) (x : Bool) (hx : bt n = x) (y : Int) (hy : y = if x then 1 else 0) :
    bits BinOp.or .u8 ((HM.pk bt n (n / 8) : Nat) : Int) (IntKind.u8.wrap (y * 2 ^ (7 - n % 8))) = ((HM.pk bt (n + 1) (n / 8) : Nat) : Int) := by
  have hl := HM.pk_lt bt n (n / 8)
  subst hy
  cases x with
  | false =>
    have e : IntKind.u8.wrap ((if false = true then 1 else 0) * 2 ^ (7 - n % 8)) = ((0 : Nat) : Int) := by simp [IntKind.wrap_u8]
    rw [e, u8_or_nat _ _ hl (by decide), HM.pk_skip bt n _ hx, Nat.or_zero]
  | true =>
    have h128 : ∀ r, r < 8 → IntKind.u8.wrap ((if true = true then 1 else 0) * 2 ^ (7 - r)) = (128 / 2 ^ r : Int) := by decide
    rw [h128 (n % 8) (by omega)]
    exact or_pk bt n hx
theorem grownBy_setCellAt (W : World) (b i : Nat) (v : Value) : W.grownBy (W.setCell ⟨b, i, none⟩ v) (some b) :=
  ⟨rfl, rfl, rfl, (KeepsWalks.setCell W _ v).size, fun k _ hk => Below.heap_setCell _ _ _ k (fun e => hk (by rw [e]))⟩
theorem KeepsNon.set_row {g r : Nat} {A B : World} (h : KeepsNon g A B) {i : Nat} {u : Value} {cs : Array Value} {f : Nat × Nat} (hr : B.heap[r]? = some (.cells cs 5 f)) : KeepsNon g A (B.setCell ⟨r, i, none⟩ u) := fun k o h1 h2 h3 => by
  have h4 := h k o h1 h2 h3
  by_cases e : k = r
  · subst e; rw [hr] at h4; cases h4; exact absurd rfl (h3 _ _)
  · exact (Below.heap_setCell B _ _ k e).trans h4
theorem KeepsNon.set_g {g : Nat} {A B : World} (h : KeepsNon g A B) {i : Nat} {u : Value} : KeepsNon g A (B.setCell ⟨g, i, none⟩ u) := fun k o h1 h2 h3 =>
  (Below.heap_setCell B _ _ k h2).trans (h k o h1 h2 h3)
theorem own_heap {w : World} {base e n : Nat} {r cap : Nat} {xs : List Value} (h : w.ownsRow base e 1 (.slice (some ⟨r, 0, none⟩) n cap) n xs) : ∃ cs, w.heap[r]? = some (.cells cs e (0, 0)) := by
  rcases h.2 with ⟨h0, _⟩ | ⟨g, c, cur, hv, _, hh, _⟩
  · cases h0
  · cases hv; exact ⟨cur, hh⟩

def AddIn (g r : Nat) (bt : Nat → Bool) (n cap : Nat) (w : World) : Prop :=
  Blk w g 157 #[.slice (some ⟨r, 0, none⟩) (n / 8 + 1) cap, .int .i64 (n : Int)] ∧ w.ownsRow (g + 1) 5 1 (.slice (some ⟨r, 0, none⟩) (n / 8 + 1) cap) (n / 8 + 1) (pkList bt n (n / 8 + 1))
theorem AddIn.mk' {g r n cap : Nat} {bt : Nat → Bool} {w : World} (h1 : Blk w g 157 #[.slice (some ⟨r, 0, none⟩) (n / 8 + 1) cap, .int .i64 (n : Int)]) (h2 : w.ownsRow (g + 1) 5 1 (.slice (some ⟨r, 0, none⟩) (n / 8 + 1) cap) (n / 8 + 1) (pkList bt n (n / 8 + 1))) : AddIn g r bt n cap w := ⟨h1, h2⟩
/-- the world behind add -/
theorem add_end {g r n cap : Nat} {bt : Nat → Bool} {w : World} (h : AddIn g r bt n cap w) (w0 : World) (hb : Below g w0 w) (hk : KeepsNon g w0 w) :
    WS ((w.setCell ⟨r, n / 8, none⟩ (.int .u8 ((HM.pk bt (n + 1) (n / 8) : Nat) : Int))).setCell ⟨g, 1, none⟩ (.int .i64 ((n : Int) + 1))) g bt (n + 1) ∧
    Below g w0 ((w.setCell ⟨r, n / 8, none⟩ (.int .u8 ((HM.pk bt (n + 1) (n / 8) : Nat) : Int))).setCell ⟨g, 1, none⟩ (.int .i64 ((n : Int) + 1))) ∧
    KeepsNon g w0 ((w.setCell ⟨r, n / 8, none⟩ (.int .u8 ((HM.pk bt (n + 1) (n / 8) : Nat) : Int))).setCell ⟨g, 1, none⟩ (.int .i64 ((n : Int) + 1))) := by
  obtain ⟨hB, hown⟩ := h
  have hr : g + 1 ≤ r := (hown.lt r (by simp [Value.ownBlock])).1
  obtain ⟨cs, hcs⟩ := own_heap hown
  have hne : g ≠ r := by omega
  refine ⟨⟨.slice (some ⟨r, 0, none⟩) (n / 8 + 1) cap, ?_, ?_⟩, ?_, ?_⟩
  · have := (hB.far (p := ⟨r, n / 8, none⟩) hne (.int .u8 ((HM.pk bt (n + 1) (n / 8) : Nat) : Int))).set_ 1 (.int .i64 ((n : Int) + 1))
    exact this
  · rw [show (n + 1 + 7) / 8 = n / 8 + 1 by omega]
    have h1 := (hown.stored (n / 8) (.int .u8 ((HM.pk bt (n + 1) (n / 8) : Nat) : Int))).1
    rw [pkList_set] at h1
    exact h1.kept (grownBy_setCellAt _ g 1 _) (.inr (by simp [Value.ownBlock]; omega))
  · exact (hb.setCell (p := ⟨r, n / 8, none⟩) (by simp; omega) _).setCell (p := ⟨g, 1, none⟩) (Nat.le_refl _) _
  · exact (hk.set_row hcs).set_g

set_option maxRecDepth 100000 in
set_option maxHeartbeats 1600000 in
theorem add_ok (g : Nat) (bt : Nat → Bool) (n : Nat) (x : Bool) (y : Int) (hy : y = if x then 1 else 0) (hx : bt n = x) (hn : n ≤ 1000000) (w : World) (h : WS w g bt n) :
    Calls Try.prog 111 #[.pointer (some ⟨g, 0, none⟩), .int .u8 y] w (AddPost g bt n w) := by
  obtain ⟨v, hB, hown⟩ := h
  obtain ⟨i0, hi0, hz0, hz1, hz2⟩ := info_parts Try.infoByte
  have c0 : w.cell? ⟨g, 0, none⟩ = some v := hB.cell 0
  have c1 : w.cell? ⟨g, 1, none⟩ = some (.int .i64 (n : Int)) := hB.cell 1
  have f0 := hB.frozen 0
  have f1 := hB.frozen 1
  have HOr := Lib.hid (shl_or bt n x hx y hy)
  have hnn : (n : Int) ≤ 1000000 := by omega
  clear hx hy
  by_cases h8 : n % 8 = 0
  · have h8i : ((n : Int) % 8 == 0) = true := by simp; omega
    rw [show (n + 7) / 8 = n / 8 by omega] at hown
    have hbg : ∀ W', (w.alloc (.cells #[.int .u8 0] 5)).grownBy W' v.ownBlock → Blk W' g 157 #[v, .int .i64 (n : Int)] := fun W' hg =>
      (hB.alloc _).grown hg (fun e => by have := (hown.lt g e.symm).1; omega)
    have HBG := Lib.hid hbg
    obtain ⟨vl, vA, vc, rfl⟩ : ∃ vl vA vc, v = .slice vA vl vc := by
      obtain ⟨A, c, hv, _⟩ := own_any (f := fun j => .int .u8 ((HM.pk bt n j : Nat) : Int)) hown (fun j hj => pkList_at _ _ _ _ hj)
      exact ⟨_, A, c, hv⟩
    have hob : ∀ k, some k = (Value.slice vA vl vc).ownBlock → ∃ cs, w.heap[k]? = some (.cells cs 5 (0, 0)) := by
      intro k e
      rcases hown.2 with ⟨hv, _⟩ | ⟨g', c', cur, hv, _, hh, _⟩
      · rw [hv] at e; simp [Value.ownBlock] at e
      · rw [hv] at e; simp [Value.ownBlock] at e; subst e; exact ⟨cur, hh⟩
    have HOB := Lib.hid hob
    clear hbg hob
    go_enter Try.func111, Try.ntmps111
    go_wp2_with (at_builtin; refine wpList_append_own _ rfl _ _ 24 rfl (g + 1) 5 i0 (.int .u8 0) 1 1 Try.underlying24 hi0 hz0 hz1 hz2 rfl (by decide) _ _ _ rfl (hown.alloc _) ⟨w.heap.size, 0, none⟩ 1 1 [.int .u8 0] rfl rfl (cell_one_new _ _ _) (by simp [Value.oneCell']) (by unfold maxLen; omega) (by omega) (by simp; have := hB.lt; omega) ?_; intro v' w1 hown' hgrow _; obtain ⟨r, cap, rfl, hr, hrl, hcap⟩ := own_room hown' (by omega); have B1 := HBG.out w1 hgrow; have q0 : w1.cell? ⟨g, 0, none⟩ = some (.slice vA vl vc) := B1.cell 0; have q0f := B1.frozen 0)
    have hbw : Below g w w1 := ((Below.refl g w).alloc (Nat.le_of_lt hB.lt) _).grown hgrow (by simp; have := hB.lt; omega) (fun k hk => by have := (hown.lt k hk).1; omega)
    have hkn : KeepsNon g w w1 := fun k o h1 h2 h3 => by
      have hk := (Array.getElem?_eq_some_iff.1 h1).1
      refine (hgrow.block k (by simp; omega) (fun e => ?_)).trans ((Below.heap_alloc w _ k hk).trans h1)
      obtain ⟨cs, hcs⟩ := HOB.out k e
      rw [hcs] at h1; cases h1; exact h3 _ _ rfl
    have HIn : AddIn g r bt n cap (w1.setCell ⟨g, 0, none⟩ (.slice (some ⟨r, 0, none⟩) (n / 8 + 1) cap)) := by
      refine ⟨B1.set_ 0 _, ?_⟩
      rw [pkList_grow bt n _ (by omega)]
      exact hown'.kept (grownBy_setCell' w1 g _) (.inr (by simp [Value.ownBlock]; omega))
    obtain ⟨W2, hW2⟩ : ∃ W2, W2 = w1.setCell ⟨g, 0, none⟩ (.slice (some ⟨r, 0, none⟩) (n / 8 + 1) cap) := ⟨_, rfl⟩
    have hbW : Below g w W2 := by rw [hW2]; exact hbw.setCell (p := ⟨g, 0, none⟩) (Nat.le_refl _) _
    have hkW : KeepsNon g w W2 := by rw [hW2]; exact hkn.set_g
    rw [← hW2] at HIn ⊢
    clear c0 c1 f0 f1 q0 q0f hW2 hkn hbw hgrow hown' hown B1 hB HBG hrl hcap h8 h8i
    obtain ⟨hB, hown⟩ := HIn
    have HIn2 := Lib.hid (AddIn.mk' hB hown)
    have c0 : W2.cell? ⟨g, 0, none⟩ = some (.slice (some ⟨r, 0, none⟩) (n / 8 + 1) cap) := hB.cell 0
    have c1 : W2.cell? ⟨g, 1, none⟩ = some (.int .i64 (n : Int)) := hB.cell 1
    have f0 := hB.frozen 0
    have f1 := hB.frozen 1
    have hnm : n / 8 < n / 8 + 1 := by omega
    have hni : (n : Int) / 8 < ((n / 8 : Nat) : Int) + 1 := by omega
    have hcell : W2.cell? ⟨r, n / 8, none⟩ = some (.int .u8 ((HM.pk bt n (n / 8) : Nat) : Int)) := by
      have := hown.cells (g := r) rfl (n / 8) _ (pkList_at bt n _ _ hnm)
      have e : (⟨r, 0, none⟩ : Addr).add (n / 8) = ⟨r, n / 8, none⟩ := by unfold Addr.add; split <;> simp_all
      rw [← e]; exact this
    have hfr := hown.frozenAt (n / 8)
    have k0 : (n : Int).tmod 8 = (n : Int) % 8 := Int.tmod_eq_emod_of_nonneg (by omega)
    have k1 : IntKind.i64.wrap ((n : Int) / 8) = (n : Int) / 8 := IntWalk.i64_in _ (by omega)
    have k2 : IntKind.i64.wrap ((n : Int) % 8) = (n : Int) % 8 := IntWalk.i64_in _ (by omega)
    have k3 : IntKind.i64.wrap (7 - (n : Int) % 8) = 7 - (n : Int) % 8 := IntWalk.i64_in _ (by omega)
    have k4 : (0 : Int) ≤ (n : Int) / 8 := by omega
    have k5 : ((n : Int) / 8).toNat = n / 8 := by omega
    have k6 : (0 : Int) ≤ 7 - (n : Int) % 8 := by omega
    have k7 : (7 - (n : Int) % 8).toNat = 7 - n % 8 := by omega
    obtain ⟨m, hm⟩ : ∃ m, m = n / 8 + 1 := ⟨_, rfl⟩
    have k8 : (n : Int) / 8 < (m : Int) := by omega
    rw [← hm] at c0
    have HMM := Lib.hid hm
    have d0 : ({ heap := W2.heap, tape := W2.tape, drawn := W2.drawn + 1, os := W2.os, output := W2.output } : World).cell? ⟨g, 0, none⟩ = _ := c0
    have d1 : ({ heap := W2.heap, tape := W2.tape, drawn := W2.drawn + 1, os := W2.os, output := W2.output } : World).cell? ⟨g, 1, none⟩ = _ := c1
    have d2 : ({ heap := W2.heap, tape := W2.tape, drawn := W2.drawn + 1, os := W2.os, output := W2.output } : World).cell? ⟨r, n / 8, none⟩ = _ := hcell
    clear hB hown hm hni hnm
    go_still_tail 21, (by kernel_rfl)
    clear k0 k1 k2 k3 k4 k5 k6 k7 k8 d0 d1 d2
    change wpList _ _ _ _ _ W2.drew
    rw [HOr.out]
    obtain ⟨W3, hW3⟩ : ∃ W3, W3 = W2.drew := ⟨_, rfl⟩
    have HIn3 : AddIn g r bt n cap W3 := by rw [hW3]; exact HIn2.out
    have hb3 : Below g w W3 := by rw [hW3]; exact hbW.drew
    have hk3 : KeepsNon g w W3 := by rw [hW3]; exact hkW
    rw [← hW3]
    clear hW3 c0 c1 f0 f1 hcell hfr
    have c1 : W3.cell? ⟨g, 1, none⟩ = some (.int .i64 (n : Int)) := HIn3.1.cell 1
    have f1 := HIn3.1.frozen 1
    have hgr : r ≠ g := by omega
    have hcell : W3.cell? ⟨r, n / 8, none⟩ = some (.int .u8 ((HM.pk bt n (n / 8) : Nat) : Int)) := by
      have := HIn3.2.cells (g := r) rfl (n / 8) _ (pkList_at bt n _ _ (by omega))
      have e : (⟨r, 0, none⟩ : Addr).add (n / 8) = ⟨r, n / 8, none⟩ := by unfold Addr.add; split <;> simp_all
      rw [← e]; exact this
    have hfr := HIn3.2.frozenAt (n / 8)
    have HI3 := Lib.hid HIn3
    clear HIn3
    go_wp2
    go_end0
    exact ⟨rfl, add_end HI3.out w hb3 hk3⟩
  · have h8i : ((n : Int) % 8 == 0) = false := by simp; omega
    rw [show (n + 7) / 8 = n / 8 + 1 by omega] at hown
    obtain ⟨r, cap, rfl, hr, hrl, hcap⟩ := own_room hown (by omega)
    have HIn : AddIn g r bt n cap w := ⟨hB, hown⟩
    obtain ⟨W2, hW2⟩ : ∃ W2, W2 = w := ⟨_, rfl⟩
    have hbW : Below g w W2 := by rw [hW2]; exact Below.refl _ _
    have hkW : KeepsNon g w W2 := by rw [hW2]; exact KeepsNon.refl _ _
    go_enter Try.func111, Try.ntmps111
    go_wp2
    rw [← hW2] at HIn ⊢
    clear c0 c1 f0 f1 hW2 hown hB hrl hcap
    obtain ⟨hB, hown⟩ := HIn
    have HIn2 := Lib.hid (AddIn.mk' hB hown)
    have c0 : W2.cell? ⟨g, 0, none⟩ = some (.slice (some ⟨r, 0, none⟩) (n / 8 + 1) cap) := hB.cell 0
    have c1 : W2.cell? ⟨g, 1, none⟩ = some (.int .i64 (n : Int)) := hB.cell 1
    have f0 := hB.frozen 0
    have f1 := hB.frozen 1
    have hnm : n / 8 < n / 8 + 1 := by omega
    have hni : (n : Int) / 8 < ((n / 8 : Nat) : Int) + 1 := by omega
    have hcell : W2.cell? ⟨r, n / 8, none⟩ = some (.int .u8 ((HM.pk bt n (n / 8) : Nat) : Int)) := by
      have := hown.cells (g := r) rfl (n / 8) _ (pkList_at bt n _ _ hnm)
      have e : (⟨r, 0, none⟩ : Addr).add (n / 8) = ⟨r, n / 8, none⟩ := by unfold Addr.add; split <;> simp_all
      rw [← e]; exact this
    have hfr := hown.frozenAt (n / 8)
    have k0 : (n : Int).tmod 8 = (n : Int) % 8 := Int.tmod_eq_emod_of_nonneg (by omega)
    have k1 : IntKind.i64.wrap ((n : Int) / 8) = (n : Int) / 8 := IntWalk.i64_in _ (by omega)
    have k2 : IntKind.i64.wrap ((n : Int) % 8) = (n : Int) % 8 := IntWalk.i64_in _ (by omega)
    have k3 : IntKind.i64.wrap (7 - (n : Int) % 8) = 7 - (n : Int) % 8 := IntWalk.i64_in _ (by omega)
    have k4 : (0 : Int) ≤ (n : Int) / 8 := by omega
    have k5 : ((n : Int) / 8).toNat = n / 8 := by omega
    have k6 : (0 : Int) ≤ 7 - (n : Int) % 8 := by omega
    have k7 : (7 - (n : Int) % 8).toNat = 7 - n % 8 := by omega
    obtain ⟨m, hm⟩ : ∃ m, m = n / 8 + 1 := ⟨_, rfl⟩
    have k8 : (n : Int) / 8 < (m : Int) := by omega
    rw [← hm] at c0
    have HMM := Lib.hid hm
    have d0 : ({ heap := W2.heap, tape := W2.tape, drawn := W2.drawn + 1, os := W2.os, output := W2.output } : World).cell? ⟨g, 0, none⟩ = _ := c0
    have d1 : ({ heap := W2.heap, tape := W2.tape, drawn := W2.drawn + 1, os := W2.os, output := W2.output } : World).cell? ⟨g, 1, none⟩ = _ := c1
    have d2 : ({ heap := W2.heap, tape := W2.tape, drawn := W2.drawn + 1, os := W2.os, output := W2.output } : World).cell? ⟨r, n / 8, none⟩ = _ := hcell
    clear hB hown hm hni hnm
    go_still_tail 21, (by kernel_rfl)
    clear k0 k1 k2 k3 k4 k5 k6 k7 k8 d0 d1 d2
    change wpList _ _ _ _ _ W2.drew
    rw [HOr.out]
    obtain ⟨W3, hW3⟩ : ∃ W3, W3 = W2.drew := ⟨_, rfl⟩
    have HIn3 : AddIn g r bt n cap W3 := by rw [hW3]; exact HIn2.out
    have hb3 : Below g w W3 := by rw [hW3]; exact hbW.drew
    have hk3 : KeepsNon g w W3 := by rw [hW3]; exact hkW
    rw [← hW3]
    clear hW3 c0 c1 f0 f1 hcell hfr
    have c1 : W3.cell? ⟨g, 1, none⟩ = some (.int .i64 (n : Int)) := HIn3.1.cell 1
    have f1 := HIn3.1.frozen 1
    have hgr : r ≠ g := by omega
    have hcell : W3.cell? ⟨r, n / 8, none⟩ = some (.int .u8 ((HM.pk bt n (n / 8) : Nat) : Int)) := by
      have := HIn3.2.cells (g := r) rfl (n / 8) _ (pkList_at bt n _ _ (by omega))
      have e : (⟨r, 0, none⟩ : Addr).add (n / 8) = ⟨r, n / 8, none⟩ := by unfold Addr.add; split <;> simp_all
      rw [← e]; exact this
    have hfr := HIn3.2.frozenAt (n / 8)
    have HI3 := Lib.hid HIn3
    clear HIn3
    go_wp2
    go_end0
    exact ⟨rfl, add_end HI3.out w hb3 hk3⟩
end Go.Proofs.Ytofaghpflmeblaa
namespace Go.Proofs.Ytofaghpflmeblaa
open Go.RowKit Go.Shelf

attribute [local go_sem] Oper.semAt_some

/-- bit k of a field of w bits, the most significant one first -/
def vbit (v w k : Nat) : Bool := v / 2 ^ (w - 1 - k) % 2 == 1
def vbits (v w m : Nat) : List Bool := (List.range m).map (vbit v w)
theorem vbits_len (v w m : Nat) : (vbits v w m).length = m := by simp [vbits]
theorem vbits_succ (v w m : Nat) : vbits v w (m + 1) = vbits v w m ++ [vbit v w m] := by simp [vbits, List.range_succ]
def KeepTwo (b1 b2 : Nat) (A B : World) : Prop := B.heap[b1]? = A.heap[b1]? ∧ B.heap[b2]? = A.heap[b2]?
theorem KeepTwo.refl (b1 b2 : Nat) (A : World) : KeepTwo b1 b2 A A := ⟨rfl, rfl⟩
theorem KeepTwo.trans {b1 b2 : Nat} {A B C : World} (h : KeepTwo b1 b2 A B) (k : KeepTwo b1 b2 B C) : KeepTwo b1 b2 A C := ⟨k.1.trans h.1, k.2.trans h.2⟩
theorem keepTwo_b {b1 b2 : Nat} {w : World} (h1 : b1 < w.heap.size) (h2 : b2 < w.heap.size) (W : World) (l : Nat) (o o' : Obj) (hl : w.heap.size ≤ l) (_ : W.heap[l]? = some o) (_ : o.isCells = false) (_ : o.isWalk = false) : KeepTwo b1 b2 W (W.putObj l o') :=
  ⟨World.putObj_heap_other (by omega), World.putObj_heap_other (by omega)⟩
/-- a bit as a number -/
def bi (b : Bool) : Int := if b then 1 else 0
theorem field_bit (v i : Nat) (hv : v < 18446744073709551616) : bits BinOp.and .u64 ((v : Int) / 2 ^ i) 1 % 256 = bi (v / 2 ^ i % 2 == 1) := by
  unfold bi
  have e : ((v : Int) / 2 ^ i) = ((v / 2 ^ i : Nat) : Int) := by simp
  have hl : v / 2 ^ i < 18446744073709551616 := Nat.lt_of_le_of_lt (Nat.div_le_self _ _) hv
  have h1 := u64_and_nat (v / 2 ^ i) 1 hl (by decide)
  rw [e]
  have h2 : bits BinOp.and .u64 ((v / 2 ^ i : Nat) : Int) 1 = ((v / 2 ^ i % 2 : Nat) : Int) := by
    have := h1
    rw [Nat.and_one_is_mod] at this
    exact this
  rw [h2]
  rcases Nat.mod_two_eq_zero_or_one (v / 2 ^ i) with h | h <;> simp [h]

set_option maxRecDepth 100000 in
set_option maxHeartbeats 2000000 in
theorem fbits_stops (v width : Nat) (hv : v < 18446744073709551616) (hw : width ≤ 64) (bw bv n : Nat) (w : World) (hB : Blk w bw 3 #[.int .i64 (width : Int)]) (hV : Blk w bv 122 #[.int .u64 (v : Int)]) (hn : 1 ≤ n) :
    SeqStopsK Fence.wide n Try.prog 112 #[.pointer (some ⟨bw, 0, none⟩), .pointer (some ⟨bv, 0, none⟩)] (fun b : Bool => #[.int .u8 (bi b)]) (KeepTwo bw bv) (fun xs => xs = vbits v width width) (fun pre => ∃ m, m ≤ width ∧ pre = vbits v width m) width w := fun l J Jx W hW hJ hJx hY h0 => by
  have HY := Lib.hid hY
  have HB := Lib.hid (hB.below hW hB.lt)
  have HV := Lib.hid (hV.below hW hV.lt)
  clear hJ hJx hY hB hV
  refine callsIn_of_wp Try.func112 rfl trivial ?_ rfl
  simp only [Try.ntmps112, List.size_toArray, List.length_cons, List.length_nil, Nat.reduceAdd, Nat.reduceSub, Array.replicate_succ, Array.replicate_zero, List.push_toArray, List.append_toArray, List.nil_append, List.cons_append]
  have c0 : W.cell? ⟨bw, 0, none⟩ = some (.int .i64 (width : Int)) := HB.out.cell 0
  refine wpIn_wide.2 (wp_scope_straight ((wpIn_wide (n := n)).1 ?_))
  gi_wp2
  refine wpIn_label ?_
  gi_wp2
  gi_loopw [4] (fun v4 wr => ∃ k : Nat, k ≤ width ∧ v4 = .int .i64 ((width : Int) - 1 - k) ∧ J (vbits v width k) wr ∧ KeepTwo bw bv W wr) (fun v4 _ => (intOf v4 + 1).toNat)
  case atStart => exact ⟨0, Nat.zero_le _, by simp, h0, KeepTwo.refl _ _ _⟩
  case round =>
    obtain ⟨k, hk, rfl, hJk, hb⟩ := hrel
    by_cases hlt : k < width
    · obtain ⟨i, hi⟩ : ∃ i : Nat, i = width - 1 - k := ⟨_, rfl⟩
      have hi2 : (width : Int) - 1 - k = (i : Int) := by omega
      have d1 : wr.cell? ⟨bv, 0, none⟩ = some (.int .u64 (v : Int)) := (show Blk wr bv 122 _ from hb.2.trans HV.out).cell 0
      have hbit := field_bit v i hv
      have hvb : vbit v width k = (v / 2 ^ i % 2 == 1) := by unfold vbit; rw [hi]
      rw [← hvb] at hbit
      obtain ⟨fn, tmps, assign, body, hy, hR⟩ := HY.out (vbits v width k) (vbit v width k) wr hJk (by rw [vbits_len]; exact hlt)
      have HRr := Lib.hid hR
      have hmin : min i 64 = i := by omega
      have HI := Lib.hid hi
      rw [hi2]
      have HI2 := Lib.hid hi2
      clear hR hvb hi hi2
      gi_wp2
      refine HRr.out.mono ?_
      rintro e w4 (⟨rfl, hJ4, hk4⟩ | ⟨rfl, hx4⟩)
      · gi_wp2
        go_roundw
        case rel => exact ⟨k + 1, by omega, by have := HI.out; go_num, by rw [vbits_succ]; exact hJ4, hb.trans hk4⟩
        case measure => simp [intOf] <;> omega
      · gi_wp2
        all_goals (try rw [Exit.noGoto_normal])
        all_goals go_end0
        all_goals exact ⟨⟨_, rfl⟩, .inr ⟨vbits v width (k + 1), ⟨k + 1, by omega, rfl⟩, by rw [vbits_succ]; exact hx4⟩⟩
    · obtain rfl : k = width := by omega
      have e0 : ((k : Int) - 1 - k) = -1 := by omega
      rw [e0]
      clear e0
      gi_wp2
      try rw [Exit.noGoto_normal]
      go_end0
      exact ⟨⟨_, rfl⟩, .inl ⟨_, rfl, hJk⟩⟩
end Go.Proofs.Ytofaghpflmeblaa
namespace Go.Proofs.Ytofaghpflmeblaa
open Go.RowKit Go.Shelf

attribute [local go_sem] Oper.semAt_some

theorem WS.congr {w : World} {g n : Nat} {bt bs : Nat → Bool} (h : WS w g bt n) (e : ∀ j, j < n → bt j = bs j) : WS w g bs n := by
  obtain ⟨v, h1, h2⟩ := h
  exact ⟨v, h1, by rw [← pkList_congr e]; exact h2⟩
theorem WS.own {β : Type} (g : Nat) (bt : β → Nat → Bool) (n : β → Nat) : Own (fun s W => WS W g (bt s) (n s)) := by
  rintro s X Y row ⟨v, hB, hr⟩ hg hrow
  refine ⟨v, hB.grown hg (fun e => ?_), hr.kept hg ?_⟩
  · obtain ⟨o, ho, hc⟩ := hrow g e.symm
    rw [show X.heap[g]? = _ from hB] at ho; cases ho; cases hc
  · rcases hr.2 with ⟨rfl, _⟩ | ⟨r, cap, cur, rfl, _, hgb, _⟩
    · exact .inl rfl
    · refine .inr fun e' => ?_
      obtain ⟨o, ho, hc⟩ := hrow r (by simpa [Value.ownBlock] using e'.symm)
      rw [hgb] at ho; cases ho; cases hc
theorem WS.lt {w : World} {g n : Nat} {bt : Nat → Bool} (h : WS w g bt n) : g < w.heap.size := by obtain ⟨v, h1, _⟩ := h; exact h1.lt
theorem KeepsNon.others {g n : Nat} {bt : Nat → Bool} {A B : World} (h : KeepsNon g A B) (hw : WS A g bt n) (hs : A.heap.size ≤ B.heap.size) : KeepsOthers A B :=
  ⟨hs, fun k o h1 h2 => h k o h1 (fun e => by obtain ⟨v, hB, _⟩ := hw; subst e; rw [show A.heap[k]? = _ from hB] at h1; cases h1; cases h2) (fun cs f e => by subst e; cases h2)⟩

/-- the bits bt 0, .., bt (n - 1), then those of pre -/
def over (bt : Nat → Bool) (n : Nat) (pre : List Bool) (j : Nat) : Bool := if j < n then bt j else pre.getD (j - n) false
theorem over_at (bt : Nat → Bool) (n : Nat) (pre : List Bool) (x : Bool) : over bt n (pre ++ [x]) (n + pre.length) = x := by
  unfold over; rw [if_neg (by omega), Nat.add_sub_cancel_left]; simp [List.getD]
theorem over_pre (bt : Nat → Bool) (n : Nat) (pre : List Bool) (x : Bool) (j : Nat) (h : j < n + pre.length) : over bt n pre j = over bt n (pre ++ [x]) j := by
  unfold over
  split
  · rfl
  · simp only [List.getD]
    rw [List.getElem?_append_left (by omega)]
theorem fbits_made (v width : Int) (w : World) :
    Calls Try.prog 110 #[.int .u64 v, .int .i64 width] w fun e w' => e = .returned (.func (.func 112) #[] #[.pointer (some ⟨w.heap.size + 1, 0, none⟩), .pointer (some ⟨w.heap.size, 0, none⟩)]) ∧ (w.alloc (.cells #[.int .u64 v] 122)).alloc (.cells #[.int .i64 width] 3) = w' := by
  go_enter Try.func110, Try.ntmps110
  go_wp2
  go_ret
  exact ⟨rfl, rfl⟩
def PutPost (g : Nat) (bt : Nat → Bool) (n : Nat) (w : World) (e : Ending) (w' : World) : Prop := e = .returned (.tuple #[]) ∧ WS w' g bt n ∧ Below g w w'

set_option maxRecDepth 100000 in
set_option maxHeartbeats 2000000 in
theorem put_ok (g : Nat) (bt : Nat → Bool) (n v width : Nat) (hv : v < 18446744073709551616) (hw : width ≤ 64) (hn : n ≤ 100000) (hbt : ∀ k, k < width → bt (n + k) = vbit v width k) (w : World) (h : WS w g bt n) :
    Calls Try.prog 109 #[.pointer (some ⟨g, 0, none⟩), .int .u64 (v : Int), .int .i64 (width : Int)] w (PutPost g bt (n + width) w) := by
  have HBT := Lib.hid hbt
  clear hbt
  refine (callsIn_wide (n := 8)).1 ?_
  refine callsIn_of_wp_marks Try.func109 rfl trivial ?_ rfl
  simp only [Try.ntmps109, List.size_toArray, List.length_cons, List.length_nil, Nat.reduceAdd, Nat.reduceSub, Array.replicate_succ, Array.replicate_zero, List.push_toArray, List.append_toArray, List.nil_append, List.cons_append]
  gi_wp2_with (refine ⟨trivial, ?_⟩; gi_at_call 110; refine (callsIn_wide.2 (fbits_made _ _ _)).mono ?_; rintro e w3 ⟨rfl, rfl⟩)
  obtain ⟨W, hW⟩ : ∃ W, W = ((w.alloc (.cells #[.pointer (some ⟨g, 0, none⟩)] 165)).alloc (.cells #[.int .u64 (v : Int)] 122)).alloc (.cells #[.int .i64 (width : Int)] 3) := ⟨_, rfl⟩
  have hg := h.lt
  have b0 : Below w.heap.size w W := by rw [hW]; exact (((Below.refl _ w).alloc (Nat.le_refl _) _).alloc (by simp) _).alloc (by simp; omega) _
  have z0 : W.heap.size = w.heap.size + 3 := by rw [hW]; simp
  have P0 : Boxed W w.heap.size 165 (.pointer (some ⟨g, 0, none⟩)) := by rw [hW]; exact ((Boxed.new w _ _).alloc _).alloc _
  have V0 : Blk W (w.heap.size + 1) 122 #[.int .u64 (v : Int)] := by
    rw [hW]
    have := Blk.new (w.alloc (.cells #[.pointer (some ⟨g, 0, none⟩)] 165)) 122 #[.int .u64 (v : Int)]
    rw [World.size_alloc] at this
    exact this.alloc _
  have T0 : Blk W (w.heap.size + 2) 3 #[.int .i64 (width : Int)] := by
    rw [hW]
    have := Blk.new ((w.alloc (.cells #[.pointer (some ⟨g, 0, none⟩)] 165)).alloc (.cells #[.int .u64 (v : Int)] 122)) 3 #[.int .i64 (width : Int)]
    rw [World.size_alloc, World.size_alloc] at this
    exact this
  have S0 : WS W g bt n := by
    rw [hW]
    exact (WS.own (β := Unit) g (fun _ => bt) (fun _ => n)).alloc (s := ()) _ ((WS.own (β := Unit) g (fun _ => bt) (fun _ => n)).alloc (s := ()) _ ((WS.own (β := Unit) g (fun _ => bt) (fun _ => n)).alloc (s := ()) _ h))
  rw [← hW]
  clear hW
  refine wpIn_rangeFunc_ownF rfl (by decide) (gf := 112) (lb := #[.pointer (some ⟨w.heap.size + 1 + 1, 0, none⟩), .pointer (some ⟨w.heap.size + 1, 0, none⟩)]) rfl trivial (enters_of Try.func112 (by kernel_rfl) rfl)
    (fbits_stops v width hv hw (w.heap.size + 2) (w.heap.size + 1) 7 W T0 V0 (by decide)) KeepTwo.trans (keepTwo_b T0.lt V0.lt) (Below.refl _ _) (fun _ => rfl)
    (fun pre U => (WS U g (over bt n pre) (n + pre.length) ∧ Boxed U w.heap.size 165 (.pointer (some ⟨g, 0, none⟩)) ∧ Boxed U (w.heap.size + 1) 122 (.int .u64 (v : Int)) ∧ Boxed U (w.heap.size + 2) 3 (.int .i64 (width : Int))) ∧ Below g W U)
    (fun c pre U => False)
    (OwnFrom.and (OwnFrom.and (Own.from (WS.own g (fun pre => over bt n pre) (fun pre => n + pre.length)) _) (OwnFrom.and (Own.from (boxed_own w.heap.size 165 (fun _ => .pointer (some ⟨g, 0, none⟩))) _) (OwnFrom.and (Own.from (boxed_own (w.heap.size + 1) 122 (fun _ => .int .u64 (v : Int))) _) (Own.from (boxed_own (w.heap.size + 2) 3 (fun _ => .int .i64 (width : Int))) _)))) (ownFrom_below (by omega) (by omega)))
    (fun c s A B row hs hg hr => hs)
    ⟨⟨S0.congr (fun j hj => by unfold over; rw [if_pos (by simpa using hj)]), P0, V0, T0⟩, Below.refl _ _⟩
    ?a1 ?assign ?body ?done ?stop
  case assign =>
    intro l x U K hK
    gi_wp2
    exact hK
  case body =>
    rintro l pre x U ⟨⟨hS, hP, hV9, hT9⟩, hBU⟩ hlen
    have hc := hP.cell
    have HA := Lib.hid (add_ok g (over bt n (pre ++ [x])) (n + pre.length) x (bi x) rfl (over_at bt n pre x) (by omega) U (hS.congr (over_pre bt n pre x)))
    have hlt := hP.lt
    gi_wp2_with (refine ⟨trivial, ?_⟩; gi_at_call 111; refine (CallsIn.inRound l (callsIn_wide.2 HA.out)).mono ?_; rintro e U2 ⟨rfl, hS2, hB2, hk2⟩)
    have hP2 := hk2.blk (b := w.heap.size) hP (by omega) (by decide)
    have hV2 := hk2.blk (b := w.heap.size + 1) hV9 (by omega) (by decide)
    have hT2 := hk2.blk (b := w.heap.size + 2) hT9 (by omega) (by decide)
    exact ⟨hk2.others hS (by have := hB2.size; omega), ⟨hT2.trans (show U.heap[w.heap.size + 2]? = _ from hT9).symm, hV2.trans (show U.heap[w.heap.size + 1]? = _ from hV9).symm⟩, ⟨by rw [List.length_append, List.length_singleton, ← Nat.add_assoc]; exact hS2, hP2, hV2, hT2⟩, hBU.trans hB2⟩
  case stop =>
    rintro D c pre U _ _ h _
    exact h.elim
  case done =>
    rintro D xs U hD rfl ⟨⟨hS, hP, hV9, hT9⟩, hBU⟩ hK
    gi_wp2
    refine ⟨by simp, .inl ⟨_, _, rfl, run_takeDeferred hK, ?_⟩⟩
    refine ⟨.tuple #[], results_none rfl _ _ _, rfl, ?_, ?_⟩
    · rw [vbits_len] at hS
      refine WS.congr ((WS.own (β := Unit) g (fun _ => over bt n (vbits v width width)) (fun _ => n + width)).putObj (s := ()) _ hS hK rfl) (fun j hj => ?_)
      show over bt n (vbits v width width) j = bt j
      unfold over
      split
      · rfl
      · have h1 := HBT.out (j - n) (by have : j < n + width := hj; omega)
        rw [show n + (j - n) = j by omega] at h1
        have hj2 : j - n < width := by have : j < n + width := hj; omega
        rw [h1]; simp [vbits, List.getD, hj2]
    · exact ((b0.mono (Nat.le_of_lt hg)).trans hBU).grown (grownBy_putObj' _ D _) (by have := hBU.size; omega) (fun k e => by cases e; omega)
end Go.Proofs.Ytofaghpflmeblaa
namespace Go.Proofs.Ytofaghpflmeblaa
open Go.RowKit

theorem div_pow_zero (v width : Nat) (h : v < 2 ^ width) : (v : Int) / 2 ^ width = 0 := by
  have : ((v / 2 ^ width : Nat) : Int) = 0 := by rw [Nat.div_eq_of_lt h]; rfl
  simpa using this

theorem grown_of_below {a w : World} (h : Below a.heap.size a w) (row : Option Nat) : a.grownBy w row := ⟨h.os, h.tape, h.output, h.size, fun i hi _ => h.block i hi⟩
theorem WS.below {w w' : World} {g n : Nat} {bt : Nat → Bool} (h : WS w g bt n) (hb : Below w.heap.size w w') : WS w' g bt n :=
  (WS.own (β := Unit) g (fun _ => bt) (fun _ => n)) () w w' none h (grown_of_below hb none) (fun r e => by cases e)
theorem WS.alloc {w : World} {g n : Nat} {bt : Nat → Bool} (h : WS w g bt n) (o : Obj) : WS (w.alloc o) g bt n := h.below ((Below.refl _ w).alloc (Nat.le_refl _) o)
theorem WS.drew {w : World} {g n : Nat} {bt : Nat → Bool} (h : WS w g bt n) : WS w.drew g bt n := h
theorem check_ok (v width : Nat) (hw : width < 64) (h : v < 2 ^ width) (w : World) :
    Calls Try.prog 108 #[.agg #[.int .u64 (v : Int), .int .i64 (width : Int)]] w fun e w' => e = .returned (.int .i64 0) ∧ Below w.heap.size w w' := by
  have hz := div_pow_zero v width h
  have hmin : min width 64 = width := by omega
  go_enter Try.func108, Try.ntmps108
  go_wp2
  go_ret
  exact ⟨rfl, (Below.refl _ _).alloc (Nat.le_refl _) _⟩

set_option maxRecDepth 100000 in
set_option maxHeartbeats 1600000 in
theorem putAll_ok (g fb : Nat) (bt : Nat → Bool) (n v width : Nat) (hw : width < 64) (hv : v < 2 ^ width) (hn : n ≤ 100000) (hbt : ∀ k, k < width → bt (n + k) = vbit v width k) (w : World) (h : WS w g bt n) (hf : Blk w fb 168 #[.int .u64 (v : Int), .int .i64 (width : Int)]) :
    Calls Try.prog 106 #[.pointer (some ⟨g, 0, none⟩), .slice (some ⟨fb, 0, none⟩) 1 1] w fun e w' => e = .returned (.int .i64 0) ∧ WS w' g bt (n + width) ∧ Below g w w' := by
  have hv64 : v < 18446744073709551616 := Nat.lt_of_lt_of_le hv (Nat.le_trans (Nat.pow_le_pow_right (by decide) (by omega : width ≤ 64)) (by decide))
  have HS := Lib.hid h
  have HBT := Lib.hid hbt
  have HF := Lib.hid hf
  have HV := Lib.hid hv
  have HV64 := Lib.hid hv64
  have c0 : w.cell? ⟨fb, 0, none⟩ = some (.int .u64 (v : Int)) := hf.cell 0
  have c1 : w.cell? ⟨fb, 1, none⟩ = some (.int .i64 (width : Int)) := hf.cell 1
  have hlt := hf.lt
  have hgl := h.lt
  clear h hbt hv hv64 hf
  go_enter Try.func106, Try.ntmps106
  go_wp2
  refine wp_loop_rounds 2 ?_
  rw [rounds_succ]
  go_wp2_with (go_at_call 108; refine (check_ok v width hw HV.out _).mono ?_; rintro e w1 ⟨rfl, hb1⟩)
  have hb1' : Below w.heap.size w w1 := ((Below.refl _ w).alloc (Nat.le_refl _) _).trans (hb1.mono (by simp))
  have q0 : w1.cell? ⟨fb, 0, none⟩ = some (.int .u64 (v : Int)) := (hb1'.cell (p := ⟨fb, 0, none⟩) hlt).trans (HF.out.cell 0)
  have q1 : w1.cell? ⟨fb, 1, none⟩ = some (.int .i64 (width : Int)) := (hb1'.cell (p := ⟨fb, 1, none⟩) hlt).trans (HF.out.cell 1)
  have HS1 := Lib.hid (HS.out.below hb1')
  have HB1 := Lib.hid hb1'
  clear c0 c1 hb1 hb1'
  rw [rounds_succ]
  go_wp2
  refine wp_loop_rounds 2 ?_
  rw [rounds_succ]
  go_wp2_with (go_at_call 109; refine (put_ok g bt n v width HV64.out (by omega) hn HBT.out _ (HS1.out.alloc _)).mono ?_; rintro e w2 ⟨rfl, hS2, hb2⟩)
  rw [rounds_succ]
  go_wp2
  go_ret
  exact ⟨rfl, hS2, ((HB1.out.mono (Nat.le_of_lt hgl)).alloc (by have := HB1.out.size; omega) _).trans hb2⟩

def PutEnd (g : Nat) (bt : Nat → Bool) (n : Nat) (w : World) (e : Ending) (w' : World) : Prop := e = .returned (.int .i64 0) ∧ WS w' g bt n ∧ Below g w w'
set_option maxRecDepth 100000 in
set_option maxHeartbeats 800000 in
theorem Put_ok (g : Nat) (bt : Nat → Bool) (n v width : Nat) (hw : width < 64) (hv : v < 2 ^ width) (hn : n ≤ 100000) (hbt : ∀ k, k < width → bt (n + k) = vbit v width k) (w : World) (h : WS w g bt n) :
    Calls Try.prog 100 #[.pointer (some ⟨g, 0, none⟩), .int .u64 (v : Int), .int .i64 (width : Int)] w (PutEnd g bt (n + width) w) := by
  have HS := Lib.hid h
  have HBT := Lib.hid hbt
  have HV := Lib.hid hv
  have hgl := h.lt
  clear h hbt hv
  go_enter Try.func100, Try.ntmps100
  go_wp2_with (go_at_call 106; refine (putAll_ok g w.heap.size bt n v width hw HV.out hn HBT.out _ (HS.out.alloc _) (Blk.new _ _ _)).mono ?_; rintro e w1 ⟨rfl, hS1, hb1⟩)
  go_ret
  exact ⟨rfl, hS1, ((Below.refl g w).alloc (Nat.le_of_lt hgl) _).trans hb1⟩

set_option maxRecDepth 100000 in
set_option maxHeartbeats 800000 in
theorem Bytes_ok (g : Nat) (bt : Nat → Bool) (n : Nat) (hn : n ≤ 100000) (w : World) (h : WS w g bt n) :
    Calls Try.prog 101 #[.pointer (some ⟨g, 0, none⟩)] w fun e w' => ∃ A c, e = .returned (.slice A ((n + 7) / 8) c) ∧ (n + 7) / 8 ≤ c ∧ w'.ownsRow w.heap.size 5 1 (.slice A ((n + 7) / 8) c) ((n + 7) / 8) ((List.range ((n + 7) / 8)).map (fun j => .int .u8 ((HM.pk bt n j : Nat) : Int))) ∧ Below w.heap.size w w' := by
  obtain ⟨v, hB, hown⟩ := h
  obtain ⟨A, cap, rfl, _, _, _, hr⟩ := own_any (f := fun j => .int .u8 ((HM.pk bt n j : Nat) : Int)) hown (fun j hj => pkList_at _ _ _ _ hj)
  have c0 : w.cell? ⟨g, 0, none⟩ = some (.slice A ((n + 7) / 8) cap) := hB.cell 0
  have HR := Lib.hid (clone_own A ((n + 7) / 8) cap (fun j => ((HM.pk bt n j : Nat) : Int)) w (by omega) hr)
  clear hown hr hB
  go_enter Try.func101, Try.ntmps101
  go_wp2_with (go_at_call 59; refine (HR.out).mono ?_; rintro e w1 ⟨A2, c2, rfl, hc2, hR, hb⟩; have HC2 := Lib.hid hc2; clear hc2)
  go_ret
  exact ⟨A2, c2, rfl, HC2.out, hR, hb⟩
end Go.Proofs.Ytofaghpflmeblaa
namespace Go.Proofs.Ytofaghpflmeblaa
open Go.RowKit

def str (l : List Nat) : Value := .string ⟨(l.map UInt8.ofNat).toArray⟩
/-- the table, whose first entry's closure holds the address of the variable fixed -/
def partsArr (b : Nat) : Array Value := #[
  str [118, 101, 114, 115, 105, 111, 110], .int .i64 4, .func (.func 84) #[] #[.pointer (some ⟨b, 0, none⟩)],
  str [99, 108, 97, 115, 115], .int .i64 4, .func (.func 85) #[] #[],
  str [102, 108, 111, 119], .int .i64 16, .func (.func 86) #[] #[],
  str [115, 111, 117, 114, 99, 101], .int .i64 32, .func (.func 87) #[] #[],
  str [100, 101, 115, 116], .int .i64 32, .func (.func 88) #[] #[],
  str [112, 114, 111, 116, 111], .int .i64 8, .func (.func 89) #[] #[],
  str [104, 111, 112, 115], .int .i64 8, .func (.func 90) #[] #[],
  str [105, 100, 101, 110, 116], .int .i64 16, .func (.func 91) #[] #[],
  str [116, 105, 109, 101], .int .i64 24, .func (.func 92) #[] #[],
  str [108, 101, 110, 103, 116, 104], .int .i64 16, .func (.func 93) #[] #[]]

theorem Blk.setRow {w : World} {g : Nat} {t : TypeId} {cs ds : Array Value} (h : Blk w g t cs) : Blk (w.setRow g ds) g t ds := setRow_heap w g cs ds t (0, 0) h
theorem Blk.farRow {w : World} {g k : Nat} {t : TypeId} {cs ds : Array Value} (h : Blk w g t cs) (hne : g ≠ k) : Blk (w.setRow k ds) g t cs := (setRow_other w k g ds hne).trans h
theorem belowRow {b : Nat} {w0 w : World} (h : Below b w0 w) {g : Nat} (hg : b ≤ g) (cs : Array Value) : Below b w0 (w.setRow g cs) :=
  ⟨h.os, h.tape, h.output, by rw [size_setRow]; exact h.size, fun i hi => (setRow_other w g i cs (by omega)).trans (h.block i hi)⟩
theorem sizeParts : (Try.prog.info? 126).map (·.size) = some 30 := by kernel_rfl

set_option maxRecDepth 100000 in
set_option maxHeartbeats 1600000 in
theorem parts_ok (w : World) :
    Calls Try.prog 68 #[] w fun e w' => e = .returned (.agg (partsArr (w.heap.size + 1))) ∧ Blk w' (w.heap.size + 1) 3 #[.int .i64 5] ∧ Below w.heap.size w w' := by
  go_enter Try.func68, Try.ntmps68
  go_wp2_with (refine wpList_store_row rfl _ _ _ rfl w.heap.size (partsArr (w.heap.size + 1)) rfl rfl 126 _ ((Below.heap_alloc _ _ _ (by simp)).trans (World.alloc_heap_new w _)) sizeParts rfl (by kernel_rfl) ?_)
  have B0 : Blk ((w.alloc (.cells #[.string ⟨#[]⟩, .int .i64 0, .nilFunc, .string ⟨#[]⟩, .int .i64 0, .nilFunc, .string ⟨#[]⟩, .int .i64 0, .nilFunc, .string ⟨#[]⟩, .int .i64 0, .nilFunc, .string ⟨#[]⟩, .int .i64 0, .nilFunc, .string ⟨#[]⟩, .int .i64 0, .nilFunc, .string ⟨#[]⟩, .int .i64 0, .nilFunc, .string ⟨#[]⟩, .int .i64 0, .nilFunc, .string ⟨#[]⟩, .int .i64 0, .nilFunc, .string ⟨#[]⟩, .int .i64 0, .nilFunc] 126)).alloc (.cells #[.int .i64 5] 3)) w.heap.size 126 _ := (Blk.new w _ _).alloc _
  have B1 := Blk.new (w.alloc (.cells #[.string ⟨#[]⟩, .int .i64 0, .nilFunc, .string ⟨#[]⟩, .int .i64 0, .nilFunc, .string ⟨#[]⟩, .int .i64 0, .nilFunc, .string ⟨#[]⟩, .int .i64 0, .nilFunc, .string ⟨#[]⟩, .int .i64 0, .nilFunc, .string ⟨#[]⟩, .int .i64 0, .nilFunc, .string ⟨#[]⟩, .int .i64 0, .nilFunc, .string ⟨#[]⟩, .int .i64 0, .nilFunc, .string ⟨#[]⟩, .int .i64 0, .nilFunc, .string ⟨#[]⟩, .int .i64 0, .nilFunc] 126)) 3 #[.int .i64 5]
  rw [World.size_alloc] at B1
  refine bodyPost_ret (v := .agg (partsArr (w.heap.size + 1))) (results_cell_row (g := w.heap.size) (t := 126) (fr := (0, 0)) Try.results68 _ _ _ _ rfl (B0.setRow (ds := partsArr (w.heap.size + 1))) Try.underlying126 rfl sizeParts) rfl ⟨rfl, B1.farRow (by simp), ?_⟩
  exact belowRow (((Below.refl _ w).alloc (Nat.le_refl _) _).alloc (by simp) _) (Nat.le_refl _) _
end Go.Proofs.Ytofaghpflmeblaa
namespace Go.Proofs.Ytofaghpflmeblaa
open Go.RowKit

/-- name, width and pointer function of field k -/
def pname : Nat → Value
  | 0 => str [118, 101, 114, 115, 105, 111, 110]
  | 1 => str [99, 108, 97, 115, 115]
  | 2 => str [102, 108, 111, 119]
  | 3 => str [115, 111, 117, 114, 99, 101]
  | 4 => str [100, 101, 115, 116]
  | 5 => str [112, 114, 111, 116, 111]
  | 6 => str [104, 111, 112, 115]
  | 7 => str [105, 100, 101, 110, 116]
  | 8 => str [116, 105, 109, 101]
  | 9 => str [108, 101, 110, 103, 116, 104]
  | _ => .nilFunc
def pwd : Nat → Nat
  | 0 => 4
  | 1 => 4
  | 2 => 16
  | 3 => 32
  | 4 => 32
  | 5 => 8
  | 6 => 8
  | 7 => 16
  | 8 => 24
  | 9 => 16
  | _ => 0
def pfn (b : Nat) : Nat → Value
  | 0 => .func (.func 84) #[] #[.pointer (some ⟨b, 0, none⟩)]
  | 1 => .func (.func 85) #[] #[]
  | 2 => .func (.func 86) #[] #[]
  | 3 => .func (.func 87) #[] #[]
  | 4 => .func (.func 88) #[] #[]
  | 5 => .func (.func 89) #[] #[]
  | 6 => .func (.func 90) #[] #[]
  | 7 => .func (.func 91) #[] #[]
  | 8 => .func (.func 92) #[] #[]
  | 9 => .func (.func 93) #[] #[]
  | _ => .nilFunc
theorem ten {p : Nat → Prop} (h0 : p 0) (h1 : p 1) (h2 : p 2) (h3 : p 3) (h4 : p 4) (h5 : p 5) (h6 : p 6) (h7 : p 7) (h8 : p 8) (h9 : p 9) (k : Nat) (hk : k < 10) : p k := by
  match k, hk with
  | 0, _ => exact h0
  | 1, _ => exact h1
  | 2, _ => exact h2
  | 3, _ => exact h3
  | 4, _ => exact h4
  | 5, _ => exact h5
  | 6, _ => exact h6
  | 7, _ => exact h7
  | 8, _ => exact h8
  | 9, _ => exact h9
theorem parts_at (b k : Nat) (hk : k < 10) : (partsArr b)[3 * k]? = some (pname k) ∧ (partsArr b)[3 * k + 1]? = some (.int .i64 (pwd k : Int)) ∧ (partsArr b)[3 * k + 2]? = some (pfn b k) :=
  ten (p := fun k => (partsArr b)[3 * k]? = some (pname k) ∧ (partsArr b)[3 * k + 1]? = some (.int .i64 (pwd k : Int)) ∧ (partsArr b)[3 * k + 2]? = some (pfn b k)) ⟨rfl, rfl, rfl⟩ ⟨rfl, rfl, rfl⟩ ⟨rfl, rfl, rfl⟩ ⟨rfl, rfl, rfl⟩ ⟨rfl, rfl, rfl⟩ ⟨rfl, rfl, rfl⟩ ⟨rfl, rfl, rfl⟩ ⟨rfl, rfl, rfl⟩ ⟨rfl, rfl, rfl⟩ ⟨rfl, rfl, rfl⟩ k hk

/-- the cells of a header value -/
def hdr (h : Nat → Int) : Array Value := #[.int .i64 (h 0), .int .i64 (h 1), .int .i64 (h 2), .int .i64 (h 3), .int .i64 (h 4), .int .i64 (h 5), .int .i64 (h 6), .int .i64 (h 7), .int .i64 (h 8)]
theorem hdr_at (h : Nat → Int) (j : Nat) (hj : j < 9) : (hdr h)[j]? = some (.int .i64 (h j)) := by
  match j, hj with
  | 0, _ => rfl
  | 1, _ => rfl
  | 2, _ => rfl
  | 3, _ => rfl
  | 4, _ => rfl
  | 5, _ => rfl
  | 6, _ => rfl
  | 7, _ => rfl
  | 8, _ => rfl
/-- the value of field k, the version included -/
def hval (h : Nat → Int) (k : Nat) : Int := if k = 0 then 5 else h (k - 1)
/-- where it lies -/
def hat (b hb : Nat) (k : Nat) : Addr := if k = 0 then ⟨b, 0, none⟩ else ⟨hb, k - 1, none⟩
theorem at_0 (b hb : Nat) (w : World) : Calls Try.prog 84 #[.pointer (some ⟨hb, 0, none⟩), .pointer (some ⟨b, 0, none⟩)] w fun e w' => e = .returned (.pointer (some ⟨b, 0, none⟩)) ∧ w' = w := by
  go_enter Try.func84, Try.ntmps84
  go_wp2
  go_ret
  exact ⟨rfl, rfl⟩
theorem at_1 (hb : Nat) (w : World) : Calls Try.prog 85 #[.pointer (some ⟨hb, 0, none⟩)] w fun e w' => e = .returned (.pointer (some ⟨hb, 0, none⟩)) ∧ w' = w := by
  go_enter Try.func85, Try.ntmps85
  go_wp2
  go_ret
  exact ⟨rfl, rfl⟩
theorem at_2 (hb : Nat) (w : World) : Calls Try.prog 86 #[.pointer (some ⟨hb, 0, none⟩)] w fun e w' => e = .returned (.pointer (some ⟨hb, 1, none⟩)) ∧ w' = w := by
  go_enter Try.func86, Try.ntmps86
  go_wp2
  go_ret
  exact ⟨rfl, rfl⟩
theorem at_3 (hb : Nat) (w : World) : Calls Try.prog 87 #[.pointer (some ⟨hb, 0, none⟩)] w fun e w' => e = .returned (.pointer (some ⟨hb, 2, none⟩)) ∧ w' = w := by
  go_enter Try.func87, Try.ntmps87
  go_wp2
  go_ret
  exact ⟨rfl, rfl⟩
theorem at_4 (hb : Nat) (w : World) : Calls Try.prog 88 #[.pointer (some ⟨hb, 0, none⟩)] w fun e w' => e = .returned (.pointer (some ⟨hb, 3, none⟩)) ∧ w' = w := by
  go_enter Try.func88, Try.ntmps88
  go_wp2
  go_ret
  exact ⟨rfl, rfl⟩
theorem at_5 (hb : Nat) (w : World) : Calls Try.prog 89 #[.pointer (some ⟨hb, 0, none⟩)] w fun e w' => e = .returned (.pointer (some ⟨hb, 4, none⟩)) ∧ w' = w := by
  go_enter Try.func89, Try.ntmps89
  go_wp2
  go_ret
  exact ⟨rfl, rfl⟩
theorem at_6 (hb : Nat) (w : World) : Calls Try.prog 90 #[.pointer (some ⟨hb, 0, none⟩)] w fun e w' => e = .returned (.pointer (some ⟨hb, 5, none⟩)) ∧ w' = w := by
  go_enter Try.func90, Try.ntmps90
  go_wp2
  go_ret
  exact ⟨rfl, rfl⟩
theorem at_7 (hb : Nat) (w : World) : Calls Try.prog 91 #[.pointer (some ⟨hb, 0, none⟩)] w fun e w' => e = .returned (.pointer (some ⟨hb, 6, none⟩)) ∧ w' = w := by
  go_enter Try.func91, Try.ntmps91
  go_wp2
  go_ret
  exact ⟨rfl, rfl⟩
theorem at_8 (hb : Nat) (w : World) : Calls Try.prog 92 #[.pointer (some ⟨hb, 0, none⟩)] w fun e w' => e = .returned (.pointer (some ⟨hb, 7, none⟩)) ∧ w' = w := by
  go_enter Try.func92, Try.ntmps92
  go_wp2
  go_ret
  exact ⟨rfl, rfl⟩
theorem at_9 (hb : Nat) (w : World) : Calls Try.prog 93 #[.pointer (some ⟨hb, 0, none⟩)] w fun e w' => e = .returned (.pointer (some ⟨hb, 8, none⟩)) ∧ w' = w := by
  go_enter Try.func93, Try.ntmps93
  go_wp2
  go_ret
  exact ⟨rfl, rfl⟩
/-- does a field not fit? -/
def wrongB (v : Int) (w : Nat) : Bool := decide (v < 0) || decide (0 < v / 2 ^ w)

set_option maxRecDepth 100000 in
set_option maxHeartbeats 4000000 in
theorem wrong_ok (b hb k : Nat) (hk : k < 10) (h : Nat → Int) (w : World) (hB : Blk w b 3 #[.int .i64 5]) (hH : Blk w hb 36 (hdr h)) :
    Calls Try.prog 104 #[.agg #[pname k, .int .i64 (pwd k : Int), pfn b k], .pointer (some ⟨hb, 0, none⟩)] w fun e w' => e = .returned (.bool (wrongB (hval h k) (pwd k))) ∧ Below w.heap.size w w' := by
  revert k
  refine ten ?_ ?_ ?_ ?_ ?_ ?_ ?_ ?_ ?_ ?_
  · have c : w.cell? ⟨b, 0, none⟩ = some (.int .i64 5) := hB.cell 0
    have hlt : hb < w.heap.size := hH.lt
    have hlt2 : b < w.heap.size := hB.lt
    have e : wrongB (hval h 0) (pwd 0) = false := by show wrongB 5 4 = false; decide
    rw [e]
    show Calls Try.prog _ #[.agg #[str [118, 101, 114, 115, 105, 111, 110], .int .i64 4, .func (.func 84) #[] #[.pointer (some ⟨b, 0, none⟩)]], .pointer (some ⟨hb, 0, none⟩)] w _
    unfold str
    go_enter Try.func104, Try.ntmps104
    go_wp2
    go_quiet ((go_at_call 84; exact Calls.quiet_of_same (at_0 b hb _)))
    go_wp2
    go_ret
    exact ⟨rfl, below_drewN ((Below.refl _ w).alloc (Nat.le_refl _) _) _⟩
  · have c : w.cell? ⟨hb, 0, none⟩ = some (.int .i64 (h 0)) := hH.cell 0
    have hlt : hb < w.heap.size := hH.lt
    have hlt2 : b < w.heap.size := hB.lt
    by_cases hneg : h 0 < 0
    · have e : wrongB (hval h 1) (pwd 1) = true := by simp [wrongB, hval, hneg]
      rw [e]
      show Calls Try.prog _ #[.agg #[str [99, 108, 97, 115, 115], .int .i64 4, .func (.func 85) #[] #[]], .pointer (some ⟨hb, 0, none⟩)] w _
      unfold str
      have hn2 : decide (h 0 < 0) = true := by simpa using hneg
      go_enter Try.func104, Try.ntmps104
      go_wp2
      go_quiet ((go_at_call 85; exact Calls.quiet_of_same (at_1 hb _)))
      go_wp2
      go_ret
      exact ⟨rfl, below_drewN ((Below.refl _ w).alloc (Nat.le_refl _) _) _⟩
    · have e : wrongB (hval h 1) (pwd 1) = decide (0 < h 0 / 16) := by
        show (decide (h 0 < 0) || decide (0 < h 0 / 2 ^ 4)) = _
        simp [hneg]
      rw [e]
      show Calls Try.prog _ #[.agg #[str [99, 108, 97, 115, 115], .int .i64 4, .func (.func 85) #[] #[]], .pointer (some ⟨hb, 0, none⟩)] w _
      unfold str
      have hn2 : decide (h 0 < 0) = false := by simpa using hneg
      have hnn : 0 ≤ h 0 := by omega
      go_enter Try.func104, Try.ntmps104
      go_wp2
      go_quiet ((go_at_call 85; exact Calls.quiet_of_same (at_1 hb _)))
      go_wp2
      go_ret
      exact ⟨ret_bool (by simp), below_drewN ((Below.refl _ w).alloc (Nat.le_refl _) _) _⟩
  · have c : w.cell? ⟨hb, 1, none⟩ = some (.int .i64 (h 1)) := hH.cell 1
    have hlt : hb < w.heap.size := hH.lt
    have hlt2 : b < w.heap.size := hB.lt
    by_cases hneg : h 1 < 0
    · have e : wrongB (hval h 2) (pwd 2) = true := by simp [wrongB, hval, hneg]
      rw [e]
      show Calls Try.prog _ #[.agg #[str [102, 108, 111, 119], .int .i64 16, .func (.func 86) #[] #[]], .pointer (some ⟨hb, 0, none⟩)] w _
      unfold str
      have hn2 : decide (h 1 < 0) = true := by simpa using hneg
      go_enter Try.func104, Try.ntmps104
      go_wp2
      go_quiet ((go_at_call 86; exact Calls.quiet_of_same (at_2 hb _)))
      go_wp2
      go_ret
      exact ⟨rfl, below_drewN ((Below.refl _ w).alloc (Nat.le_refl _) _) _⟩
    · have e : wrongB (hval h 2) (pwd 2) = decide (0 < h 1 / 65536) := by
        show (decide (h 1 < 0) || decide (0 < h 1 / 2 ^ 16)) = _
        simp [hneg]
      rw [e]
      show Calls Try.prog _ #[.agg #[str [102, 108, 111, 119], .int .i64 16, .func (.func 86) #[] #[]], .pointer (some ⟨hb, 0, none⟩)] w _
      unfold str
      have hn2 : decide (h 1 < 0) = false := by simpa using hneg
      have hnn : 0 ≤ h 1 := by omega
      go_enter Try.func104, Try.ntmps104
      go_wp2
      go_quiet ((go_at_call 86; exact Calls.quiet_of_same (at_2 hb _)))
      go_wp2
      go_ret
      exact ⟨ret_bool (by simp), below_drewN ((Below.refl _ w).alloc (Nat.le_refl _) _) _⟩
  · have c : w.cell? ⟨hb, 2, none⟩ = some (.int .i64 (h 2)) := hH.cell 2
    have hlt : hb < w.heap.size := hH.lt
    have hlt2 : b < w.heap.size := hB.lt
    by_cases hneg : h 2 < 0
    · have e : wrongB (hval h 3) (pwd 3) = true := by simp [wrongB, hval, hneg]
      rw [e]
      show Calls Try.prog _ #[.agg #[str [115, 111, 117, 114, 99, 101], .int .i64 32, .func (.func 87) #[] #[]], .pointer (some ⟨hb, 0, none⟩)] w _
      unfold str
      have hn2 : decide (h 2 < 0) = true := by simpa using hneg
      go_enter Try.func104, Try.ntmps104
      go_wp2
      go_quiet ((go_at_call 87; exact Calls.quiet_of_same (at_3 hb _)))
      go_wp2
      go_ret
      exact ⟨rfl, below_drewN ((Below.refl _ w).alloc (Nat.le_refl _) _) _⟩
    · have e : wrongB (hval h 3) (pwd 3) = decide (0 < h 2 / 4294967296) := by
        show (decide (h 2 < 0) || decide (0 < h 2 / 2 ^ 32)) = _
        simp [hneg]
      rw [e]
      show Calls Try.prog _ #[.agg #[str [115, 111, 117, 114, 99, 101], .int .i64 32, .func (.func 87) #[] #[]], .pointer (some ⟨hb, 0, none⟩)] w _
      unfold str
      have hn2 : decide (h 2 < 0) = false := by simpa using hneg
      have hnn : 0 ≤ h 2 := by omega
      go_enter Try.func104, Try.ntmps104
      go_wp2
      go_quiet ((go_at_call 87; exact Calls.quiet_of_same (at_3 hb _)))
      go_wp2
      go_ret
      exact ⟨ret_bool (by simp), below_drewN ((Below.refl _ w).alloc (Nat.le_refl _) _) _⟩
  · have c : w.cell? ⟨hb, 3, none⟩ = some (.int .i64 (h 3)) := hH.cell 3
    have hlt : hb < w.heap.size := hH.lt
    have hlt2 : b < w.heap.size := hB.lt
    by_cases hneg : h 3 < 0
    · have e : wrongB (hval h 4) (pwd 4) = true := by simp [wrongB, hval, hneg]
      rw [e]
      show Calls Try.prog _ #[.agg #[str [100, 101, 115, 116], .int .i64 32, .func (.func 88) #[] #[]], .pointer (some ⟨hb, 0, none⟩)] w _
      unfold str
      have hn2 : decide (h 3 < 0) = true := by simpa using hneg
      go_enter Try.func104, Try.ntmps104
      go_wp2
      go_quiet ((go_at_call 88; exact Calls.quiet_of_same (at_4 hb _)))
      go_wp2
      go_ret
      exact ⟨rfl, below_drewN ((Below.refl _ w).alloc (Nat.le_refl _) _) _⟩
    · have e : wrongB (hval h 4) (pwd 4) = decide (0 < h 3 / 4294967296) := by
        show (decide (h 3 < 0) || decide (0 < h 3 / 2 ^ 32)) = _
        simp [hneg]
      rw [e]
      show Calls Try.prog _ #[.agg #[str [100, 101, 115, 116], .int .i64 32, .func (.func 88) #[] #[]], .pointer (some ⟨hb, 0, none⟩)] w _
      unfold str
      have hn2 : decide (h 3 < 0) = false := by simpa using hneg
      have hnn : 0 ≤ h 3 := by omega
      go_enter Try.func104, Try.ntmps104
      go_wp2
      go_quiet ((go_at_call 88; exact Calls.quiet_of_same (at_4 hb _)))
      go_wp2
      go_ret
      exact ⟨ret_bool (by simp), below_drewN ((Below.refl _ w).alloc (Nat.le_refl _) _) _⟩
  · have c : w.cell? ⟨hb, 4, none⟩ = some (.int .i64 (h 4)) := hH.cell 4
    have hlt : hb < w.heap.size := hH.lt
    have hlt2 : b < w.heap.size := hB.lt
    by_cases hneg : h 4 < 0
    · have e : wrongB (hval h 5) (pwd 5) = true := by simp [wrongB, hval, hneg]
      rw [e]
      show Calls Try.prog _ #[.agg #[str [112, 114, 111, 116, 111], .int .i64 8, .func (.func 89) #[] #[]], .pointer (some ⟨hb, 0, none⟩)] w _
      unfold str
      have hn2 : decide (h 4 < 0) = true := by simpa using hneg
      go_enter Try.func104, Try.ntmps104
      go_wp2
      go_quiet ((go_at_call 89; exact Calls.quiet_of_same (at_5 hb _)))
      go_wp2
      go_ret
      exact ⟨rfl, below_drewN ((Below.refl _ w).alloc (Nat.le_refl _) _) _⟩
    · have e : wrongB (hval h 5) (pwd 5) = decide (0 < h 4 / 256) := by
        show (decide (h 4 < 0) || decide (0 < h 4 / 2 ^ 8)) = _
        simp [hneg]
      rw [e]
      show Calls Try.prog _ #[.agg #[str [112, 114, 111, 116, 111], .int .i64 8, .func (.func 89) #[] #[]], .pointer (some ⟨hb, 0, none⟩)] w _
      unfold str
      have hn2 : decide (h 4 < 0) = false := by simpa using hneg
      have hnn : 0 ≤ h 4 := by omega
      go_enter Try.func104, Try.ntmps104
      go_wp2
      go_quiet ((go_at_call 89; exact Calls.quiet_of_same (at_5 hb _)))
      go_wp2
      go_ret
      exact ⟨ret_bool (by simp), below_drewN ((Below.refl _ w).alloc (Nat.le_refl _) _) _⟩
  · have c : w.cell? ⟨hb, 5, none⟩ = some (.int .i64 (h 5)) := hH.cell 5
    have hlt : hb < w.heap.size := hH.lt
    have hlt2 : b < w.heap.size := hB.lt
    by_cases hneg : h 5 < 0
    · have e : wrongB (hval h 6) (pwd 6) = true := by simp [wrongB, hval, hneg]
      rw [e]
      show Calls Try.prog _ #[.agg #[str [104, 111, 112, 115], .int .i64 8, .func (.func 90) #[] #[]], .pointer (some ⟨hb, 0, none⟩)] w _
      unfold str
      have hn2 : decide (h 5 < 0) = true := by simpa using hneg
      go_enter Try.func104, Try.ntmps104
      go_wp2
      go_quiet ((go_at_call 90; exact Calls.quiet_of_same (at_6 hb _)))
      go_wp2
      go_ret
      exact ⟨rfl, below_drewN ((Below.refl _ w).alloc (Nat.le_refl _) _) _⟩
    · have e : wrongB (hval h 6) (pwd 6) = decide (0 < h 5 / 256) := by
        show (decide (h 5 < 0) || decide (0 < h 5 / 2 ^ 8)) = _
        simp [hneg]
      rw [e]
      show Calls Try.prog _ #[.agg #[str [104, 111, 112, 115], .int .i64 8, .func (.func 90) #[] #[]], .pointer (some ⟨hb, 0, none⟩)] w _
      unfold str
      have hn2 : decide (h 5 < 0) = false := by simpa using hneg
      have hnn : 0 ≤ h 5 := by omega
      go_enter Try.func104, Try.ntmps104
      go_wp2
      go_quiet ((go_at_call 90; exact Calls.quiet_of_same (at_6 hb _)))
      go_wp2
      go_ret
      exact ⟨ret_bool (by simp), below_drewN ((Below.refl _ w).alloc (Nat.le_refl _) _) _⟩
  · have c : w.cell? ⟨hb, 6, none⟩ = some (.int .i64 (h 6)) := hH.cell 6
    have hlt : hb < w.heap.size := hH.lt
    have hlt2 : b < w.heap.size := hB.lt
    by_cases hneg : h 6 < 0
    · have e : wrongB (hval h 7) (pwd 7) = true := by simp [wrongB, hval, hneg]
      rw [e]
      show Calls Try.prog _ #[.agg #[str [105, 100, 101, 110, 116], .int .i64 16, .func (.func 91) #[] #[]], .pointer (some ⟨hb, 0, none⟩)] w _
      unfold str
      have hn2 : decide (h 6 < 0) = true := by simpa using hneg
      go_enter Try.func104, Try.ntmps104
      go_wp2
      go_quiet ((go_at_call 91; exact Calls.quiet_of_same (at_7 hb _)))
      go_wp2
      go_ret
      exact ⟨rfl, below_drewN ((Below.refl _ w).alloc (Nat.le_refl _) _) _⟩
    · have e : wrongB (hval h 7) (pwd 7) = decide (0 < h 6 / 65536) := by
        show (decide (h 6 < 0) || decide (0 < h 6 / 2 ^ 16)) = _
        simp [hneg]
      rw [e]
      show Calls Try.prog _ #[.agg #[str [105, 100, 101, 110, 116], .int .i64 16, .func (.func 91) #[] #[]], .pointer (some ⟨hb, 0, none⟩)] w _
      unfold str
      have hn2 : decide (h 6 < 0) = false := by simpa using hneg
      have hnn : 0 ≤ h 6 := by omega
      go_enter Try.func104, Try.ntmps104
      go_wp2
      go_quiet ((go_at_call 91; exact Calls.quiet_of_same (at_7 hb _)))
      go_wp2
      go_ret
      exact ⟨ret_bool (by simp), below_drewN ((Below.refl _ w).alloc (Nat.le_refl _) _) _⟩
  · have c : w.cell? ⟨hb, 7, none⟩ = some (.int .i64 (h 7)) := hH.cell 7
    have hlt : hb < w.heap.size := hH.lt
    have hlt2 : b < w.heap.size := hB.lt
    by_cases hneg : h 7 < 0
    · have e : wrongB (hval h 8) (pwd 8) = true := by simp [wrongB, hval, hneg]
      rw [e]
      show Calls Try.prog _ #[.agg #[str [116, 105, 109, 101], .int .i64 24, .func (.func 92) #[] #[]], .pointer (some ⟨hb, 0, none⟩)] w _
      unfold str
      have hn2 : decide (h 7 < 0) = true := by simpa using hneg
      go_enter Try.func104, Try.ntmps104
      go_wp2
      go_quiet ((go_at_call 92; exact Calls.quiet_of_same (at_8 hb _)))
      go_wp2
      go_ret
      exact ⟨rfl, below_drewN ((Below.refl _ w).alloc (Nat.le_refl _) _) _⟩
    · have e : wrongB (hval h 8) (pwd 8) = decide (0 < h 7 / 16777216) := by
        show (decide (h 7 < 0) || decide (0 < h 7 / 2 ^ 24)) = _
        simp [hneg]
      rw [e]
      show Calls Try.prog _ #[.agg #[str [116, 105, 109, 101], .int .i64 24, .func (.func 92) #[] #[]], .pointer (some ⟨hb, 0, none⟩)] w _
      unfold str
      have hn2 : decide (h 7 < 0) = false := by simpa using hneg
      have hnn : 0 ≤ h 7 := by omega
      go_enter Try.func104, Try.ntmps104
      go_wp2
      go_quiet ((go_at_call 92; exact Calls.quiet_of_same (at_8 hb _)))
      go_wp2
      go_ret
      exact ⟨ret_bool (by simp), below_drewN ((Below.refl _ w).alloc (Nat.le_refl _) _) _⟩
  · have c : w.cell? ⟨hb, 8, none⟩ = some (.int .i64 (h 8)) := hH.cell 8
    have hlt : hb < w.heap.size := hH.lt
    have hlt2 : b < w.heap.size := hB.lt
    by_cases hneg : h 8 < 0
    · have e : wrongB (hval h 9) (pwd 9) = true := by simp [wrongB, hval, hneg]
      rw [e]
      show Calls Try.prog _ #[.agg #[str [108, 101, 110, 103, 116, 104], .int .i64 16, .func (.func 93) #[] #[]], .pointer (some ⟨hb, 0, none⟩)] w _
      unfold str
      have hn2 : decide (h 8 < 0) = true := by simpa using hneg
      go_enter Try.func104, Try.ntmps104
      go_wp2
      go_quiet ((go_at_call 93; exact Calls.quiet_of_same (at_9 hb _)))
      go_wp2
      go_ret
      exact ⟨rfl, below_drewN ((Below.refl _ w).alloc (Nat.le_refl _) _) _⟩
    · have e : wrongB (hval h 9) (pwd 9) = decide (0 < h 8 / 65536) := by
        show (decide (h 8 < 0) || decide (0 < h 8 / 2 ^ 16)) = _
        simp [hneg]
      rw [e]
      show Calls Try.prog _ #[.agg #[str [108, 101, 110, 103, 116, 104], .int .i64 16, .func (.func 93) #[] #[]], .pointer (some ⟨hb, 0, none⟩)] w _
      unfold str
      have hn2 : decide (h 8 < 0) = false := by simpa using hneg
      have hnn : 0 ≤ h 8 := by omega
      go_enter Try.func104, Try.ntmps104
      go_wp2
      go_quiet ((go_at_call 93; exact Calls.quiet_of_same (at_9 hb _)))
      go_wp2
      go_ret
      exact ⟨ret_bool (by simp), below_drewN ((Below.refl _ w).alloc (Nat.le_refl _) _) _⟩
end Go.Proofs.Ytofaghpflmeblaa
namespace Go.Proofs.Ytofaghpflmeblaa
open Go.RowKit

/-- the first field from k on that does not fit; d fields are left -/
def firstWrong (h : Nat → Int) : Nat → Nat → Int
  | _, 0 => -1
  | k, d + 1 => if wrongB (hval h k) (pwd k) then k else firstWrong h (k + 1) d
def anyWrong (h : Nat → Int) : Bool := decide (0 ≤ firstWrong h 0 10)
def validB (h : Nat → Int) : Bool := !anyWrong h && decide (20 ≤ h 8) && decide (h 8 ≤ 9000)
theorem firstWrong_ge (h : Nat → Int) : ∀ d k, firstWrong h k d = -1 ∨ 0 ≤ firstWrong h k d
  | 0, _ => .inl rfl
  | d + 1, k => by
    unfold firstWrong
    split
    · right; omega
    · exact firstWrong_ge h d (k + 1)

set_option maxRecDepth 100000 in
set_option maxHeartbeats 1600000 in
theorem indexFunc_ok (pb b hb c : Nat) (h : Nat → Int) (w : World) (hP : Blk w pb 126 (partsArr b)) (hB : Blk w b 3 #[.int .i64 5]) (hH : Blk w hb 36 (hdr h)) :
    Calls Try.prog 107 #[.slice (some ⟨pb, 0, none⟩) 10 c, .func (.func 104) #[] #[.pointer (some ⟨hb, 0, none⟩)]] w fun e w' => e = .returned (.int .i64 (firstWrong h 0 10)) ∧ Below w.heap.size w w' := by
  have HP := Lib.hid hP
  have HB := Lib.hid hB
  have HH := Lib.hid hH
  clear hP hB hH
  go_enter Try.func107, Try.ntmps107
  go_wp2
  go_loopw [8] (fun v wr => ∃ k : Nat, k ≤ 10 ∧ v = .int .i64 k ∧ firstWrong h 0 10 = firstWrong h k (10 - k) ∧ Below w.heap.size w wr) (fun v _ => 10 - (intOf v).toNat)
  case atStart => exact ⟨0, by omega, rfl, rfl, Below.refl _ _⟩
  case round =>
    obtain ⟨k, hk, rfl, hfw, hbw⟩ := hrel
    have HF := Lib.hid hfw
    clear hfw
    by_cases hlt : k < 10
    · obtain ⟨p0, p1, p2⟩ := parts_at b k hlt
      have BP := HP.out.below hbw HP.out.lt
      have c0 : wr.cell? ⟨pb, k * 3, none⟩ = some (pname k) := (BP.cell _).trans (by rw [Nat.mul_comm]; exact p0)
      have c1 : wr.cell? ⟨pb, k * 3 + 1, none⟩ = some (.int .i64 (pwd k : Int)) := (BP.cell _).trans (by rw [Nat.mul_comm]; exact p1)
      have c2 : wr.cell? ⟨pb, k * 3 + 2, none⟩ = some (pfn b k) := (BP.cell _).trans (by rw [Nat.mul_comm]; exact p2)
      have HC := Lib.hid (wrong_ok b hb k hlt h wr (HB.out.below hbw HB.out.lt) (HH.out.below hbw HH.out.lt))
      clear p0 p1 p2 BP
      have hstep : firstWrong h k (10 - k) = if wrongB (hval h k) (pwd k) then (k : Int) else firstWrong h (k + 1) (10 - (k + 1)) := by
        rw [show 10 - k = (10 - (k + 1)) + 1 by omega]; rfl
      cases hw : wrongB (hval h k) (pwd k) with
      | true =>
        rw [hw] at HC hstep
        have HSt := Lib.hid hstep
        clear hw hstep
        go_wp2_with (go_at_call 104; refine (HC.out).mono ?_; rintro e w2 ⟨rfl, hb2⟩)
        go_ret
        exact ⟨ret_int (by rw [HF.out, HSt.out]; simp), below_step hbw hb2⟩
      | false =>
        rw [hw] at HC hstep
        have HSt := Lib.hid hstep
        clear hw hstep
        go_wp2_with (go_at_call 104; refine (HC.out).mono ?_; rintro e w2 ⟨rfl, hb2⟩)
        go_roundw
        case rel => exact ⟨k + 1, by omega, by go_num, by rw [HF.out, HSt.out]; simp, below_step hbw hb2⟩
        case measure => simp [intOf]; omega
    · obtain rfl : k = 10 := by omega
      go_wp2
      go_ret
      exact ⟨ret_int HF.out.symm, hbw⟩

theorem containsFunc_ok (pb b hb c : Nat) (h : Nat → Int) (w : World) (hP : Blk w pb 126 (partsArr b)) (hB : Blk w b 3 #[.int .i64 5]) (hH : Blk w hb 36 (hdr h)) :
    Calls Try.prog 105 #[.slice (some ⟨pb, 0, none⟩) 10 c, .func (.func 104) #[] #[.pointer (some ⟨hb, 0, none⟩)]] w fun e w' => e = .returned (.bool (anyWrong h)) ∧ Below w.heap.size w w' := by
  have HI := Lib.hid (indexFunc_ok pb b hb c h w hP hB hH)
  obtain ⟨x, hx⟩ : ∃ x, x = firstWrong h 0 10 := ⟨_, rfl⟩
  have hA : anyWrong h = decide (0 ≤ x) := by unfold anyWrong; rw [hx]
  rw [hA]
  rw [← hx] at HI
  clear hx hA hP hB hH
  go_enter Try.func105, Try.ntmps105
  go_wp2_with (go_at_call 107; refine (HI.out).mono ?_; rintro e w2 ⟨rfl, hb2⟩)
  go_ret
  exact ⟨rfl, hb2⟩

set_option maxRecDepth 100000 in
set_option maxHeartbeats 1600000 in
theorem valid_ok (h : Nat → Int) (w : World) :
    Calls Try.prog 99 #[.agg (hdr h)] w fun e w' => e = .returned (.bool (validB h)) ∧ Below w.heap.size w w' := by
  have hall : ∀ b, (partsArr b).all (·.oneCell') = true := fun b => by kernel_rfl
  have HALL := Lib.hid hall
  have HH0 := Lib.hid (Blk.new w 36 (hdr h))
  have HCont := Lib.hid (fun pb b hb c W => containsFunc_ok pb b hb c h W)
  have HV : Hid (validB h = (!anyWrong h && decide (20 ≤ h 8) && decide (h 8 ≤ 9000))) := Lib.hid rfl
  obtain ⟨aw, haw⟩ : ∃ x, x = anyWrong h := ⟨_, rfl⟩
  obtain ⟨vb, hvb⟩ : ∃ x, x = validB h := ⟨_, rfl⟩
  rw [← haw, ← hvb] at HV
  rw [← haw] at HCont
  rw [← hvb]
  clear hall haw hvb
  unfold hdr
  go_enter Try.func99, Try.ntmps99
  go_wp2_with (first
    | (go_at_call 68; refine (parts_ok _).mono ?_; rintro e w1 ⟨rfl, hB1, hb1⟩; have hH1 := HH0.out.below hb1 (by simp); have hH2 : w1.cell? ⟨w.heap.size, 8, none⟩ = some (.int .i64 (h 8)) := hH1.cell 8)
    | (refine wpList_store_row rfl _ _ _ rfl w1.heap.size (partsArr (w.heap.size + 1 + 1)) rfl rfl 126 _ (World.alloc_heap_new w1 _) sizeParts rfl (HALL.out _) ?_)
    | (go_at_call 105; simp only [World.size_alloc] at hB1 hb1; have hl1 := hB1.lt; have hl2 := hH1.lt; refine (HCont.out w1.heap.size (w.heap.size + 1 + 1) w.heap.size 10 _ ((Blk.new w1 _ _).setRow) ((hB1.alloc _).farRow (by omega)) ((hH1.alloc _).farRow (by omega))).mono ?_; rintro e w2 ⟨rfl, hb2⟩; have hH3 : w2.cell? ⟨w.heap.size, 8, none⟩ = some (.int .i64 (h 8)) := (hb2.cell (p := ⟨w.heap.size, 8, none⟩) (by simp; omega)).trans (((hH1.alloc _).farRow (by omega)).cell 8)))
  all_goals (go_ret; exact ⟨ret_bool (by rw [HV.out]; first | (simp_all; done) | (simp_all; intros; omega)), (((Below.refl _ w).alloc (Nat.le_refl _) _).trans (hb1.mono (by omega))).alloc (by omega) _ |> fun x => (belowRow x (by omega) _).trans (hb2.mono (by simp; omega))⟩)
end Go.Proofs.Ytofaghpflmeblaa
namespace Go.Proofs.Ytofaghpflmeblaa
open Go.RowKit

/-- where field k begins -/
def offs : Nat → Nat
  | 0 => 0
  | k + 1 => offs k + pwd k
/-- the bits of the first n fields -/
def hbitk (h : Nat → Int) : Nat → Nat → Bool
  | 0, _ => false
  | n + 1, j => if offs n ≤ j ∧ j < offs (n + 1) then vbit (hval h n).toNat (pwd n) (j - offs n) else hbitk h n j
def hdrBits (h : Nat → Int) : Nat → Bool := hbitk h 10
theorem offs_mono (a : Nat) : ∀ d, offs a ≤ offs (a + d)
  | 0 => Nat.le_refl _
  | d + 1 => Nat.le_trans (offs_mono a d) (by show offs (a + d) ≤ offs (a + d) + pwd (a + d); omega)
theorem hbitk_at (h : Nat → Int) (k i : Nat) (hi : i < pwd k) : ∀ d, hbitk h (k + 1 + d) (offs k + i) = vbit (hval h k).toNat (pwd k) i
  | 0 => by
    show (if offs k ≤ offs k + i ∧ offs k + i < offs (k + 1) then _ else _) = _
    rw [if_pos ⟨by omega, by show _ < offs k + pwd k; omega⟩, Nat.add_sub_cancel_left]
  | d + 1 => by
    show (if offs (k + 1 + d) ≤ offs k + i ∧ offs k + i < offs (k + 1 + d + 1) then _ else hbitk h (k + 1 + d) (offs k + i)) = _
    have := offs_mono (k + 1) d
    have h2 : offs (k + 1) = offs k + pwd k := rfl
    rw [if_neg (by omega), hbitk_at h k i hi d]
theorem hdrBits_at (h : Nat → Int) (k i : Nat) (hk : k < 10) (hi : i < pwd k) : hdrBits h (offs k + i) = vbit (hval h k).toNat (pwd k) i := by
  have := hbitk_at h k i hi (9 - k)
  rwa [show k + 1 + (9 - k) = 10 by omega] at this
theorem anyWrong_false (h : Nat → Int) (hw : anyWrong h = false) : ∀ k, k < 10 → 0 ≤ hval h k ∧ hval h k < 2 ^ pwd k := by
  have key : ∀ d k, firstWrong h k d = -1 → ∀ j, k ≤ j → j < k + d → wrongB (hval h j) (pwd j) = false := by
    intro d
    induction d with
    | zero => intro k _ j h1 h2; omega
    | succ d ih =>
      intro k he j h1 h2
      unfold firstWrong at he
      split at he
      · omega
      · rename_i hn
        by_cases hj : j = k
        · subst hj; simpa using hn
        · exact ih (k + 1) he j (by omega) (by omega)
  intro k hk
  have h1 : firstWrong h 0 10 = -1 := by
    rcases firstWrong_ge h 10 0 with h2 | h2
    · exact h2
    · unfold anyWrong at hw; simp at hw; omega
  have h2 := key 10 0 h1 k (by omega) (by omega)
  unfold wrongB at h2
  simp at h2
  refine ⟨by omega, ?_⟩
  have h3 : hval h k / 2 ^ pwd k = 0 := Int.le_antisymm h2.2 (Int.ediv_nonneg h2.1 (Int.le_of_lt (Int.pow_pos (by decide))))
  have hp : (0 : Int) < 2 ^ pwd k := Int.pow_pos (by decide)
  have h4 := Int.emod_add_mul_ediv (hval h k) (2 ^ pwd k)
  rw [h3, Int.mul_zero, Int.add_zero] at h4
  have h5 := Int.emod_lt_of_pos (hval h k) hp
  omega

def EncEnd (h : Nat → Int) (w : World) (e : Ending) (w' : World) : Prop :=
  ∃ A c, e = .returned (.tuple #[.slice A 20 c, .int .i64 0]) ∧ 20 ≤ c ∧ w'.ownsRow w.heap.size 5 1 (.slice A 20 c) 20 ((List.range 20).map (fun j => .int .u8 ((HM.pk (hdrBits h) 160 j : Nat) : Int))) ∧ Below w.heap.size w w'

theorem encode_bad (h : Nat → Int) (hv : validB h = false) (w : World) :
    Calls Try.prog 95 #[.agg (hdr h)] w fun e w' => e = .returned (.tuple #[.slice none 0 0, .int .i64 2]) ∧ Below w.heap.size w w' := by
  have HV := Lib.hid (fun W => valid_ok h W)
  rw [hv] at HV
  unfold hdr at HV ⊢
  clear hv
  go_enter Try.func95, Try.ntmps95
  go_wp2_with (go_at_call 99; refine (HV.out _).mono ?_; rintro e w1 ⟨rfl, hb1⟩)
  go_ret2
  exact ⟨rfl, ((Below.refl _ w).alloc (Nat.le_refl _) _).trans (hb1.mono (by simp))⟩

set_option maxRecDepth 100000 in
set_option maxHeartbeats 8000000 in
theorem encode_good (h : Nat → Int) (hv : validB h = true) (w : World) :
    Calls Try.prog 95 #[.agg (hdr h)] w (EncEnd h w) := by
  have haw : anyWrong h = false := by
    unfold validB at hv
    simp at hv
    exact hv.1.1
  have HF := Lib.hid (anyWrong_false h haw)
  have HV := Lib.hid (fun W => valid_ok h W)
  have HH0 := Lib.hid (Blk.new w 36 (hdr h))
  rw [hv] at HV
  unfold hdr at HV ⊢
  clear hv haw
  go_enter Try.func95, Try.ntmps95
  go_wp2_with (first
    | (go_at_call 99; refine (HV.out _).mono ?_; rintro e w1 ⟨rfl, hb1⟩)
    | (go_at_call 68; refine (parts_ok _).mono ?_; rintro e w2 ⟨rfl, hB2, hb2⟩))
  simp only [World.size_alloc] at hB2 hb2 hb1
  have s1 := hb1.size
  have s2 := hb2.size
  simp only [World.size_alloc] at s1 s2
  have hH1 : Blk w1 w.heap.size 36 (hdr h) := HH0.out.below hb1 (by simp)
  have hH2 : Blk w2 w.heap.size 36 (hdr h) := (hH1.alloc _).below hb2 (by omega)
  have S2 : WS w2 w1.heap.size (hdrBits h) 0 := by
    have : WS (w1.alloc (.cells #[.slice none 0 0, .int .i64 0] 157)) w1.heap.size (hdrBits h) 0 :=
      ⟨_, Blk.new w1 _ _, World.ownsRow_nil _ _ _ _⟩
    exact this.below (by rw [World.size_alloc]; exact hb2)
  have hbw2 : Below w.heap.size w w2 := (((Below.refl _ w).alloc (Nat.le_refl _) _).trans (hb1.mono (by omega))).alloc (by omega) _ |>.trans (hb2.mono (by omega))
  obtain ⟨g, hg⟩ : ∃ g, g = w1.heap.size := ⟨_, rfl⟩
  rw [← hg] at hB2 S2 ⊢
  have hgw : w.heap.size < g := by omega
  have hgs : g + 2 < w2.heap.size := by have := hB2.lt; omega
  obtain ⟨hb, hhb⟩ : ∃ hb, hb = w.heap.size := ⟨_, rfl⟩
  rw [← hhb] at hH2 ⊢
  have HHB := Lib.hid hhb
  have hhg : hb < g := by omega
  have HB2 := Lib.hid hB2
  have HS2 := Lib.hid S2
  have HH2 := Lib.hid hH2
  have HBW2 := Lib.hid hbw2
  clear hhb hg hb1 hb2 s1 s2 hH1 hB2 S2 hH2 hbw2
  go_loopw [11] (fun v wr => ∃ k : Nat, k ≤ 10 ∧ v = .int .i64 k ∧ WS wr g (hdrBits h) (offs k) ∧ (k = 0 → wr = w2) ∧ Below g w2 wr) (fun v _ => 10 - (intOf v).toNat)
  case atStart => exact ⟨0, by omega, rfl, HS2.out, fun _ => rfl, Below.refl _ _⟩
  case round =>
    obtain ⟨k, hk, rfl, hS, hk0, hbk⟩ := hrel
    have HS := Lib.hid hS
    have HK0 := Lib.hid hk0
    clear hS hk0
    have hgl := HS.out.lt
    have hHr := HH2.out.below hbk hhg
    by_cases hlt : k < 10
    · have hcase : k = 0 ∨ k = 1 ∨ k = 2 ∨ k = 3 ∨ k = 4 ∨ k = 5 ∨ k = 6 ∨ k = 7 ∨ k = 8 ∨ k = 9 := by omega
      clear hk hlt
      rcases hcase with rfl | rfl | rfl | rfl | rfl | rfl | rfl | rfl | rfl | rfl
      · have hix : ∀ W : World, (Instr.index 126 (.agg (partsArr (g + 1 + 1))) (.int .i64 0)).run Try.prog W = .ok (.agg #[.string ⟨#[118, 101, 114, 115, 105, 111, 110]⟩, .int .i64 4, .func (.func 84) #[] #[.pointer (some ⟨g + 1 + 1, 0, none⟩)]]) W := fun _ => by kernel_rfl
        obtain ⟨f0, f1⟩ := HF.out 0 (by decide)
        obtain ⟨x, hx⟩ : ∃ x : Nat, hval h 0 = (x : Int) := ⟨(hval h 0).toNat, by omega⟩
        rw [hx] at f1
        have hx2 : x < 2 ^ 4 := by have f2 : (x : Int) < 2 ^ 4 := f1; omega
        have hcell : wr.cell? ⟨g + 1 + 1, 0, none⟩ = some (.int .i64 (x : Int)) := by
          rw [HK0.out rfl]; have : (5 : Int) = (x : Int) := hx; rw [← this]; exact HB2.out.cell 0
        have hxw : IntKind.u64.wrap (x : Int) = (x : Int) := by rw [IntKind.wrap_u64]; omega
        have HP := Lib.hid (fun W hW => Put_ok g (hdrBits h) 0 x 4 (by decide) hx2 (by decide) (fun i hi => by have := hdrBits_at h 0 i (by decide) hi; rw [hx, Int.toNat_natCast] at this; exact this) W hW)
        clear hx hx2 f0 f1
        go_wp2
        obtain ⟨WD, hWD⟩ : ∃ WD, WD = (wr.alloc (.cells #[.string ⟨#[118, 101, 114, 115, 105, 111, 110]⟩, .int .i64 4, .func (.func 84) #[] #[.pointer (some ⟨g + 1 + 1, 0, none⟩)]] 125)).drew := ⟨_, rfl⟩
        have q0 : WD.cell? ⟨wr.heap.size, 2, none⟩ = some (.func (.func 84) #[] #[.pointer (some ⟨g + 1 + 1, 0, none⟩)]) := by rw [hWD]; exact (Blk.new wr _ _).cell 2
        have q1 : WD.cell? ⟨wr.heap.size, 1, none⟩ = some (.int .i64 4) := by rw [hWD]; exact (Blk.new wr _ _).cell 1
        have qc : WD.cell? ⟨g + 1 + 1, 0, none⟩ = some (.int .i64 (x : Int)) := by rw [hWD]; exact (World.cell?_alloc_lt wr _ ⟨g + 1 + 1, 0, none⟩ (by have := hbk.size; simp; omega)).trans hcell
        have SD : WS WD g (hdrBits h) 0 := by rw [hWD]; exact (HS.out.alloc _).drew
        have bD : Below g wr WD := by rw [hWD]; exact ((Below.refl g wr).alloc (Nat.le_of_lt hgl) _).drew
        refine wp_region_still_tail 8 (by kernel_rfl) (by kernel_rfl) ?_
        simp only [List.take_succ_cons, List.take_zero, List.drop_succ_cons, List.drop_zero]
        change wpStill _ _ (wr.alloc (.cells #[.string ⟨#[118, 101, 114, 115, 105, 111, 110]⟩, .int .i64 4, .func (.func 84) #[] #[.pointer (some ⟨g + 1 + 1, 0, none⟩)]] 125)).drew (fun a' => wpList _ _ _ _ a' (wr.alloc (.cells #[.string ⟨#[118, 101, 114, 115, 105, 111, 110]⟩, .int .i64 4, .func (.func 84) #[] #[.pointer (some ⟨g + 1 + 1, 0, none⟩)]] 125)).drew) _ _
        rw [← hWD]
        clear hWD hcell
        repeat (first | still_step | (refine wpStill_step (fun K hK => ?_); go_simp; refine ⟨_, (at_0 (g + 1 + 1) hb WD), hK _ ?_⟩; clear hK K))
        refine wpStill_nil ?_
        clear hxw q0 q1 qc
        go_wp2_with (go_at_call 100; refine (HP.out _ SD).mono ?_; rintro e w4 ⟨rfl, hS4, hb4⟩)
        go_roundw
        case rel => exact ⟨1, by decide, rfl, hS4, (fun h => by cases h), hbk.trans (bD.trans hb4)⟩
        case measure => simp [intOf]
      · have hix : ∀ W : World, (Instr.index 126 (.agg (partsArr (g + 1 + 1))) (.int .i64 1)).run Try.prog W = .ok (.agg #[.string ⟨#[99, 108, 97, 115, 115]⟩, .int .i64 4, .func (.func 85) #[] #[]]) W := fun _ => by kernel_rfl
        obtain ⟨f0, f1⟩ := HF.out 1 (by decide)
        obtain ⟨x, hx⟩ : ∃ x : Nat, hval h 1 = (x : Int) := ⟨(hval h 1).toNat, by omega⟩
        rw [hx] at f1
        have hx2 : x < 2 ^ 4 := by have f2 : (x : Int) < 2 ^ 4 := f1; omega
        have hcell : wr.cell? ⟨hb, 0, none⟩ = some (.int .i64 (x : Int)) := by
          rw [← hx]; exact hHr.cell 0
        have hxw : IntKind.u64.wrap (x : Int) = (x : Int) := by rw [IntKind.wrap_u64]; omega
        have HP := Lib.hid (fun W hW => Put_ok g (hdrBits h) 4 x 4 (by decide) hx2 (by decide) (fun i hi => by have := hdrBits_at h 1 i (by decide) hi; rw [hx, Int.toNat_natCast] at this; exact this) W hW)
        clear hx hx2 f0 f1
        go_wp2
        obtain ⟨WD, hWD⟩ : ∃ WD, WD = (wr.alloc (.cells #[.string ⟨#[99, 108, 97, 115, 115]⟩, .int .i64 4, .func (.func 85) #[] #[]] 125)).drew := ⟨_, rfl⟩
        have q0 : WD.cell? ⟨wr.heap.size, 2, none⟩ = some (.func (.func 85) #[] #[]) := by rw [hWD]; exact (Blk.new wr _ _).cell 2
        have q1 : WD.cell? ⟨wr.heap.size, 1, none⟩ = some (.int .i64 4) := by rw [hWD]; exact (Blk.new wr _ _).cell 1
        have qc : WD.cell? ⟨hb, 0, none⟩ = some (.int .i64 (x : Int)) := by rw [hWD]; exact (World.cell?_alloc_lt wr _ ⟨hb, 0, none⟩ (by have := hbk.size; simp; omega)).trans hcell
        have SD : WS WD g (hdrBits h) 4 := by rw [hWD]; exact (HS.out.alloc _).drew
        have bD : Below g wr WD := by rw [hWD]; exact ((Below.refl g wr).alloc (Nat.le_of_lt hgl) _).drew
        refine wp_region_still_tail 8 (by kernel_rfl) (by kernel_rfl) ?_
        simp only [List.take_succ_cons, List.take_zero, List.drop_succ_cons, List.drop_zero]
        change wpStill _ _ (wr.alloc (.cells #[.string ⟨#[99, 108, 97, 115, 115]⟩, .int .i64 4, .func (.func 85) #[] #[]] 125)).drew (fun a' => wpList _ _ _ _ a' (wr.alloc (.cells #[.string ⟨#[99, 108, 97, 115, 115]⟩, .int .i64 4, .func (.func 85) #[] #[]] 125)).drew) _ _
        rw [← hWD]
        clear hWD hcell
        repeat (first | still_step | (refine wpStill_step (fun K hK => ?_); go_simp; refine ⟨_, (at_1 hb WD), hK _ ?_⟩; clear hK K))
        refine wpStill_nil ?_
        clear hxw q0 q1 qc
        go_wp2_with (go_at_call 100; refine (HP.out _ SD).mono ?_; rintro e w4 ⟨rfl, hS4, hb4⟩)
        go_roundw
        case rel => exact ⟨2, by decide, rfl, hS4, (fun h => by cases h), hbk.trans (bD.trans hb4)⟩
        case measure => simp [intOf]
      · have hix : ∀ W : World, (Instr.index 126 (.agg (partsArr (g + 1 + 1))) (.int .i64 2)).run Try.prog W = .ok (.agg #[.string ⟨#[102, 108, 111, 119]⟩, .int .i64 16, .func (.func 86) #[] #[]]) W := fun _ => by kernel_rfl
        obtain ⟨f0, f1⟩ := HF.out 2 (by decide)
        obtain ⟨x, hx⟩ : ∃ x : Nat, hval h 2 = (x : Int) := ⟨(hval h 2).toNat, by omega⟩
        rw [hx] at f1
        have hx2 : x < 2 ^ 16 := by have f2 : (x : Int) < 2 ^ 16 := f1; omega
        have hcell : wr.cell? ⟨hb, 1, none⟩ = some (.int .i64 (x : Int)) := by
          rw [← hx]; exact hHr.cell 1
        have hxw : IntKind.u64.wrap (x : Int) = (x : Int) := by rw [IntKind.wrap_u64]; omega
        have HP := Lib.hid (fun W hW => Put_ok g (hdrBits h) 8 x 16 (by decide) hx2 (by decide) (fun i hi => by have := hdrBits_at h 2 i (by decide) hi; rw [hx, Int.toNat_natCast] at this; exact this) W hW)
        clear hx hx2 f0 f1
        go_wp2
        obtain ⟨WD, hWD⟩ : ∃ WD, WD = (wr.alloc (.cells #[.string ⟨#[102, 108, 111, 119]⟩, .int .i64 16, .func (.func 86) #[] #[]] 125)).drew := ⟨_, rfl⟩
        have q0 : WD.cell? ⟨wr.heap.size, 2, none⟩ = some (.func (.func 86) #[] #[]) := by rw [hWD]; exact (Blk.new wr _ _).cell 2
        have q1 : WD.cell? ⟨wr.heap.size, 1, none⟩ = some (.int .i64 16) := by rw [hWD]; exact (Blk.new wr _ _).cell 1
        have qc : WD.cell? ⟨hb, 1, none⟩ = some (.int .i64 (x : Int)) := by rw [hWD]; exact (World.cell?_alloc_lt wr _ ⟨hb, 1, none⟩ (by have := hbk.size; simp; omega)).trans hcell
        have SD : WS WD g (hdrBits h) 8 := by rw [hWD]; exact (HS.out.alloc _).drew
        have bD : Below g wr WD := by rw [hWD]; exact ((Below.refl g wr).alloc (Nat.le_of_lt hgl) _).drew
        refine wp_region_still_tail 8 (by kernel_rfl) (by kernel_rfl) ?_
        simp only [List.take_succ_cons, List.take_zero, List.drop_succ_cons, List.drop_zero]
        change wpStill _ _ (wr.alloc (.cells #[.string ⟨#[102, 108, 111, 119]⟩, .int .i64 16, .func (.func 86) #[] #[]] 125)).drew (fun a' => wpList _ _ _ _ a' (wr.alloc (.cells #[.string ⟨#[102, 108, 111, 119]⟩, .int .i64 16, .func (.func 86) #[] #[]] 125)).drew) _ _
        rw [← hWD]
        clear hWD hcell
        repeat (first | still_step | (refine wpStill_step (fun K hK => ?_); go_simp; refine ⟨_, (at_2 hb WD), hK _ ?_⟩; clear hK K))
        refine wpStill_nil ?_
        clear hxw q0 q1 qc
        go_wp2_with (go_at_call 100; refine (HP.out _ SD).mono ?_; rintro e w4 ⟨rfl, hS4, hb4⟩)
        go_roundw
        case rel => exact ⟨3, by decide, rfl, hS4, (fun h => by cases h), hbk.trans (bD.trans hb4)⟩
        case measure => simp [intOf]
      · have hix : ∀ W : World, (Instr.index 126 (.agg (partsArr (g + 1 + 1))) (.int .i64 3)).run Try.prog W = .ok (.agg #[.string ⟨#[115, 111, 117, 114, 99, 101]⟩, .int .i64 32, .func (.func 87) #[] #[]]) W := fun _ => by kernel_rfl
        obtain ⟨f0, f1⟩ := HF.out 3 (by decide)
        obtain ⟨x, hx⟩ : ∃ x : Nat, hval h 3 = (x : Int) := ⟨(hval h 3).toNat, by omega⟩
        rw [hx] at f1
        have hx2 : x < 2 ^ 32 := by have f2 : (x : Int) < 2 ^ 32 := f1; omega
        have hcell : wr.cell? ⟨hb, 2, none⟩ = some (.int .i64 (x : Int)) := by
          rw [← hx]; exact hHr.cell 2
        have hxw : IntKind.u64.wrap (x : Int) = (x : Int) := by rw [IntKind.wrap_u64]; omega
        have HP := Lib.hid (fun W hW => Put_ok g (hdrBits h) 24 x 32 (by decide) hx2 (by decide) (fun i hi => by have := hdrBits_at h 3 i (by decide) hi; rw [hx, Int.toNat_natCast] at this; exact this) W hW)
        clear hx hx2 f0 f1
        go_wp2
        obtain ⟨WD, hWD⟩ : ∃ WD, WD = (wr.alloc (.cells #[.string ⟨#[115, 111, 117, 114, 99, 101]⟩, .int .i64 32, .func (.func 87) #[] #[]] 125)).drew := ⟨_, rfl⟩
        have q0 : WD.cell? ⟨wr.heap.size, 2, none⟩ = some (.func (.func 87) #[] #[]) := by rw [hWD]; exact (Blk.new wr _ _).cell 2
        have q1 : WD.cell? ⟨wr.heap.size, 1, none⟩ = some (.int .i64 32) := by rw [hWD]; exact (Blk.new wr _ _).cell 1
        have qc : WD.cell? ⟨hb, 2, none⟩ = some (.int .i64 (x : Int)) := by rw [hWD]; exact (World.cell?_alloc_lt wr _ ⟨hb, 2, none⟩ (by have := hbk.size; simp; omega)).trans hcell
        have SD : WS WD g (hdrBits h) 24 := by rw [hWD]; exact (HS.out.alloc _).drew
        have bD : Below g wr WD := by rw [hWD]; exact ((Below.refl g wr).alloc (Nat.le_of_lt hgl) _).drew
        refine wp_region_still_tail 8 (by kernel_rfl) (by kernel_rfl) ?_
        simp only [List.take_succ_cons, List.take_zero, List.drop_succ_cons, List.drop_zero]
        change wpStill _ _ (wr.alloc (.cells #[.string ⟨#[115, 111, 117, 114, 99, 101]⟩, .int .i64 32, .func (.func 87) #[] #[]] 125)).drew (fun a' => wpList _ _ _ _ a' (wr.alloc (.cells #[.string ⟨#[115, 111, 117, 114, 99, 101]⟩, .int .i64 32, .func (.func 87) #[] #[]] 125)).drew) _ _
        rw [← hWD]
        clear hWD hcell
        repeat (first | still_step | (refine wpStill_step (fun K hK => ?_); go_simp; refine ⟨_, (at_3 hb WD), hK _ ?_⟩; clear hK K))
        refine wpStill_nil ?_
        clear hxw q0 q1 qc
        go_wp2_with (go_at_call 100; refine (HP.out _ SD).mono ?_; rintro e w4 ⟨rfl, hS4, hb4⟩)
        go_roundw
        case rel => exact ⟨4, by decide, rfl, hS4, (fun h => by cases h), hbk.trans (bD.trans hb4)⟩
        case measure => simp [intOf]
      · have hix : ∀ W : World, (Instr.index 126 (.agg (partsArr (g + 1 + 1))) (.int .i64 4)).run Try.prog W = .ok (.agg #[.string ⟨#[100, 101, 115, 116]⟩, .int .i64 32, .func (.func 88) #[] #[]]) W := fun _ => by kernel_rfl
        obtain ⟨f0, f1⟩ := HF.out 4 (by decide)
        obtain ⟨x, hx⟩ : ∃ x : Nat, hval h 4 = (x : Int) := ⟨(hval h 4).toNat, by omega⟩
        rw [hx] at f1
        have hx2 : x < 2 ^ 32 := by have f2 : (x : Int) < 2 ^ 32 := f1; omega
        have hcell : wr.cell? ⟨hb, 3, none⟩ = some (.int .i64 (x : Int)) := by
          rw [← hx]; exact hHr.cell 3
        have hxw : IntKind.u64.wrap (x : Int) = (x : Int) := by rw [IntKind.wrap_u64]; omega
        have HP := Lib.hid (fun W hW => Put_ok g (hdrBits h) 56 x 32 (by decide) hx2 (by decide) (fun i hi => by have := hdrBits_at h 4 i (by decide) hi; rw [hx, Int.toNat_natCast] at this; exact this) W hW)
        clear hx hx2 f0 f1
        go_wp2
        obtain ⟨WD, hWD⟩ : ∃ WD, WD = (wr.alloc (.cells #[.string ⟨#[100, 101, 115, 116]⟩, .int .i64 32, .func (.func 88) #[] #[]] 125)).drew := ⟨_, rfl⟩
        have q0 : WD.cell? ⟨wr.heap.size, 2, none⟩ = some (.func (.func 88) #[] #[]) := by rw [hWD]; exact (Blk.new wr _ _).cell 2
        have q1 : WD.cell? ⟨wr.heap.size, 1, none⟩ = some (.int .i64 32) := by rw [hWD]; exact (Blk.new wr _ _).cell 1
        have qc : WD.cell? ⟨hb, 3, none⟩ = some (.int .i64 (x : Int)) := by rw [hWD]; exact (World.cell?_alloc_lt wr _ ⟨hb, 3, none⟩ (by have := hbk.size; simp; omega)).trans hcell
        have SD : WS WD g (hdrBits h) 56 := by rw [hWD]; exact (HS.out.alloc _).drew
        have bD : Below g wr WD := by rw [hWD]; exact ((Below.refl g wr).alloc (Nat.le_of_lt hgl) _).drew
        refine wp_region_still_tail 8 (by kernel_rfl) (by kernel_rfl) ?_
        simp only [List.take_succ_cons, List.take_zero, List.drop_succ_cons, List.drop_zero]
        change wpStill _ _ (wr.alloc (.cells #[.string ⟨#[100, 101, 115, 116]⟩, .int .i64 32, .func (.func 88) #[] #[]] 125)).drew (fun a' => wpList _ _ _ _ a' (wr.alloc (.cells #[.string ⟨#[100, 101, 115, 116]⟩, .int .i64 32, .func (.func 88) #[] #[]] 125)).drew) _ _
        rw [← hWD]
        clear hWD hcell
        repeat (first | still_step | (refine wpStill_step (fun K hK => ?_); go_simp; refine ⟨_, (at_4 hb WD), hK _ ?_⟩; clear hK K))
        refine wpStill_nil ?_
        clear hxw q0 q1 qc
        go_wp2_with (go_at_call 100; refine (HP.out _ SD).mono ?_; rintro e w4 ⟨rfl, hS4, hb4⟩)
        go_roundw
        case rel => exact ⟨5, by decide, rfl, hS4, (fun h => by cases h), hbk.trans (bD.trans hb4)⟩
        case measure => simp [intOf]
      · have hix : ∀ W : World, (Instr.index 126 (.agg (partsArr (g + 1 + 1))) (.int .i64 5)).run Try.prog W = .ok (.agg #[.string ⟨#[112, 114, 111, 116, 111]⟩, .int .i64 8, .func (.func 89) #[] #[]]) W := fun _ => by kernel_rfl
        obtain ⟨f0, f1⟩ := HF.out 5 (by decide)
        obtain ⟨x, hx⟩ : ∃ x : Nat, hval h 5 = (x : Int) := ⟨(hval h 5).toNat, by omega⟩
        rw [hx] at f1
        have hx2 : x < 2 ^ 8 := by have f2 : (x : Int) < 2 ^ 8 := f1; omega
        have hcell : wr.cell? ⟨hb, 4, none⟩ = some (.int .i64 (x : Int)) := by
          rw [← hx]; exact hHr.cell 4
        have hxw : IntKind.u64.wrap (x : Int) = (x : Int) := by rw [IntKind.wrap_u64]; omega
        have HP := Lib.hid (fun W hW => Put_ok g (hdrBits h) 88 x 8 (by decide) hx2 (by decide) (fun i hi => by have := hdrBits_at h 5 i (by decide) hi; rw [hx, Int.toNat_natCast] at this; exact this) W hW)
        clear hx hx2 f0 f1
        go_wp2
        obtain ⟨WD, hWD⟩ : ∃ WD, WD = (wr.alloc (.cells #[.string ⟨#[112, 114, 111, 116, 111]⟩, .int .i64 8, .func (.func 89) #[] #[]] 125)).drew := ⟨_, rfl⟩
        have q0 : WD.cell? ⟨wr.heap.size, 2, none⟩ = some (.func (.func 89) #[] #[]) := by rw [hWD]; exact (Blk.new wr _ _).cell 2
        have q1 : WD.cell? ⟨wr.heap.size, 1, none⟩ = some (.int .i64 8) := by rw [hWD]; exact (Blk.new wr _ _).cell 1
        have qc : WD.cell? ⟨hb, 4, none⟩ = some (.int .i64 (x : Int)) := by rw [hWD]; exact (World.cell?_alloc_lt wr _ ⟨hb, 4, none⟩ (by have := hbk.size; simp; omega)).trans hcell
        have SD : WS WD g (hdrBits h) 88 := by rw [hWD]; exact (HS.out.alloc _).drew
        have bD : Below g wr WD := by rw [hWD]; exact ((Below.refl g wr).alloc (Nat.le_of_lt hgl) _).drew
        refine wp_region_still_tail 8 (by kernel_rfl) (by kernel_rfl) ?_
        simp only [List.take_succ_cons, List.take_zero, List.drop_succ_cons, List.drop_zero]
        change wpStill _ _ (wr.alloc (.cells #[.string ⟨#[112, 114, 111, 116, 111]⟩, .int .i64 8, .func (.func 89) #[] #[]] 125)).drew (fun a' => wpList _ _ _ _ a' (wr.alloc (.cells #[.string ⟨#[112, 114, 111, 116, 111]⟩, .int .i64 8, .func (.func 89) #[] #[]] 125)).drew) _ _
        rw [← hWD]
        clear hWD hcell
        repeat (first | still_step | (refine wpStill_step (fun K hK => ?_); go_simp; refine ⟨_, (at_5 hb WD), hK _ ?_⟩; clear hK K))
        refine wpStill_nil ?_
        clear hxw q0 q1 qc
        go_wp2_with (go_at_call 100; refine (HP.out _ SD).mono ?_; rintro e w4 ⟨rfl, hS4, hb4⟩)
        go_roundw
        case rel => exact ⟨6, by decide, rfl, hS4, (fun h => by cases h), hbk.trans (bD.trans hb4)⟩
        case measure => simp [intOf]
      · have hix : ∀ W : World, (Instr.index 126 (.agg (partsArr (g + 1 + 1))) (.int .i64 6)).run Try.prog W = .ok (.agg #[.string ⟨#[104, 111, 112, 115]⟩, .int .i64 8, .func (.func 90) #[] #[]]) W := fun _ => by kernel_rfl
        obtain ⟨f0, f1⟩ := HF.out 6 (by decide)
        obtain ⟨x, hx⟩ : ∃ x : Nat, hval h 6 = (x : Int) := ⟨(hval h 6).toNat, by omega⟩
        rw [hx] at f1
        have hx2 : x < 2 ^ 8 := by have f2 : (x : Int) < 2 ^ 8 := f1; omega
        have hcell : wr.cell? ⟨hb, 5, none⟩ = some (.int .i64 (x : Int)) := by
          rw [← hx]; exact hHr.cell 5
        have hxw : IntKind.u64.wrap (x : Int) = (x : Int) := by rw [IntKind.wrap_u64]; omega
        have HP := Lib.hid (fun W hW => Put_ok g (hdrBits h) 96 x 8 (by decide) hx2 (by decide) (fun i hi => by have := hdrBits_at h 6 i (by decide) hi; rw [hx, Int.toNat_natCast] at this; exact this) W hW)
        clear hx hx2 f0 f1
        go_wp2
        obtain ⟨WD, hWD⟩ : ∃ WD, WD = (wr.alloc (.cells #[.string ⟨#[104, 111, 112, 115]⟩, .int .i64 8, .func (.func 90) #[] #[]] 125)).drew := ⟨_, rfl⟩
        have q0 : WD.cell? ⟨wr.heap.size, 2, none⟩ = some (.func (.func 90) #[] #[]) := by rw [hWD]; exact (Blk.new wr _ _).cell 2
        have q1 : WD.cell? ⟨wr.heap.size, 1, none⟩ = some (.int .i64 8) := by rw [hWD]; exact (Blk.new wr _ _).cell 1
        have qc : WD.cell? ⟨hb, 5, none⟩ = some (.int .i64 (x : Int)) := by rw [hWD]; exact (World.cell?_alloc_lt wr _ ⟨hb, 5, none⟩ (by have := hbk.size; simp; omega)).trans hcell
        have SD : WS WD g (hdrBits h) 96 := by rw [hWD]; exact (HS.out.alloc _).drew
        have bD : Below g wr WD := by rw [hWD]; exact ((Below.refl g wr).alloc (Nat.le_of_lt hgl) _).drew
        refine wp_region_still_tail 8 (by kernel_rfl) (by kernel_rfl) ?_
        simp only [List.take_succ_cons, List.take_zero, List.drop_succ_cons, List.drop_zero]
        change wpStill _ _ (wr.alloc (.cells #[.string ⟨#[104, 111, 112, 115]⟩, .int .i64 8, .func (.func 90) #[] #[]] 125)).drew (fun a' => wpList _ _ _ _ a' (wr.alloc (.cells #[.string ⟨#[104, 111, 112, 115]⟩, .int .i64 8, .func (.func 90) #[] #[]] 125)).drew) _ _
        rw [← hWD]
        clear hWD hcell
        repeat (first | still_step | (refine wpStill_step (fun K hK => ?_); go_simp; refine ⟨_, (at_6 hb WD), hK _ ?_⟩; clear hK K))
        refine wpStill_nil ?_
        clear hxw q0 q1 qc
        go_wp2_with (go_at_call 100; refine (HP.out _ SD).mono ?_; rintro e w4 ⟨rfl, hS4, hb4⟩)
        go_roundw
        case rel => exact ⟨7, by decide, rfl, hS4, (fun h => by cases h), hbk.trans (bD.trans hb4)⟩
        case measure => simp [intOf]
      · have hix : ∀ W : World, (Instr.index 126 (.agg (partsArr (g + 1 + 1))) (.int .i64 7)).run Try.prog W = .ok (.agg #[.string ⟨#[105, 100, 101, 110, 116]⟩, .int .i64 16, .func (.func 91) #[] #[]]) W := fun _ => by kernel_rfl
        obtain ⟨f0, f1⟩ := HF.out 7 (by decide)
        obtain ⟨x, hx⟩ : ∃ x : Nat, hval h 7 = (x : Int) := ⟨(hval h 7).toNat, by omega⟩
        rw [hx] at f1
        have hx2 : x < 2 ^ 16 := by have f2 : (x : Int) < 2 ^ 16 := f1; omega
        have hcell : wr.cell? ⟨hb, 6, none⟩ = some (.int .i64 (x : Int)) := by
          rw [← hx]; exact hHr.cell 6
        have hxw : IntKind.u64.wrap (x : Int) = (x : Int) := by rw [IntKind.wrap_u64]; omega
        have HP := Lib.hid (fun W hW => Put_ok g (hdrBits h) 104 x 16 (by decide) hx2 (by decide) (fun i hi => by have := hdrBits_at h 7 i (by decide) hi; rw [hx, Int.toNat_natCast] at this; exact this) W hW)
        clear hx hx2 f0 f1
        go_wp2
        obtain ⟨WD, hWD⟩ : ∃ WD, WD = (wr.alloc (.cells #[.string ⟨#[105, 100, 101, 110, 116]⟩, .int .i64 16, .func (.func 91) #[] #[]] 125)).drew := ⟨_, rfl⟩
        have q0 : WD.cell? ⟨wr.heap.size, 2, none⟩ = some (.func (.func 91) #[] #[]) := by rw [hWD]; exact (Blk.new wr _ _).cell 2
        have q1 : WD.cell? ⟨wr.heap.size, 1, none⟩ = some (.int .i64 16) := by rw [hWD]; exact (Blk.new wr _ _).cell 1
        have qc : WD.cell? ⟨hb, 6, none⟩ = some (.int .i64 (x : Int)) := by rw [hWD]; exact (World.cell?_alloc_lt wr _ ⟨hb, 6, none⟩ (by have := hbk.size; simp; omega)).trans hcell
        have SD : WS WD g (hdrBits h) 104 := by rw [hWD]; exact (HS.out.alloc _).drew
        have bD : Below g wr WD := by rw [hWD]; exact ((Below.refl g wr).alloc (Nat.le_of_lt hgl) _).drew
        refine wp_region_still_tail 8 (by kernel_rfl) (by kernel_rfl) ?_
        simp only [List.take_succ_cons, List.take_zero, List.drop_succ_cons, List.drop_zero]
        change wpStill _ _ (wr.alloc (.cells #[.string ⟨#[105, 100, 101, 110, 116]⟩, .int .i64 16, .func (.func 91) #[] #[]] 125)).drew (fun a' => wpList _ _ _ _ a' (wr.alloc (.cells #[.string ⟨#[105, 100, 101, 110, 116]⟩, .int .i64 16, .func (.func 91) #[] #[]] 125)).drew) _ _
        rw [← hWD]
        clear hWD hcell
        repeat (first | still_step | (refine wpStill_step (fun K hK => ?_); go_simp; refine ⟨_, (at_7 hb WD), hK _ ?_⟩; clear hK K))
        refine wpStill_nil ?_
        clear hxw q0 q1 qc
        go_wp2_with (go_at_call 100; refine (HP.out _ SD).mono ?_; rintro e w4 ⟨rfl, hS4, hb4⟩)
        go_roundw
        case rel => exact ⟨8, by decide, rfl, hS4, (fun h => by cases h), hbk.trans (bD.trans hb4)⟩
        case measure => simp [intOf]
      · have hix : ∀ W : World, (Instr.index 126 (.agg (partsArr (g + 1 + 1))) (.int .i64 8)).run Try.prog W = .ok (.agg #[.string ⟨#[116, 105, 109, 101]⟩, .int .i64 24, .func (.func 92) #[] #[]]) W := fun _ => by kernel_rfl
        obtain ⟨f0, f1⟩ := HF.out 8 (by decide)
        obtain ⟨x, hx⟩ : ∃ x : Nat, hval h 8 = (x : Int) := ⟨(hval h 8).toNat, by omega⟩
        rw [hx] at f1
        have hx2 : x < 2 ^ 24 := by have f2 : (x : Int) < 2 ^ 24 := f1; omega
        have hcell : wr.cell? ⟨hb, 7, none⟩ = some (.int .i64 (x : Int)) := by
          rw [← hx]; exact hHr.cell 7
        have hxw : IntKind.u64.wrap (x : Int) = (x : Int) := by rw [IntKind.wrap_u64]; omega
        have HP := Lib.hid (fun W hW => Put_ok g (hdrBits h) 120 x 24 (by decide) hx2 (by decide) (fun i hi => by have := hdrBits_at h 8 i (by decide) hi; rw [hx, Int.toNat_natCast] at this; exact this) W hW)
        clear hx hx2 f0 f1
        go_wp2
        obtain ⟨WD, hWD⟩ : ∃ WD, WD = (wr.alloc (.cells #[.string ⟨#[116, 105, 109, 101]⟩, .int .i64 24, .func (.func 92) #[] #[]] 125)).drew := ⟨_, rfl⟩
        have q0 : WD.cell? ⟨wr.heap.size, 2, none⟩ = some (.func (.func 92) #[] #[]) := by rw [hWD]; exact (Blk.new wr _ _).cell 2
        have q1 : WD.cell? ⟨wr.heap.size, 1, none⟩ = some (.int .i64 24) := by rw [hWD]; exact (Blk.new wr _ _).cell 1
        have qc : WD.cell? ⟨hb, 7, none⟩ = some (.int .i64 (x : Int)) := by rw [hWD]; exact (World.cell?_alloc_lt wr _ ⟨hb, 7, none⟩ (by have := hbk.size; simp; omega)).trans hcell
        have SD : WS WD g (hdrBits h) 120 := by rw [hWD]; exact (HS.out.alloc _).drew
        have bD : Below g wr WD := by rw [hWD]; exact ((Below.refl g wr).alloc (Nat.le_of_lt hgl) _).drew
        refine wp_region_still_tail 8 (by kernel_rfl) (by kernel_rfl) ?_
        simp only [List.take_succ_cons, List.take_zero, List.drop_succ_cons, List.drop_zero]
        change wpStill _ _ (wr.alloc (.cells #[.string ⟨#[116, 105, 109, 101]⟩, .int .i64 24, .func (.func 92) #[] #[]] 125)).drew (fun a' => wpList _ _ _ _ a' (wr.alloc (.cells #[.string ⟨#[116, 105, 109, 101]⟩, .int .i64 24, .func (.func 92) #[] #[]] 125)).drew) _ _
        rw [← hWD]
        clear hWD hcell
        repeat (first | still_step | (refine wpStill_step (fun K hK => ?_); go_simp; refine ⟨_, (at_8 hb WD), hK _ ?_⟩; clear hK K))
        refine wpStill_nil ?_
        clear hxw q0 q1 qc
        go_wp2_with (go_at_call 100; refine (HP.out _ SD).mono ?_; rintro e w4 ⟨rfl, hS4, hb4⟩)
        go_roundw
        case rel => exact ⟨9, by decide, rfl, hS4, (fun h => by cases h), hbk.trans (bD.trans hb4)⟩
        case measure => simp [intOf]
      · have hix : ∀ W : World, (Instr.index 126 (.agg (partsArr (g + 1 + 1))) (.int .i64 9)).run Try.prog W = .ok (.agg #[.string ⟨#[108, 101, 110, 103, 116, 104]⟩, .int .i64 16, .func (.func 93) #[] #[]]) W := fun _ => by kernel_rfl
        obtain ⟨f0, f1⟩ := HF.out 9 (by decide)
        obtain ⟨x, hx⟩ : ∃ x : Nat, hval h 9 = (x : Int) := ⟨(hval h 9).toNat, by omega⟩
        rw [hx] at f1
        have hx2 : x < 2 ^ 16 := by have f2 : (x : Int) < 2 ^ 16 := f1; omega
        have hcell : wr.cell? ⟨hb, 8, none⟩ = some (.int .i64 (x : Int)) := by
          rw [← hx]; exact hHr.cell 8
        have hxw : IntKind.u64.wrap (x : Int) = (x : Int) := by rw [IntKind.wrap_u64]; omega
        have HP := Lib.hid (fun W hW => Put_ok g (hdrBits h) 144 x 16 (by decide) hx2 (by decide) (fun i hi => by have := hdrBits_at h 9 i (by decide) hi; rw [hx, Int.toNat_natCast] at this; exact this) W hW)
        clear hx hx2 f0 f1
        go_wp2
        obtain ⟨WD, hWD⟩ : ∃ WD, WD = (wr.alloc (.cells #[.string ⟨#[108, 101, 110, 103, 116, 104]⟩, .int .i64 16, .func (.func 93) #[] #[]] 125)).drew := ⟨_, rfl⟩
        have q0 : WD.cell? ⟨wr.heap.size, 2, none⟩ = some (.func (.func 93) #[] #[]) := by rw [hWD]; exact (Blk.new wr _ _).cell 2
        have q1 : WD.cell? ⟨wr.heap.size, 1, none⟩ = some (.int .i64 16) := by rw [hWD]; exact (Blk.new wr _ _).cell 1
        have qc : WD.cell? ⟨hb, 8, none⟩ = some (.int .i64 (x : Int)) := by rw [hWD]; exact (World.cell?_alloc_lt wr _ ⟨hb, 8, none⟩ (by have := hbk.size; simp; omega)).trans hcell
        have SD : WS WD g (hdrBits h) 144 := by rw [hWD]; exact (HS.out.alloc _).drew
        have bD : Below g wr WD := by rw [hWD]; exact ((Below.refl g wr).alloc (Nat.le_of_lt hgl) _).drew
        refine wp_region_still_tail 8 (by kernel_rfl) (by kernel_rfl) ?_
        simp only [List.take_succ_cons, List.take_zero, List.drop_succ_cons, List.drop_zero]
        change wpStill _ _ (wr.alloc (.cells #[.string ⟨#[108, 101, 110, 103, 116, 104]⟩, .int .i64 16, .func (.func 93) #[] #[]] 125)).drew (fun a' => wpList _ _ _ _ a' (wr.alloc (.cells #[.string ⟨#[108, 101, 110, 103, 116, 104]⟩, .int .i64 16, .func (.func 93) #[] #[]] 125)).drew) _ _
        rw [← hWD]
        clear hWD hcell
        repeat (first | still_step | (refine wpStill_step (fun K hK => ?_); go_simp; refine ⟨_, (at_9 hb WD), hK _ ?_⟩; clear hK K))
        refine wpStill_nil ?_
        clear hxw q0 q1 qc
        go_wp2_with (go_at_call 100; refine (HP.out _ SD).mono ?_; rintro e w4 ⟨rfl, hS4, hb4⟩)
        go_roundw
        case rel => exact ⟨10, by decide, rfl, hS4, (fun h => by cases h), hbk.trans (bD.trans hb4)⟩
        case measure => simp [intOf]
    · obtain rfl : k = 10 := by omega
      go_wp2_with (go_at_call 101; refine (Bytes_ok g (hdrBits h) 160 (by decide) _ HS.out).mono ?_; rintro e w4 ⟨A4, c4, rfl, hc4, hR4, hb4⟩; have HC4 := Lib.hid hc4; clear hc4)
      go_ret2
      have hwr : Below w.heap.size w wr := HBW2.out.trans (hbk.mono (by have := HHB.out; omega))
      exact ⟨A4, c4, rfl, HC4.out, ownsRow_mono hR4 hwr.size, below_step hwr hb4⟩
end Go.Proofs.Ytofaghpflmeblaa
namespace Go.Proofs.Ytofaghpflmeblaa
open Go.RowKit

/-- the header with its length field set -/
def withLen (h : Nat → Int) (n : Int) (k : Nat) : Int := if k = 8 then n else h k
/-- byte j of the packet -/
def pktAt (h : Nat → Int) (z : Nat → Int) (j : Nat) : Int := if j < 20 then ((HM.pk (hdrBits h) 160 j : Nat) : Int) else z (j - 20)

theorem build_bad (h : Nat → Int) (A : Option Addr) (n c : Nat) (hn : n ≤ 1000000) (hv : validB (withLen h (20 + n)) = false) (w : World) :
    Calls Try.prog 79 #[.agg (hdr h), .slice A n c] w fun e w' => e = .returned (.tuple #[.slice none 0 0, .int .i64 2]) ∧ Below w.heap.size w w' := by
  have HE := Lib.hid (fun W => encode_bad (withLen h (20 + n)) hv W)
  unfold hdr withLen at HE
  simp at HE
  unfold hdr
  clear hv
  go_enter Try.func79, Try.ntmps79
  go_wp2_with (go_at_call 95; refine (HE.out _).mono ?_; rintro e w1 ⟨rfl, hb1⟩)
  go_ret2
  exact ⟨rfl, ((Below.refl _ w).alloc (Nat.le_refl _) _).trans (hb1.mono (by simp))⟩

def BuildEnd (h : Nat → Int) (z : Nat → Int) (n : Nat) (w : World) (e : Ending) (w' : World) : Prop :=
  ∃ A c, e = .returned (.tuple #[.slice A (20 + n) c, .int .i64 0]) ∧ 20 + n ≤ c ∧ w'.ownsRow w.heap.size 5 1 (.slice A (20 + n) c) (20 + n) ((List.range (20 + n)).map (fun j => .int .u8 (pktAt (withLen h (20 + n)) z j))) ∧ Below w.heap.size w w'
theorem pkt_list (h z : Nat → Int) (n : Nat) : (List.range 20).map (fun j => Value.int .u8 ((HM.pk (hdrBits h) 160 j : Nat) : Int)) ++ (List.range n).map (fun j => Value.int .u8 (z j)) = (List.range (20 + n)).map (fun j => Value.int .u8 (pktAt h z j)) := by
  rw [List.range_add, List.map_append, List.map_map]
  have e1 : (List.range 20).map (fun j => Value.int .u8 ((HM.pk (hdrBits h) 160 j : Nat) : Int)) = (List.range 20).map (fun j => Value.int .u8 (pktAt h z j)) :=
    List.map_congr_left fun j hj => by
      have : j < 20 := by simpa using hj
      unfold pktAt; rw [if_pos this]
  have e2 : (List.range n).map (fun j => Value.int .u8 (z j)) = (List.range n).map ((fun j => Value.int .u8 (pktAt h z j)) ∘ fun x => 20 + x) :=
    List.map_congr_left fun j _ => by
      show _ = Value.int .u8 (pktAt h z (20 + j))
      unfold pktAt; rw [if_neg (by omega), Nat.add_sub_cancel_left]
  rw [e1, e2]

set_option maxRecDepth 100000 in
set_option maxHeartbeats 1600000 in
theorem build_good (h : Nat → Int) (A : Option Addr) (n c : Nat) (z : Nat → Int) (hn : n ≤ 1000000) (hv : validB (withLen h (20 + n)) = true) (w : World) (hr : Row w w.heap.size A n (fun j => .int .u8 (z j))) :
    Calls Try.prog 79 #[.agg (hdr h), .slice A n c] w (BuildEnd h z n w) := by
  have HE := Lib.hid (fun W => encode_good (withLen h (20 + n)) hv W)
  have HR := Lib.hid hr
  obtain ⟨i0, hi, hz0, hz1, hz2⟩ := info_parts Try.infoByte
  unfold EncEnd hdr at HE
  obtain ⟨hb, hhb⟩ : ∃ x, x = hdrBits (withLen h (20 + n)) := ⟨_, rfl⟩
  rw [← hhb] at HE
  have HHB := Lib.hid hhb
  unfold withLen at HE
  simp at HE
  unfold hdr
  clear hv hr hhb
  go_enter Try.func79, Try.ntmps79
  go_wp2_with (first
    | (go_at_call 95; refine (HE.out _).mono ?_; rintro e w1 ⟨A1, c1, rfl, hc1, ho1, hb1⟩; have HC1 := Lib.hid hc1; clear hc1; have h1 : Below w.heap.size w w1 := ((Below.refl _ w).alloc (Nat.le_refl _) _).trans (hb1.mono (by simp)))
    | (at_builtin; refine wpList_append_src _ rfl _ _ 24 rfl w.heap.size 5 i0 (.int .u8 0) 1 Try.underlying24 hi hz0 hz1 hz2 rfl _ _ _ rfl (ownsRow_mono ho1 (by simp)) w1.heap.size A n c (fun j => .int .u8 (z j)) rfl (HR.out.next h1) (fun _ => rfl) (by unfold maxLen; omega) (by omega) h1.size ?_; intro v2 w2 hown2 hg2 hv2))
  go_ret2
  have hg2' : w1.grownBy w2 (Value.slice A1 20 c1).ownBlock := hg2
  have hbw : Below w.heap.size w w2 := h1.grown hg2' h1.size (fun k hk => ((ownsRow_mono ho1 (show w.heap.size ≤ _ by simp)).lt k hk).1)
  rw [HHB.out, pkt_list] at hown2
  obtain ⟨A2, c2, hv, hcap, _, _, _⟩ := own_any (f := fun j => .int .u8 (pktAt (withLen h (20 + n)) z j)) hown2 (fun j hj => by simp [hj])
  subst hv
  exact ⟨A2, c2, rfl, hcap, hown2, hbw⟩
end Go.Proofs.Ytofaghpflmeblaa
namespace Go.Proofs.Ytofaghpflmeblaa
open Go.RowKit

def hvals (h : Nat → Int) : Array Value := #[.int .i64 5, .int .i64 (h 0), .int .i64 (h 1), .int .i64 (h 2), .int .i64 (h 3), .int .i64 (h 4), .int .i64 (h 5), .int .i64 (h 6), .int .i64 (h 7), .int .i64 (h 8)]
def hwds : Array Value := #[.int .i64 4, .int .i64 4, .int .i64 16, .int .i64 32, .int .i64 32, .int .i64 8, .int .i64 8, .int .i64 16, .int .i64 24, .int .i64 16]
theorem hvals_at (h : Nat → Int) (k : Nat) (hk : k < 10) : (hvals h)[k]? = some (.int .i64 (hval h k)) :=
  ten (p := fun k => (hvals h)[k]? = some (.int .i64 (hval h k))) rfl rfl rfl rfl rfl rfl rfl rfl rfl rfl k hk
theorem hwds_at (k : Nat) (hk : k < 10) : hwds[k]? = some (.int .i64 (pwd k : Int)) :=
  ten (p := fun k => hwds[k]? = some (.int .i64 (pwd k : Int))) rfl rfl rfl rfl rfl rfl rfl rfl rfl rfl k hk
theorem pwd_le (k : Nat) (hk : k < 10) : 1 ≤ pwd k ∧ pwd k ≤ 32 := ten (p := fun k => 1 ≤ pwd k ∧ pwd k ≤ 32) (by decide) (by decide) (by decide) (by decide) (by decide) (by decide) (by decide) (by decide) (by decide) (by decide) k hk
theorem values_ok (h : Nat → Int) (w : World) :
    Calls Try.prog 76 #[.agg (hdr h)] w fun e w' => e = .returned (.slice (some ⟨w.heap.size + 1, 0, none⟩) 10 10) ∧ Blk w' (w.heap.size + 1) 3 (hvals h) ∧ Below w.heap.size w w' := by
  unfold hdr
  go_enter Try.func76, Try.ntmps76
  go_wp2
  go_ret
  have := Blk.new (w.alloc (.cells (hdr h) 36)) 3 (hvals h)
  rw [World.size_alloc] at this
  exact ⟨rfl, this, ((Below.refl _ w).alloc (Nat.le_refl _) _).alloc (by simp) _⟩
theorem widths42_ok (w : World) :
    Calls Try.prog 77 #[] w fun e w' => e = .returned (.slice (some ⟨w.heap.size, 0, none⟩) 10 10) ∧ w.alloc (.cells hwds 3) = w' := by
  go_enter Try.func77, Try.ntmps77
  go_wp2
  go_ret
  exact ⟨rfl, rfl⟩
theorem firstWrong_step (h : Nat → Int) (k : Nat) (hk : k < 10) : firstWrong h k (10 - k) = if wrongB (hval h k) (pwd k) then (k : Int) else firstWrong h (k + 1) (10 - (k + 1)) := by
  rw [show 10 - k = (10 - (k + 1)) + 1 by omega]; rfl
theorem div_pos_iff (v : Int) (w : Nat) : 0 < v / 2 ^ w ↔ 2 ^ w ≤ v := by
  have hp : (0 : Int) < 2 ^ w := Int.pow_pos (by decide)
  have := Int.le_ediv_iff_mul_le (a := 1) (b := v) hp
  rw [Int.one_mul] at this
  constructor
  · intro h; exact this.1 (by omega)
  · intro h; have := this.2 h; omega
theorem pow_small (n : Nat) (h : n ≤ 32) : (2 : Int) ^ n ≤ 4294967296 ∧ (1 : Int) ≤ 2 ^ n := by
  have h1 : (2 : Nat) ^ n ≤ 2 ^ 32 := Nat.pow_le_pow_right (by decide) h
  have h2 : 0 < 2 ^ n := Nat.two_pow_pos n
  have e : (2 : Int) ^ n = ((2 ^ n : Nat) : Int) := by simp
  rw [e]
  omega

set_option maxRecDepth 100000 in
set_option maxHeartbeats 1600000 in
theorem fits_ok (h : Nat → Int) (w : World) :
    Calls Try.prog 75 #[.agg (hdr h)] w fun e w' => e = .returned (.bool (!anyWrong h)) ∧ Below w.heap.size w w' := by
  have HV := Lib.hid (fun W => values_ok h W)
  unfold hdr at HV ⊢
  obtain ⟨res, hres⟩ : ∃ x, x = !anyWrong h := ⟨_, rfl⟩
  rw [← hres]
  have HRes := Lib.hid hres
  clear hres
  go_enter Try.func75, Try.ntmps75
  go_wp2_with (first
    | (go_at_call 76; refine (HV.out _).mono ?_; rintro e w1 ⟨rfl, hB1, hb1⟩)
    | (go_at_call 77; refine (widths42_ok _).mono ?_; rintro e w2 ⟨rfl, rfl⟩))
  simp only [World.size_alloc] at hB1 hb1
  obtain ⟨W, hW⟩ : ∃ W, W = w1.alloc (.cells hwds 3) := ⟨_, rfl⟩
  have BV : Blk W (w.heap.size + 1 + 1) 3 (hvals h) := by rw [hW]; exact hB1.alloc _
  have BW : Blk W w1.heap.size 3 hwds := by rw [hW]; exact Blk.new _ _ _
  have hb : Below w.heap.size w W := by rw [hW]; exact (((Below.refl _ w).alloc (Nat.le_refl _) _).trans (hb1.mono (by omega))).alloc (by have := hb1.size; simp at this; omega) _
  rw [← hW]
  have HBV := Lib.hid BV
  have HBW := Lib.hid BW
  clear hW BV BW hB1 hb1
  go_loopw [5] (fun v wr => ∃ k : Nat, k ≤ 10 ∧ v = .int .i64 k ∧ firstWrong h 0 10 = firstWrong h k (10 - k) ∧ ∃ d, wr = W.drewN d) (fun v _ => 10 - (intOf v).toNat)
  case atStart => exact ⟨0, by omega, rfl, rfl, 0, rfl⟩
  case round =>
    obtain ⟨k, hk, rfl, hfw, d, rfl⟩ := hrel
    have HFW := Lib.hid hfw
    clear hfw
    by_cases hlt : k < 10
    · have cv : W.cell? ⟨w.heap.size + 1 + 1, k, none⟩ = some (.int .i64 (hval h k)) := (HBV.out.cell k).trans (hvals_at h k hlt)
      have cw : W.cell? ⟨w1.heap.size, k, none⟩ = some (.int .i64 (pwd k : Int)) := (HBW.out.cell k).trans (hwds_at k hlt)
      obtain ⟨p1, p2⟩ := pwd_le k hlt
      obtain ⟨q1, q2⟩ := pow_small (pwd k) p2
      have HST := Lib.hid (firstWrong_step h k hlt)
      obtain ⟨v, hv⟩ : ∃ v, v = hval h k := ⟨_, rfl⟩
      obtain ⟨wd, hwd⟩ : ∃ x, x = pwd k := ⟨_, rfl⟩
      rw [← hv] at cv HST
      rw [← hwd] at cw HST p1 p2 q1 q2
      have g1 : (0 : Int) ≤ (k : Int) := by omega
      have g2 : (k : Int) < 10 := by omega
      clear hv hwd
      by_cases hneg : v < 0
      · have hd : decide (v < 0) = true := by simpa using hneg
        have hwr : wrongB v wd = true := by simp [wrongB, hneg]
        have HWR := Lib.hid hwr
        clear hwr
        go_wp2
        go_quiet (fail)
        go_wp2
        go_ret
        exact ⟨ret_bool (by rw [HRes.out]; unfold anyWrong; rw [HFW.out, HST.out, HWR.out]; simp), below_drewN (below_drewN hb _) _⟩
      · have hd : decide (v < 0) = false := by simpa using hneg
        have hmin : min wd 64 = wd := by omega
        have hsh : IntKind.i64.wrap ((2 : Int) ^ wd) = 2 ^ wd := IntWalk.i64_in _ (by omega)
        have hv0 : 0 ≤ v := by omega
        by_cases hbig : (2 : Int) ^ wd ≤ v
        · have HWR := Lib.hid (show wrongB v wd = true by have := (div_pos_iff v wd).2 hbig; simp [wrongB, this])
          have hd2 : decide ((2 : Int) ^ wd ≤ v) = true := by simpa using hbig
          go_wp2
          go_quiet (fail)
          go_wp2
          go_ret
          exact ⟨ret_bool (by rw [HRes.out]; unfold anyWrong; rw [HFW.out, HST.out, HWR.out]; simp), below_drewN (below_drewN hb _) _⟩
        · have HWR := Lib.hid (show wrongB v wd = false by
            have h1 : ¬ 0 < v / 2 ^ wd := fun h => hbig ((div_pos_iff v wd).1 h)
            simp [wrongB, hneg, h1])
          have hd2 : decide ((2 : Int) ^ wd ≤ v) = false := by simpa using hbig
          have hd3 : v < (2 : Int) ^ wd := by omega
          go_wp2
          go_quiet (fail)
          go_wp2
          go_roundw
          case rel => exact ⟨k + 1, by omega, by go_num, by rw [HFW.out, HST.out, HWR.out]; simp, d + nq, by first | rfl | rw [World.drewN_drewN]⟩
          case measure => simp [intOf]; omega
    · obtain rfl : k = 10 := by omega
      go_wp2
      go_ret
      exact ⟨ret_bool (by rw [HRes.out]; unfold anyWrong; rw [HFW.out]; rfl), below_drewN hb _⟩

set_option maxRecDepth 100000 in
theorem rvalid_ok (h : Nat → Int) (w : World) :
    Calls Try.prog 52 #[.agg (hdr h)] w fun e w' => e = .returned (.bool (validB h)) ∧ Below w.heap.size w w' := by
  have HF := Lib.hid (fun W => fits_ok h W)
  have HH := Lib.hid (Blk.new w 36 (hdr h))
  have HV : Hid (validB h = (!anyWrong h && decide (20 ≤ h 8) && decide (h 8 ≤ 9000))) := Lib.hid rfl
  obtain ⟨aw, haw⟩ : ∃ x, x = (!anyWrong h) := ⟨_, rfl⟩
  obtain ⟨vb, hvb⟩ : ∃ x, x = validB h := ⟨_, rfl⟩
  rw [← haw, ← hvb] at HV
  rw [← haw] at HF
  rw [← hvb]
  clear haw hvb
  unfold hdr at HF ⊢
  go_enter Try.func52, Try.ntmps52
  go_wp2_with (go_at_call 75; refine (HF.out _).mono ?_; rintro e w1 ⟨rfl, hb1⟩; have hc : w1.cell? ⟨w.heap.size, 8, none⟩ = some (.int .i64 (h 8)) := (HH.out.below hb1 (by simp)).cell 8)
  all_goals (go_ret; exact ⟨ret_bool (by rw [HV.out]; first | (simp_all; done) | (simp_all; intros; omega)), ((Below.refl _ w).alloc (Nat.le_refl _) _).trans (hb1.mono (by simp))⟩)
end Go.Proofs.Ytofaghpflmeblaa
namespace Go.Proofs.Ytofaghpflmeblaa
open Go.RowKit

theorem pk_add (b : Nat → Bool) (n : Nat) (h : b n = true) : ∀ P : Int, P = ((HM.pk b n (n / 8) : Nat) : Int) → (P + 2 ^ (7 - n % 8)) % 256 = ((HM.pk b (n + 1) (n / 8) : Nat) : Int) := by
  intro P hP
  have h1 := HM.pk_hit b n h
  have h2 := HM.pk_lt b (n + 1) (n / 8)
  have h3 : P + 2 ^ (7 - n % 8) = ((HM.pk b (n + 1) (n / 8) : Nat) : Int) := by rw [h1, hP]; simp
  rw [h3]; omega
theorem pk_add' (b : Nat → Bool) (n : Nat) (h : b n = true) : IntKind.u8.wrap (((HM.pk b n (n / 8) : Nat) : Int) + IntKind.u8.wrap (2 ^ (7 - n % 8))) = ((HM.pk b (n + 1) (n / 8) : Nat) : Int) := by
  have h7 : ∀ r, r < 8 → IntKind.u8.wrap ((2 : Int) ^ (7 - r)) = 2 ^ (7 - r) := by decide
  rw [h7 (n % 8) (by omega), IntKind.wrap_u8]
  exact pk_add b n h _ rfl
theorem offs_le (k : Nat) (hk : k < 10) : offs k + pwd k ≤ 160 := ten (p := fun k => offs k + pwd k ≤ 160) (by decide) (by decide) (by decide) (by decide) (by decide) (by decide) (by decide) (by decide) (by decide) (by decide) k hk

def BytesEnd (h : Nat → Int) (w : World) (e : Ending) (w' : World) : Prop :=
  ∃ g, e = .returned (.slice (some ⟨g, 0, none⟩) 20 20) ∧ w.heap.size ≤ g ∧ w'.rowIs g 5 20 (fun j => .int .u8 ((HM.pk (hdrBits h) 160 j : Nat) : Int)) ∧ Below w.heap.size w w'

set_option maxRecDepth 100000 in
set_option maxHeartbeats 3200000 in
theorem bytes42_ok (h : Nat → Int) (hf : anyWrong h = false) (w : World) :
    Calls Try.prog 53 #[.agg (hdr h)] w (BytesEnd h w) := by
  have HF := Lib.hid (anyWrong_false h hf)
  have HV := Lib.hid (fun W => values_ok h W)
  have hmk : ∀ W : World, (Instr.makeSlice 24 (.int .i64 20) (.int .i64 20)).run Try.prog W = .ok (.slice (some ⟨W.heap.size, 0, none⟩) 20 20) (W.alloc (.cells (madeCells #[.int .u8 0] 20) 5)) := fun W => make_bytes 20 (by decide) W
  unfold hdr at HV ⊢
  clear hf
  go_enter Try.func53, Try.ntmps53
  go_wp2_with (first
    | (go_at_call 76; refine (HV.out _).mono ?_; rintro e w1 ⟨rfl, hB1, hb1⟩)
    | (go_at_call 77; refine (widths42_ok _).mono ?_; rintro e w2 ⟨rfl, rfl⟩))
  simp only [World.size_alloc] at hB1 hb1
  obtain ⟨W1, hW1⟩ : ∃ W1, W1 = w1.alloc (.cells hwds 3) := ⟨_, rfl⟩
  have z1 : W1.heap.size = w1.heap.size + 1 := by rw [hW1]; simp
  have BV : Blk W1 (w.heap.size + 1 + 1) 3 (hvals h) := by rw [hW1]; exact hB1.alloc _
  have BW : Blk W1 w1.heap.size 3 hwds := by rw [hW1]; exact Blk.new _ _ _
  have hb : Below w.heap.size w W1 := by rw [hW1]; exact (((Below.refl _ w).alloc (Nat.le_refl _) _).trans (hb1.mono (by omega))).alloc (by have := hb1.size; simp at this; omega) _
  have R0 := World.rowIs_made W1 (.int .u8 0) 20 5
  rw [← hW1, ← z1]
  have HBV := Lib.hid BV
  have HBW := Lib.hid BW
  have hBVl := BV.lt
  have hBWl := BW.lt
  clear hW1 BV BW hB1 hb1
  have Z1 := Lib.hid z1
  clear z1
  obtain ⟨gw, hgw⟩ : ∃ gw, gw = w1.heap.size := ⟨_, rfl⟩
  rw [← hgw] at HBW hBWl ⊢
  clear hgw
  go_loopw [6, 7, 8] (fun v6 v7 _ wr => ∃ k : Nat, k ≤ 10 ∧ v7 = .int .i64 k ∧ v6 = .int .i64 (offs k : Nat) ∧ W1.heap.size + 1 ≤ wr.heap.size ∧ wr.rowIs W1.heap.size 5 20 (fun j => .int .u8 ((HM.pk (hdrBits h) (offs k) j : Nat) : Int)) ∧ Below W1.heap.size W1 wr) (fun _ v _ _ => 10 - (intOf v).toNat)
  case atStart => exact ⟨0, by omega, rfl, rfl, by simp, R0, (Below.refl _ _).alloc (Nat.le_refl _) _⟩
  case round =>
    obtain ⟨k, hk, rfl, rfl, hsz, hR, hW⟩ := hrel
    by_cases hlt : k < 10
    · have cw : wr.cell? ⟨gw, k, none⟩ = some (.int .i64 (pwd k : Int)) := (hW.cell (p := ⟨gw, k, none⟩) hBWl).trans ((HBW.out.cell k).trans (hwds_at k hlt))
      obtain ⟨p1, p2⟩ := pwd_le k hlt
      have hoff := offs_le k hlt
      obtain ⟨f0, f1⟩ := HF.out k hlt
      obtain ⟨x, hx⟩ : ∃ x : Nat, hval h k = (x : Int) := ⟨(hval h k).toNat, by omega⟩
      have HBits := Lib.hid (fun i hi => hdrBits_at h k i hlt hi)
      have HX := Lib.hid hx
      obtain ⟨o, ho⟩ : ∃ o, o = offs k := ⟨_, rfl⟩
      obtain ⟨wd, hwd⟩ : ∃ wd, wd = pwd k := ⟨_, rfl⟩
      have HO := Lib.hid (show offs (k + 1) = o + wd by rw [ho, hwd]; rfl)
      rw [← ho, ← hwd] at HBits
      rw [← ho] at hR ⊢
      rw [← ho, ← hwd] at hoff
      rw [← hwd] at cw p1 p2
      have g1 : (0 : Int) ≤ (k : Int) := by omega
      have g2 : (k : Int) < 10 := by omega
      clear f0 f1 hx ho hwd
      go_wp2
      go_loopw [6, 8] (fun v6 v8 ws => ∃ m : Nat, m ≤ wd ∧ v6 = .int .i64 ((o + m : Nat) : Int) ∧ v8 = .int .i64 ((wd : Int) - 1 - m) ∧ W1.heap.size + 1 ≤ ws.heap.size ∧ ws.rowIs W1.heap.size 5 20 (fun j => .int .u8 ((HM.pk (hdrBits h) (o + m) j : Nat) : Int)) ∧ Below W1.heap.size W1 ws) (fun _ v _ => (intOf v + 1).toNat)
      case atStart => exact ⟨0, Nat.zero_le _, by simp, by simp, hsz, hR, hW⟩
      case round =>
        obtain ⟨m, hm, rfl, rfl, hsz2, hR2, hW2⟩ := hrel
        obtain ⟨W2, hW2e⟩ : ∃ W2, W2 = wr := ⟨_, rfl⟩
        subst hW2e
        by_cases hlt2 : m < wd
        · obtain ⟨i, hi⟩ : ∃ i : Nat, i = wd - 1 - m := ⟨_, rfl⟩
          have hi2 : (wd : Int) - 1 - m = (i : Int) := by omega
          have cv : W2.cell? ⟨w.heap.size + 1 + 1, k, none⟩ = some (.int .i64 (x : Int)) := (hW2.cell (p := ⟨w.heap.size + 1 + 1, k, none⟩) hBVl).trans ((HBV.out.cell k).trans (by rw [hvals_at h k hlt, HX.out]))
          have hmin : min i 64 = i := by omega
          have hbit : hdrBits h (o + m) = (x / 2 ^ i % 2 == 1) := by rw [HBits.out m hlt2, HX.out, Int.toNat_natCast]; unfold vbit; rw [hi]
          have HBit := Lib.hid hbit
          rw [hi2]
          obtain ⟨n, hn⟩ : ∃ n, n = o + m := ⟨_, rfl⟩
          have HN := Lib.hid hn
          have HI := Lib.hid hi
          have hn160 : n < 160 := by omega
          obtain ⟨y, hy⟩ : ∃ y, y = x / 2 ^ i := ⟨_, rfl⟩
          have hyc : (x : Int) / 2 ^ i = (y : Int) := by rw [hy]; simp
          rw [← hn, ← hy] at HBit
          rw [← hn] at hR2 ⊢
          clear hi hi2 hn hbit hy
          by_cases hb1 : y % 2 = 1
          · have hb2 : ((y : Int) % 2 == 1) = true := by simp; omega
            have HB1 := Lib.hid (show hdrBits h n = true by rw [HBit.out]; simp [hb1])
            clear hb1
            have hn8 : n / 8 < 20 := by omega
            have hcell : W2.cell? ⟨W1.heap.size, n / 8, none⟩ = some (.int .u8 ((HM.pk (hdrBits h) n (n / 8) : Nat) : Int)) := hR2.cell hn8
            have hfr := hR2.frozen (n / 8)
            go_wp2
            have k0 : (n : Int).tmod 8 = (n : Int) % 8 := Int.tmod_eq_emod_of_nonneg (by omega)
            have k1 : IntKind.i64.wrap ((n : Int) / 8) = (n : Int) / 8 := IntWalk.i64_in _ (by omega)
            have k2 : IntKind.i64.wrap ((n : Int) % 8) = (n : Int) % 8 := IntWalk.i64_in _ (by omega)
            have k3 : IntKind.i64.wrap (7 - (n : Int) % 8) = 7 - (n : Int) % 8 := IntWalk.i64_in _ (by omega)
            have k4 : (0 : Int) ≤ (n : Int) / 8 := by omega
            have k5 : ((n : Int) / 8).toNat = n / 8 := by omega
            have k6 : (0 : Int) ≤ 7 - (n : Int) % 8 := by omega
            have k7 : (7 - (n : Int) % 8).toNat = 7 - n % 8 := by omega
            have k8 : (n : Int) / 8 < 20 := by omega
            have HRest := Lib.hid (And.intro hR2 (And.intro hW2 hsz2))
            have hlt20 : W1.heap.size < W2.heap.size := hR2.lt
            clear hR2 hW2 hsz2
            refine wp_region_still_tail 14 (by kernel_rfl) (by kernel_rfl) ?_
            simp only [List.take_succ_cons, List.take_zero, List.drop_succ_cons, List.drop_zero]
            change wpStill _ _ W2.drew (fun a' => wpList _ _ _ _ a' W2.drew) _ _
            obtain ⟨WD, hWD⟩ : ∃ WD, WD = W2.drew := ⟨_, rfl⟩
            have d2 : WD.cell? ⟨W1.heap.size, n / 8, none⟩ = some (.int .u8 ((HM.pk (hdrBits h) n (n / 8) : Nat) : Int)) := by rw [hWD]; exact hcell
            have df2 : WD.frozen? ⟨W1.heap.size, n / 8, none⟩ = false := by rw [hWD]; exact hfr
            rw [← hWD]
            have HWD := Lib.hid hWD
            clear hWD hcell hfr
            repeat still_step
            refine wpStill_nil ?_
            clear k0 k1 k2 k3 k4 k5 k6 k7 k8
            rw [pk_add' (hdrBits h) n HB1.out]
            obtain ⟨hR3, hW3, hsz3⟩ := HRest.out
            have hR4 : WD.rowIs W1.heap.size 5 20 (fun j => .int .u8 ((HM.pk (hdrBits h) n j : Nat) : Int)) := by rw [HWD.out]; exact hR3.drew
            have hW4 : Below W1.heap.size W1 WD := by rw [HWD.out]; exact hW3.drew
            have hsz4 : W1.heap.size + 1 ≤ WD.heap.size := by rw [HWD.out]; exact hsz3
            have HR4 := Lib.hid hR4
            clear hR3 hW3 hsz3 hR4
            go_wp2
            go_roundw
            case rel =>
              refine ⟨m + 1, by omega, by rw [HN.out]; go_num, by have := HI.out; go_num, by simp; omega, ((HR4.out.set _ _)).congr fun j hj => ?_, hW4.setCell (by simp) _⟩
              rw [← Nat.add_assoc, ← HN.out]
              by_cases hj1 : j = n / 8
              · subst hj1; rw [if_pos rfl]
              · rw [if_neg hj1, HM.pk_other (hdrBits h) n _ (by omega)]
            case measure => simp [intOf] <;> omega
          · have hb2 : ((y : Int) % 2 == 1) = false := by simp; omega
            have HB1 := Lib.hid (show hdrBits h n = false by rw [HBit.out]; simp; omega)
            clear hb1
            go_wp2
            go_roundw
            case rel => exact ⟨m + 1, by omega, by rw [HN.out]; go_num, by have := HI.out; go_num, hsz2, hR2.congr fun j hj => by rw [← Nat.add_assoc, ← HN.out, HM.pk_skip _ _ _ HB1.out], hW2⟩
            case measure => simp [intOf] <;> omega
        · obtain rfl : m = wd := by omega
          have e0 : ((m : Int) - 1 - m) = -1 := by omega
          rw [e0]
          clear e0
          go_wp2
          go_roundw
          case rel => exact ⟨k + 1, by omega, by go_num, by rw [HO.out], hsz2, by rw [HO.out]; exact hR2, hW2⟩
          case measure => simp [intOf]; omega
    · obtain rfl : k = 10 := by omega
      go_wp2
      go_ret
      exact ⟨_, rfl, by have := hb.size; omega, hR, below_step hb hW⟩
end Go.Proofs.Ytofaghpflmeblaa
namespace Go.Proofs.Ytofaghpflmeblaa
open Go.RowKit

theorem rowIs_own {w : World} {g n base : Nat} {t : TypeId} {f : Nat → Value} (h : w.rowIs g t n f) (hb : base ≤ g) (hn : n ≤ maxLen) : w.ownsRow base t 1 (.slice (some ⟨g, 0, none⟩) n n) n ((List.range n).map f) := by
  obtain ⟨c, h1, h2, h3⟩ := h
  refine ⟨by simp, .inr ⟨g, n, c, rfl, hb, h1, Nat.le_refl _, hn, by omega, ?_⟩⟩
  refine List.ext_getElem? fun j => ?_
  rw [Nat.mul_one, List.getElem?_take]
  by_cases hj : j < n
  · rw [if_pos hj, Array.getElem?_toList, h3 j hj]; simp [hj]
  · rw [if_neg hj, List.getElem?_eq_none (by simp; omega)]

theorem rbuild_bad (h : Nat → Int) (A : Option Addr) (n c : Nat) (hn : n ≤ 1000000) (hv : validB (withLen h (20 + n)) = false) (w : World) :
    Calls Try.prog 27 #[.agg (hdr h), .slice A n c] w fun e w' => e = .returned (.tuple #[.slice none 0 0, .int .i64 2]) ∧ Below w.heap.size w w' := by
  have HE := Lib.hid (fun W => rvalid_ok (withLen h (20 + n)) W)
  rw [hv] at HE
  unfold hdr withLen at HE
  simp at HE
  unfold hdr
  clear hv
  go_enter Try.func27, Try.ntmps27
  go_wp2_with (go_at_call 52; refine (HE.out _).mono ?_; rintro e w1 ⟨rfl, hb1⟩)
  go_ret2
  exact ⟨rfl, ((Below.refl _ w).alloc (Nat.le_refl _) _).trans (hb1.mono (by simp))⟩

set_option maxRecDepth 100000 in
set_option maxHeartbeats 1600000 in
theorem rbuild_good (h : Nat → Int) (A : Option Addr) (n c : Nat) (z : Nat → Int) (hn : n ≤ 1000000) (hv : validB (withLen h (20 + n)) = true) (w : World) (hr : Row w w.heap.size A n (fun j => .int .u8 (z j))) :
    Calls Try.prog 27 #[.agg (hdr h), .slice A n c] w (BuildEnd h z n w) := by
  have haw : anyWrong (withLen h (20 + n)) = false := by
    have := hv
    unfold validB at this
    simp at this
    exact this.1.1
  have HV := Lib.hid (fun W => rvalid_ok (withLen h (20 + n)) W)
  have HE := Lib.hid (fun W => bytes42_ok (withLen h (20 + n)) haw W)
  have HH := Lib.hid (Blk.new w 36 (hdr (withLen h (20 + n))))
  have HR := Lib.hid hr
  obtain ⟨i0, hi, hz0, hz1, hz2⟩ := info_parts Try.infoByte
  rw [hv] at HV
  unfold BytesEnd hdr at HE
  obtain ⟨hb, hhb⟩ : ∃ x, x = hdrBits (withLen h (20 + n)) := ⟨_, rfl⟩
  rw [← hhb] at HE
  have HHB := Lib.hid hhb
  unfold hdr withLen at HV HH
  unfold withLen at HE
  simp at HE HV HH
  unfold hdr
  clear hv hr hhb haw
  go_enter Try.func27, Try.ntmps27
  go_wp2_with (first
    | (go_at_call 52; refine (HV.out _).mono ?_; rintro e w0 ⟨rfl, hb0⟩; have h0 : Below w.heap.size w w0 := ((Below.refl _ w).alloc (Nat.le_refl _) _).trans (hb0.mono (by simp)); have BH := HH.out.below hb0 (by simp); have q0 : w0.cell? ⟨w.heap.size, 0, none⟩ = some (.int .i64 (h 0)) := BH.cell 0; have q1 : w0.cell? ⟨w.heap.size, 1, none⟩ = some (.int .i64 (h 1)) := BH.cell 1; have q2 : w0.cell? ⟨w.heap.size, 2, none⟩ = some (.int .i64 (h 2)) := BH.cell 2; have q3 : w0.cell? ⟨w.heap.size, 3, none⟩ = some (.int .i64 (h 3)) := BH.cell 3; have q4 : w0.cell? ⟨w.heap.size, 4, none⟩ = some (.int .i64 (h 4)) := BH.cell 4; have q5 : w0.cell? ⟨w.heap.size, 5, none⟩ = some (.int .i64 (h 5)) := BH.cell 5; have q6 : w0.cell? ⟨w.heap.size, 6, none⟩ = some (.int .i64 (h 6)) := BH.cell 6; have q7 : w0.cell? ⟨w.heap.size, 7, none⟩ = some (.int .i64 (h 7)) := BH.cell 7; have q8 : w0.cell? ⟨w.heap.size, 8, none⟩ = some (.int .i64 (20 + (n : Int))) := BH.cell 8)
    | (go_at_call 53; refine (HE.out _).mono ?_; rintro e w1 ⟨g, rfl, hg, hR1, hb1⟩; have h1 : Below w.heap.size w w1 := below_step h0 hb1; have ho1 := rowIs_own (base := w.heap.size) hR1 (by have := h0.size; omega) (by decide))
    | (at_builtin; refine wpList_append_src _ rfl _ _ 24 rfl w.heap.size 5 i0 (.int .u8 0) 1 Try.underlying24 hi hz0 hz1 hz2 rfl _ _ _ rfl ho1 w1.heap.size A n c (fun j => .int .u8 (z j)) rfl (HR.out.next h1) (fun _ => rfl) (by unfold maxLen; omega) (by omega) h1.size ?_; intro v2 w2 hown2 hg2 hv2))
  go_ret2
  have hg2' : w1.grownBy w2 (Value.slice (some ⟨g, 0, none⟩) 20 20).ownBlock := hg2
  have hbw : Below w.heap.size w w2 := h1.grown hg2' h1.size (fun k hk => (ho1.lt k hk).1)
  rw [HHB.out, pkt_list] at hown2
  obtain ⟨A2, c2, hv, hcap, _, _, _⟩ := own_any (f := fun j => .int .u8 (pktAt (withLen h (20 + n)) z j)) hown2 (fun j hj => by simp [hj])
  subst hv
  exact ⟨A2, c2, rfl, hcap, hown2, hbw⟩
end Go.Proofs.Ytofaghpflmeblaa
namespace Go.Proofs.Ytofaghpflmeblaa
open Go.RowKit

/-- the number that k bits from place p on make -/
def getv (z : Nat → Int) (p : Nat) : Nat → Nat
  | 0 => 0
  | k + 1 => 2 * getv z p k + (if HM.hb z (p + k) then 1 else 0)
theorem getv_lt (z : Nat → Int) (p : Nat) : ∀ k, getv z p k < 2 ^ k
  | 0 => by simp [getv]
  | k + 1 => by
    have := getv_lt z p k
    unfold getv
    rw [Nat.pow_succ]
    split <;> omega
theorem or_bit (v y : Nat) (hv : v < 4294967296) (hy : y < 2) : bits BinOp.or .u64 ((v : Int) * 2) (y : Int) = ((2 * v + y : Nat) : Int) := by
  have e : ((v : Int) * 2) = ((v * 2 ^ 1 : Nat) : Int) := by simp
  rw [e, u64_or_nat _ _ (by omega) (by omega), or_shift v y 1 (by omega)]
  congr 1; omega

theorem and_val : ∀ y, y < 256 → bits BinOp.and .u8 ((y : Nat) : Int) 1 = ((y % 2 : Nat) : Int) := by decide +kernel
theorem get_step (z : Nat → Int) (n x v : Nat) (hv : v < 4294967296) (hx : x < 256) (hb : (bits BinOp.and .u8 ((x : Int) / 2 ^ (7 - n % 8)) 1 == 1) = HM.hb z n) :
    bits BinOp.or .u64 ((v : Int) * 2) (IntKind.u64.wrap (bits BinOp.and .u8 ((x : Int) / 2 ^ (7 - n % 8)) 1)) = ((2 * v + (if HM.hb z n then 1 else 0) : Nat) : Int) := by
  have e : ((x : Int) / 2 ^ (7 - n % 8)) = ((x / 2 ^ (7 - n % 8) : Nat) : Int) := by simp
  rw [e] at hb ⊢
  rw [and_val _ (Nat.lt_of_le_of_lt (Nat.div_le_self _ _) hx)] at hb ⊢
  obtain ⟨y, hy⟩ : ∃ y, y = x / 2 ^ (7 - n % 8) % 2 := ⟨_, rfl⟩
  rw [← hy] at hb ⊢
  have hy2 : y < 2 := by omega
  have hw : IntKind.u64.wrap ((y : Nat) : Int) = ((y : Nat) : Int) := by rw [IntKind.wrap_u64]; omega
  rw [hw, or_bit v y hv hy2, ← hb]
  rcases (by omega : y = 0 ∨ y = 1) with h | h <;> subst h <;> simp

theorem left_ok (g : Nat) (A : Option Addr) (len cap p : Nat) (hl : len ≤ 100000) (hp : p ≤ 8 * len) (w : World) (hB : Blk w g 142 #[.slice A len cap, .int .i64 (p : Int)]) :
    Calls Try.prog 103 #[.pointer (some ⟨g, 0, none⟩)] w fun e w' => e = .returned (.int .i64 (8 * (len : Int) - p)) ∧ ∃ d, w' = w.drewN d := by
  have c0 : w.cell? ⟨g, 0, none⟩ = some (.slice A len cap) := hB.cell 0
  have c1 : w.cell? ⟨g, 1, none⟩ = some (.int .i64 (p : Int)) := hB.cell 1
  have k1 : IntKind.i64.wrap (8 * (len : Int)) = 8 * (len : Int) := IntWalk.i64_in _ (by omega)
  have k2 : IntKind.i64.wrap (8 * (len : Int) - p) = 8 * (len : Int) - p := IntWalk.i64_in _ (by omega)
  go_enter Try.func103, Try.ntmps103
  go_wp2
  go_quiet (fail)
  go_wp2
  go_ret
  exact ⟨rfl, _, rfl⟩

/-- block g is a Reader of len bytes z at place p -/
def RS (w : World) (g : Nat) (A : Option Addr) (len cap : Nat) (z : Nat → Int) (p : Nat) : Prop :=
  Blk w g 142 #[.slice A len cap, .int .i64 (p : Int)] ∧ Row w w.heap.size A len (fun j => .int .u8 (z j))
theorem RS.step {w : World} {g : Nat} {A : Option Addr} {len cap p : Nat} {z : Nat → Int} (h : RS w g A len cap z p) (q : Nat) : RS (w.setCell ⟨g, 1, none⟩ (.int .i64 (q : Int))) g A len cap z q :=
  ⟨h.1.set_ 1 _, h.2.apart h.1 (by intro i hi j; have h2 : i < 2 := hi; match i, h2 with | 0, _ => simp | 1, _ => simp) (p := ⟨g, 1, none⟩) rfl _⟩
theorem RS.drewN {w : World} {g : Nat} {A : Option Addr} {len cap p : Nat} {z : Nat → Int} (h : RS w g A len cap z p) (d : Nat) : RS (w.drewN d) g A len cap z p := h
def GetEnd (g : Nat) (A : Option Addr) (len cap : Nat) (z : Nat → Int) (p width : Nat) (w : World) (e : Ending) (w' : World) : Prop :=
  e = .returned (.tuple #[.int .u64 (getv z p width : Nat), .int .i64 0]) ∧ RS w' g A len cap z (p + width) ∧ w.grownBy w' (some g) ∧ w'.heap.size = w.heap.size

theorem grownBy_drewN {w w' : World} {row : Option Nat} (h : w.grownBy w' row) (d : Nat) : w.grownBy (w'.drewN d) row := ⟨h.os, h.tape, h.output, h.size, h.block⟩
theorem grownBy_set {w w' : World} {g : Nat} (h : w.grownBy w' (some g)) (i : Nat) (v : Value) : w.grownBy (w'.setCell ⟨g, i, none⟩ v) (some g) :=
  ⟨h.os, h.tape, h.output, by simpa using h.size, fun k hk hne => (Below.heap_setCell w' _ _ k (fun e => hne (by rw [e]))).trans (h.block k hk hne)⟩

set_option maxRecDepth 100000 in
set_option maxHeartbeats 3200000 in
theorem get_ok (g : Nat) (A : Option Addr) (len cap p width : Nat) (z : Nat → Int) (hl : len ≤ 100000) (hw : width ≤ 32) (hp : p + width ≤ 8 * len) (hz : ∀ j, j < len → 0 ≤ z j ∧ z j < 256) (w : World) (h : RS w g A len cap z p) :
    Calls Try.prog 97 #[.pointer (some ⟨g, 0, none⟩), .int .i64 (width : Int)] w (GetEnd g A len cap z p width w) := by
  have HZ := Lib.hid hz
  have HR := Lib.hid h
  have HL := Lib.hid (left_ok g A len cap p hl (by omega) w h.1)
  have hlt : (width : Int) ≤ 8 * (len : Int) - p := by omega
  clear hz h
  go_enter Try.func97, Try.ntmps97
  go_wp2_with (go_at_call 103; refine (HL.out).mono ?_; rintro e w1 ⟨rfl, d1, rfl⟩)
  go_loopw [4, 22] (fun v4 v22 wr => ∃ k : Nat, k ≤ width ∧ v22 = .int .i64 k ∧ v4 = .int .u64 (getv z p k : Nat) ∧ RS wr g A len cap z (p + k) ∧ w.grownBy wr (some g) ∧ wr.heap.size = w.heap.size) (fun _ v _ => width - (intOf v).toNat)
  case atStart => exact ⟨0, Nat.zero_le _, rfl, rfl, HR.out.drewN _, ⟨rfl, rfl, rfl, Nat.le_refl _, fun _ _ _ => rfl⟩, rfl⟩
  case round =>
    obtain ⟨k, hk, rfl, rfl, hR, hg, hs⟩ := hrel
    have HRk := Lib.hid hR
    have HG := Lib.hid hg
    have HS := Lib.hid hs
    clear hR hg hs
    by_cases hlt2 : k < width
    · have c0 : wr.cell? ⟨g, 0, none⟩ = some (.slice A len cap) := HRk.out.1.cell 0
      have c1 : wr.cell? ⟨g, 1, none⟩ = some (.int .i64 ((p + k : Nat) : Int)) := HRk.out.1.cell 1
      have f1 := HRk.out.1.frozen 1
      obtain ⟨n, hn⟩ : ∃ n, n = p + k := ⟨_, rfl⟩
      rw [← hn] at c1
      have hn8 : n / 8 < len := by omega
      obtain ⟨lb, lo, rfl, hlb, hlc⟩ := HRk.out.2 (by omega)
      obtain ⟨x, hx⟩ : ∃ x : Nat, z (n / 8) = (x : Int) := ⟨(z (n / 8)).toNat, by have := HZ.out (n / 8) hn8; omega⟩
      have hx256 : x < 256 := by have := HZ.out (n / 8) hn8; omega
      have hci : wr.cell? ⟨lb, lo + n / 8, none⟩ = some (.int .u8 (x : Int)) := by rw [← hx]; exact hlc _ hn8
      have hbit := bit_hb z n x hx hx256
      have HBit := Lib.hid hbit
      have hvl := getv_lt z p k
      have hv32 : getv z p k < 4294967296 := Nat.lt_of_lt_of_le hvl (Nat.le_trans (Nat.pow_le_pow_right (by decide) (by omega : k ≤ 32)) (by decide))
      obtain ⟨v, hv⟩ : ∃ v, v = getv z p k := ⟨_, rfl⟩
      rw [← hv] at hv32 ⊢
      have HN := Lib.hid hn
      have HV := Lib.hid hv
      clear hlc hx hbit hvl hv hn
      go_wp2
      have k0 : (n : Int).tmod 8 = (n : Int) % 8 := Int.tmod_eq_emod_of_nonneg (by omega)
      have k1 : IntKind.i64.wrap ((n : Int) / 8) = (n : Int) / 8 := IntWalk.i64_in _ (by omega)
      have k2 : IntKind.i64.wrap ((n : Int) % 8) = (n : Int) % 8 := IntWalk.i64_in _ (by omega)
      have k3 : IntKind.i64.wrap (7 - (n : Int) % 8) = 7 - (n : Int) % 8 := IntWalk.i64_in _ (by omega)
      have k4 : (0 : Int) ≤ (n : Int) / 8 := by omega
      have k5 : ((n : Int) / 8).toNat = n / 8 := by omega
      have k6 : (0 : Int) ≤ 7 - (n : Int) % 8 := by omega
      have k7 : (7 - (n : Int) % 8).toNat = 7 - n % 8 := by omega
      have k8 : (n : Int) / 8 < (len : Int) := by omega
      have k9 : IntKind.u64.wrap ((v : Int) * 2) = (v : Int) * 2 := by rw [IntKind.wrap_u64]; omega
      go_quiet (fail)
      clear k0 k1 k2 k3 k4 k5 k6 k7 k8 k9
      rw [get_step z n x v hv32 hx256 HBit.out]
      have hgv : ((2 * v + (if HM.hb z n then 1 else 0) : Nat) : Int) = ((getv z p (k + 1) : Nat) : Int) := by
        rw [HV.out, HN.out]; rfl
      rw [hgv]
      clear hgv
      go_wp2
      go_roundw
      case rel => exact ⟨k + 1, by omega, by go_num, rfl, by
        have h1 := (HRk.out.drewN nq).step (n + 1)
        rw [← Nat.add_assoc, ← HN.out]
        simpa using h1, grownBy_set (grownBy_drewN HG.out _) _ _, by simp; exact HS.out⟩
      case measure => simp [intOf]; omega
    · obtain rfl : k = width := by omega
      go_wp2
      go_ret2
      exact ⟨rfl, HRk.out, HG.out, HS.out⟩
end Go.Proofs.Ytofaghpflmeblaa
namespace Go.Proofs.Ytofaghpflmeblaa
open Go.RowKit

theorem each1_idle (eb fb rb ob : Nat) (w : World) (he : w.cell? ⟨eb, 0, none⟩ = some (.int .i64 0)) :
    CallsD Try.prog 102 #[.pointer (some ⟨eb, 0, none⟩), .pointer (some ⟨fb, 0, none⟩), .pointer (some ⟨rb, 0, none⟩), .pointer (some ⟨ob, 0, none⟩)] .returning w fun e u' w' => u' = .returning ∧ e = .returned (.tuple #[]) ∧ w' = w := by
  go_enter_d Try.func102, Try.ntmps102
  go_wp2
  go_end0
  exact ⟨rfl, rfl⟩

/-- the sum of the first j widths -/
def so (ws : Nat → Nat) : Nat → Nat
  | 0 => 0
  | j + 1 => so ws j + ws j
def valList (z : Nat → Int) (ws : Nat → Nat) (p m : Nat) : List Value := (List.range m).map (fun j => .int .u64 ((getv z (p + so ws j) (ws j) : Nat) : Int))
theorem valList_len (z : Nat → Int) (ws : Nat → Nat) (p m : Nat) : (valList z ws p m).length = m := by simp [valList]
theorem valList_succ (z : Nat → Int) (ws : Nat → Nat) (p m : Nat) : valList z ws p (m + 1) = valList z ws p m ++ [.int .u64 ((getv z (p + so ws m) (ws m) : Nat) : Int)] := by simp [valList, List.range_succ]
theorem valList_at (z : Nat → Int) (ws : Nat → Nat) (p m j : Nat) (h : j < m) : (valList z ws p m)[j]? = some (.int .u64 ((getv z (p + so ws j) (ws j) : Nat) : Int)) := by simp [valList, h]
theorem so_mono (ws : Nat → Nat) (a : Nat) : ∀ d, so ws a ≤ so ws (a + d)
  | 0 => Nat.le_refl _
  | d + 1 => Nat.le_trans (so_mono ws a d) (Nat.le_add_right _ _)
theorem infoU64 : (Try.prog.info? 122).map (fun i => (i.zero, i.size, i.bytes)) = some (some (.int .u64 0), 1, 8) := by kernel_rfl
theorem grownBy_of {a w : World} (h : Below a.heap.size a w) : a.grownBy w none := ⟨h.os, h.tape, h.output, h.size, fun i hi _ => h.block i hi⟩
theorem RS.grown {w w' : World} {g : Nat} {A : Option Addr} {len cap p : Nat} {z : Nat → Int} (h : RS w g A len cap z p) {row : Option Nat} (hg : w.grownBy w' row) (hgr : some g ≠ row) (hA : ∀ a, A = some a → some a.block ≠ row) : RS w' g A len cap z p :=
  ⟨h.1.grown hg hgr, fun hn => by
    obtain ⟨b, off, e, hb, hc⟩ := h.2 hn
    refine ⟨b, off, e, by have := hg.size; omega, fun j hj => ?_⟩
    exact (cell_of_block (p := ⟨b, off + j, none⟩) (hg.block b hb (hA _ e))).trans (hc j hj)⟩
def EachEnd (g : Nat) (z : Nat → Int) (ws : Nat → Nat) (p n : Nat) (w : World) (e : Ending) (w' : World) : Prop :=
  ∃ B c, e = .returned (.tuple #[.slice B n c, .int .i64 0]) ∧ Row w' w'.heap.size B n (fun j => .int .u64 ((getv z (p + so ws j) (ws j) : Nat) : Int)) ∧ w.grownBy w' (some g)

set_option maxRecDepth 100000 in
set_option maxHeartbeats 3200000 in
theorem each_ok (g : Nat) (A L : Option Addr) (len cap p n lc : Nat) (z : Nat → Int) (ws : Nat → Nat) (hl : len ≤ 100000) (hn : n ≤ 1000) (hws : ∀ j, j < n → ws j ≤ 32) (hp : p + so ws n ≤ 8 * len) (hz : ∀ j, j < len → 0 ≤ z j ∧ z j < 256) (hLg : ∀ a, L = some a → a.block ≠ g) (hAg : ∀ a, A = some a → a.block < g) (w : World) (h : RS w g A len cap z p) (hL : Row w w.heap.size L n (fun j => .int .i64 (ws j : Nat))) :
    Calls Try.prog 96 #[.pointer (some ⟨g, 0, none⟩), .slice L n lc, .func (.func 97) #[.pointer (some ⟨g, 0, none⟩)] #[]] w (EachEnd g z ws p n w) := by
  have HR := Lib.hid h
  have HL := Lib.hid hL
  have HZ := Lib.hid hz
  have HWS := Lib.hid hws
  have hmf : ∀ (fn : Fn) (first cap : Array Value) (w : World), (Instr.makeFunc fn first cap).run Try.prog w = .ok (.func fn first cap) w := fun _ _ _ _ => rfl
  have hgl := h.1.lt
  have hca : ∀ o1 o2 o3, (((w.alloc o1).alloc o2).alloc o3).cell? ⟨g, 1, none⟩ = some (.int .i64 (p : Int)) := fun o1 o2 o3 =>
    (World.cell?_alloc_lt _ _ ⟨g, 1, none⟩ (by simp; omega)).trans ((World.cell?_alloc_lt _ _ ⟨g, 1, none⟩ (by simp; omega)).trans ((World.cell?_alloc_lt _ _ ⟨g, 1, none⟩ hgl).trans (h.1.cell 1)))
  obtain ⟨i0, hi0, hz0, hz1, hz2⟩ := info_parts infoU64
  have HLG := Lib.hid hLg
  have HAG := Lib.hid hAg
  clear h hL hz hws hLg hAg
  go_enter_defers Try.func96, Try.ntmps96
  go_wp2
  clear hca
  obtain ⟨W0, hW0⟩ : ∃ W0, W0 = (((w.alloc (.cells #[.pointer (some ⟨g, 0, none⟩)] 115)).alloc (.cells #[.slice none 0 0] 119)).alloc (.cells #[.int .i64 0] 28)).alloc (.cells #[.int .i64 (p : Int)] 3) := ⟨_, rfl⟩
  have z0 : W0.heap.size = w.heap.size + 4 := by rw [hW0]; simp
  have b0 : Below w.heap.size w W0 := by rw [hW0]; exact ((((Below.refl _ w).alloc (Nat.le_refl _) _).alloc (by simp) _).alloc (by simp; omega) _).alloc (by simp; omega) _
  have O0 : Boxed W0 (w.heap.size + 1) 119 (.slice none 0 0) := by
    rw [hW0]
    have := Boxed.new (w.alloc (.cells #[.pointer (some ⟨g, 0, none⟩)] 115)) 119 (.slice none 0 0)
    rw [World.size_alloc] at this
    exact (this.alloc _).alloc _
  have E0 : Blk W0 (w.heap.size + 2) 28 #[.int .i64 0] := by
    rw [hW0]
    have := Blk.new ((w.alloc (.cells #[.pointer (some ⟨g, 0, none⟩)] 115)).alloc (.cells #[.slice none 0 0] 119)) 28 #[.int .i64 0]
    rw [World.size_alloc, World.size_alloc] at this
    exact this.alloc _
  have R0 : RS W0 g A len cap z p := HR.out.grown (grownBy_of b0) (by simp) (fun _ _ h => by cases h)
  rw [← hW0]
  have HO := Lib.hid O0
  have HE := Lib.hid E0
  have HR0 := Lib.hid R0
  have HB0 := Lib.hid b0
  clear hW0 O0 E0 R0 b0
  go_loopw [22] (fun v22 wr => ∃ k : Nat, k ≤ n ∧ v22 = .int .i64 k ∧ (∃ v, Boxed wr (w.heap.size + 1) 119 v ∧ wr.ownsRow (w.heap.size + 4) 122 1 v k (valList z ws p k)) ∧ Blk wr (w.heap.size + 2) 28 #[.int .i64 0] ∧ RS wr g A len cap z (p + so ws k) ∧ w.grownBy wr (some g) ∧ w.heap.size + 4 ≤ wr.heap.size) (fun v _ => n - (intOf v).toNat)
  case atStart => exact ⟨0, Nat.zero_le _, rfl, ⟨_, HO.out, World.ownsRow_nil _ _ _ _⟩, HE.out, HR0.out, ⟨HB0.out.os, HB0.out.tape, HB0.out.output, HB0.out.size, fun k h1 h2 => HB0.out.block k h1⟩, by omega⟩
  case round =>
    obtain ⟨k, hk, rfl, ⟨v, hO, hown⟩, hE, hR, hG, hS⟩ := hrel
    have HRk := Lib.hid hR
    have HG := Lib.hid hG
    obtain ⟨vA, vc, rfl, _, _, _, hvr⟩ := own_any (f := fun j => .int .u64 ((getv z (p + so ws j) (ws j) : Nat) : Int)) hown (fun j hj => valList_at _ _ _ _ _ hj)
    have hOc := hO.cell
    clear hR hG
    by_cases hlt : k < n
    · have hcl : ∃ lb lo, L = some ⟨lb, lo, none⟩ ∧ wr.cell? ⟨lb, lo + k, none⟩ = some (.int .i64 (ws k : Nat)) := by
        obtain ⟨lb, lo, e, hlb, hlc⟩ := HL.out (by omega)
        exact ⟨lb, lo, e, (cell_of_block (p := ⟨lb, lo + k, none⟩) (HG.out.block lb hlb (fun h => HLG.out _ e (by cases h; rfl)))).trans (hlc k hlt)⟩
      obtain ⟨lb, lo, rfl, hcl⟩ := hcl
      have hwk := HWS.out k hlt
      have hso : p + so ws k + ws k ≤ 8 * len := by
        have h1 := so_mono ws (k + 1) (n - (k + 1))
        rw [show k + 1 + (n - (k + 1)) = n by omega] at h1
        have h2 : so ws (k + 1) = so ws k + ws k := rfl
        omega
      have HGet := Lib.hid (get_ok g A len cap (p + so ws k) (ws k) z hl hwk hso HZ.out wr HRk.out)
      go_wp2_with (first
        | (go_at_call 97; refine (HGet.out).mono ?_; rintro e w2 ⟨rfl, hR2, hg2, hs2⟩; have hO2 : Boxed w2 (w.heap.size + 1) 119 (.slice vA k vc) := hO.kept hg2 (by simp; omega); have hE2 := hE.grown hg2 (by simp; omega); have hown2 := hown.kept hg2 (.inr (fun e => by have := (hown.lt g (by first | exact e | exact e.symm)).1; omega)); have hOc2 := hO2.cell; have HR2 := Lib.hid hR2; have HG2 := Lib.hid hg2; have HS2 := Lib.hid hs2; clear hR2 hg2 hs2 hOc)
        | (at_builtin; refine wpList_append_own _ rfl _ _ 119 rfl (w.heap.size + 4) 122 i0 (.int .u64 0) 1 8 Try.underlying119 hi0 hz0 hz1 hz2 rfl (by decide) _ _ _ rfl (hown2.alloc _) ⟨w2.heap.size, 0, none⟩ 1 1 [.int .u64 ((getv z (p + so ws k) (ws k) : Nat) : Int)] rfl rfl (cell_one_new _ _ _) (by simp [Value.oneCell']) (by unfold maxLen; omega) (by omega) (by have := HS2.out; simp; omega) ?_; intro v' w3 hown' hgrow _; obtain ⟨g', cap', rfl⟩ := ownsRow_succ hown'; obtain ⟨hv1, hv2, hr2, hk2, hb2⟩ := hO2.appended (by decide) (ownsRow_mono hown2 (show w.heap.size + 1 ≤ _ by omega)) (by have := HS2.out; omega) (Nat.le_refl _) (ownsRow_mono hown' (by omega)) hgrow; have hc1 := hv1.cell; have hf1 := hv1.frozen))
      have hown3 := hown'.kept (grownBy_setCell' w3 (w.heap.size + 1) (.slice (some ⟨g', 0, none⟩) (k + 1) cap')) (.inr (hv1.not_row (by decide) hown').symm)
      go_roundw
      case rel =>
        refine ⟨k + 1, by omega, by go_num, ⟨_, hv2, by rw [valList_succ]; exact hown3⟩, ?_, ?_, ?_, ?_⟩
        · have h1 : w3.heap[w.heap.size + 2]? = w2.heap[w.heap.size + 2]? := (hgrow.block (w.heap.size + 2) (by have := HS2.out; simp; omega) (fun e => by have := (hown2.lt _ e.symm).1; omega)).trans (Below.heap_alloc w2 _ _ (by have := HS2.out; omega))
          exact ((Below.heap_setCell w3 _ _ (w.heap.size + 2) (by simp)).trans h1).trans hE2
        · rw [show p + so ws (k + 1) = p + so ws k + ws k by show p + (so ws k + ws k) = _; omega]
          have hfar : ∀ b, b < w.heap.size → (w3.setCell ⟨w.heap.size + 1, 0, none⟩ (.slice (some ⟨g', 0, none⟩) (k + 1) cap')).heap[b]? = w2.heap[b]? := fun b hb => hb2.block b (by omega)
          exact ⟨(hfar g hgl).trans HR2.out.1, fun hn0 => by
            obtain ⟨b, off, e, hb, hc⟩ := HR2.out.2 hn0
            have hbg : b < g := HAG.out _ e
            exact ⟨b, off, e, by have := hb2.size; omega, fun j hj => (cell_of_block (p := ⟨b, off + j, none⟩) (hfar b (by omega))).trans (hc j hj)⟩⟩
        · have h0 : w.grownBy w2 (some g) := ⟨HG2.out.os.trans HG.out.os, HG2.out.tape.trans HG.out.tape, HG2.out.output.trans HG.out.output, Nat.le_trans HG.out.size HG2.out.size, fun b h1 h2 => (HG2.out.block b (by have := HG.out.size; omega) h2).trans (HG.out.block b h1 h2)⟩
          exact ⟨hb2.os.trans h0.os, hb2.tape.trans h0.tape, hb2.output.trans h0.output, Nat.le_trans h0.size hb2.size, fun b h1 h2 => (hb2.block b (by omega)).trans (h0.block b h1 h2)⟩
        · have := hb2.size; have := HS2.out; omega
      case measure => simp [intOf]; omega
    · obtain rfl : k = n := by omega
      have hEc := hE.cell 0
      have hEf := hE.frozen 0
      have hOf := hO.frozen
      go_wp2
      have hO2 : Blk ((wr.setCell ⟨w.heap.size + 1, 0, none⟩ (.slice vA k vc)).setCell ⟨w.heap.size + 1 + 1, 0, none⟩ (.int .i64 0)) (w.heap.size + 1) 119 #[.slice vA k vc] := (Blk.set_ (cs := #[.slice vA k vc]) hO 0 (.slice vA k vc)).far (by simp) _
      have hE2 : Blk ((wr.setCell ⟨w.heap.size + 1, 0, none⟩ (.slice vA k vc)).setCell ⟨w.heap.size + 1 + 1, 0, none⟩ (.int .i64 0)) (w.heap.size + 2) 28 #[.int .i64 0] := (hE.far (by simp) _).set_ 0 (.int .i64 0)
      have y0 := hO2.cell 0
      have y1 := hE2.cell 0
      refine leaves_cons (f := 102) (args := #[.pointer (some ⟨w.heap.size + 1 + 1, 0, none⟩), .pointer (some ⟨w.heap.size + 1 + 1 + 1, 0, none⟩), .pointer (some ⟨w.heap.size, 0, none⟩), .pointer (some ⟨w.heap.size + 1, 0, none⟩)]) (by simp) (by simp [go_sem]) ?_
      refine (each1_idle _ _ _ _ _ y1).mono ?_
      rintro e u' w'' ⟨rfl, rfl, rfl⟩
      refine ⟨.tuple #[.slice vA k vc, .int .i64 0], by simp [results, Try.results96, go_sem, y0, y1], vA, vc, rfl, ?_, ?_⟩
      · have r1 := hvr.apart (cs := #[.slice vA k vc]) hO (by intro i hi j; have h1 : i < 1 := hi; match i, h1 with | 0, _ => simp) (p := ⟨w.heap.size + 1, 0, none⟩) rfl (.slice vA k vc)
        exact r1.apart (hE.far (p := ⟨w.heap.size + 1, 0, none⟩) (by simp) (.slice vA k vc)) (by intro i hi j; have h1 : i < 1 := hi; match i, h1 with | 0, _ => simp) (p := ⟨w.heap.size + 2, 0, none⟩) rfl (.int .i64 0)
      · exact ⟨HG.out.os, HG.out.tape, HG.out.output, by simpa using HG.out.size, fun b h1 h2 => (Below.heap_setCell _ _ _ b (by simp; omega)).trans ((Below.heap_setCell _ _ _ b (by simp; omega)).trans (HG.out.block b h1 h2))⟩
end Go.Proofs.Ytofaghpflmeblaa
namespace Go.Proofs.Ytofaghpflmeblaa
open Go.RowKit Go.Shelf

attribute [local go_sem] Oper.semAt_some

theorem must_true (e : Int) (w : World) : Calls Try.prog 64 #[.bool true, .int .i64 e] w fun en w' => en = .returned (.tuple #[]) ∧ w' = w := by
  go_enter Try.func64, Try.ntmps64
  go_wp2
  go_end0
  exact ⟨rfl, rfl⟩
theorem must_false (e : Int) (w : World) : Calls Try.prog 64 #[.bool false, .int .i64 e] w fun en w' => en = .panicked [{ v := .iface 28 (.int .i64 e), recovered := false }] ∧ w' = w := by
  go_enter Try.func64, Try.ntmps64
  go_wp2
  exact ⟨rfl, rfl, rfl⟩
theorem got_ok (B : Option Addr) (n c : Nat) (w : World) : Calls Try.prog 81 #[.slice B n c, .int .i64 0] w fun en w' => en = .returned (.slice B n c) ∧ w' = w := by
  go_enter Try.func81, Try.ntmps81
  go_wp2_with (go_at_call 64; refine (must_true _ _).mono ?_; rintro e w1 ⟨rfl, rfl⟩)
  go_ret
  exact ⟨rfl, rfl⟩

theorem newReader_ok (A : Option Addr) (n c : Nat) (z : Nat → Int) (hn : n ≤ 100000) (w : World) (hr : Row w w.heap.size A n (fun j => .int .u8 (z j))) :
    Calls Try.prog 65 #[.slice A n c] w fun e w' => ∃ g A2 c2, e = .returned (.pointer (some ⟨g, 0, none⟩)) ∧ w.heap.size ≤ g ∧ RS w' g A2 n c2 z 0 ∧ (∀ a, A2 = some a → a.block < g) ∧ Below w.heap.size w w' ∧ w'.heap.size = g + 1 := by
  have HC := Lib.hid (clone_own A n c z w (by omega) hr)
  clear hr
  go_enter Try.func65, Try.ntmps65
  go_wp2_with (go_at_call 59; refine (HC.out).mono ?_; rintro e w1 ⟨A2, c2, rfl, hc2, ho, hb⟩; have HC2 := Lib.hid hc2; clear hc2)
  go_ret
  have hR := (own_map_row ho).2
  refine ⟨w1.heap.size, A2, c2, rfl, hb.size, ⟨Blk.new _ _ _, row_new hR _⟩, fun a e => ?_, below_new hb _, by simp⟩
  subst e
  exact (ho.lt a.block (by simp [Value.ownBlock])).2

def GetAllEnd (g : Nat) (z : Nat → Int) (ws : Nat → Nat) (p n : Nat) (w : World) (e : Ending) (w' : World) : Prop := EachEnd g z ws p n w e w'
theorem getAll_ok (g : Nat) (A L : Option Addr) (len cap p n lc : Nat) (z : Nat → Int) (ws : Nat → Nat) (hl : len ≤ 100000) (hn : n ≤ 1000) (hws : ∀ j, j < n → ws j ≤ 32) (hp : p + so ws n ≤ 8 * len) (hz : ∀ j, j < len → 0 ≤ z j ∧ z j < 256) (hLg : ∀ a, L = some a → a.block ≠ g) (hAg : ∀ a, A = some a → a.block < g) (w : World) (h : RS w g A len cap z p) (hL : Row w w.heap.size L n (fun j => .int .i64 (ws j : Nat))) :
    Calls Try.prog 82 #[.pointer (some ⟨g, 0, none⟩), .slice L n lc] w (EachEnd g z ws p n w) := by
  have HE := Lib.hid (each_ok g A L len cap p n lc z ws hl hn hws hp hz hLg hAg w h hL)
  have hmf : ∀ (fn : Fn) (first cap : Array Value) (w : World), (Instr.makeFunc fn first cap).run Try.prog w = .ok (.func fn first cap) w := fun _ _ _ _ => rfl
  clear hws hp hz hLg hAg h hL
  go_enter Try.func82, Try.ntmps82
  go_wp2_with (go_at_call 96; refine (HE.out).mono ?_; rintro e w1 ⟨B, c, rfl, hR, hg⟩)
  go_ret2
  exact ⟨B, c, rfl, hR, hg⟩

theorem pname_str (k : Nat) (hk : k < 10) : ∃ s, pname k = .string s :=
  ten (p := fun k => ∃ s, pname k = .string s) ⟨_, rfl⟩ ⟨_, rfl⟩ ⟨_, rfl⟩ ⟨_, rfl⟩ ⟨_, rfl⟩ ⟨_, rfl⟩ ⟨_, rfl⟩ ⟨_, rfl⟩ ⟨_, rfl⟩ ⟨_, rfl⟩ k hk
theorem pfn_func (b k : Nat) (hk : k < 10) : ∃ F caps, pfn b k = .func F #[] caps :=
  ten (p := fun k => ∃ F caps, pfn b k = .func F #[] caps) ⟨_, _, rfl⟩ ⟨_, _, rfl⟩ ⟨_, _, rfl⟩ ⟨_, _, rfl⟩ ⟨_, _, rfl⟩ ⟨_, _, rfl⟩ ⟨_, _, rfl⟩ ⟨_, _, rfl⟩ ⟨_, _, rfl⟩ ⟨_, _, rfl⟩ k hk

set_option maxRecDepth 100000 in
set_option maxHeartbeats 2000000 in
theorem fields_stops (n : Nat) (w : World) (hn : 1 ≤ n) :
    SeqStopsK Fence.wide n Try.prog 98 #[] (fun k : Nat => #[pname k, .int .i64 (pwd k : Nat)]) (fun _ _ => True) (fun xs => xs = List.range 10) (fun pre => ∃ m, m ≤ 10 ∧ pre = List.range m) 10 w := fun l J Jx W hW hJ hJx hY h0 => by
  have HY := Lib.hid hY
  have HJ := Lib.hid hJ
  clear hJ hJx hY hW
  refine callsIn_of_wp Try.func98 rfl trivial ?_ rfl
  simp only [Try.ntmps98, List.size_toArray, List.length_cons, List.length_nil, Nat.reduceAdd, Nat.reduceSub, Array.replicate_succ, Array.replicate_zero, List.push_toArray, List.append_toArray, List.nil_append, List.cons_append]
  refine wpIn_wide.2 (wp_scope_straight ((wpIn_wide (n := n)).1 ?_))
  gi_wp2
  refine wpIn_label ?_
  gi_wp2_with (refine ⟨trivial, ?_⟩; gi_at_call 68; refine (callsIn_wide.2 (parts_ok _)).mono ?_; rintro e w1 ⟨rfl, hB1, hb1⟩)
  have hJ1 : J [] w1 := HJ.out _ W w1 none h0 (grown_of_below hb1 none) (fun r h => by cases h)
  gi_loopw [5] (fun v wr => ∃ k : Nat, k ≤ 10 ∧ v = .int .i64 k ∧ J (List.range k) wr) (fun v _ => 10 - (intOf v).toNat)
  case atStart => exact ⟨0, by omega, rfl, hJ1⟩
  case round =>
    obtain ⟨k, hk, rfl, hJk⟩ := hrel
    by_cases hlt : k < 10
    · have hix : ∀ X : World, (Instr.index 126 (.agg (partsArr (W.heap.size + 1))) (.int .i64 k)).run Try.prog X = .ok (.agg #[pname k, .int .i64 (pwd k : Nat), pfn (W.heap.size + 1) k]) X := by
        exact ten (p := fun k : Nat => ∀ X : World, (Instr.index 126 (.agg (partsArr (W.heap.size + 1))) (.int .i64 k)).run Try.prog X = .ok (.agg #[pname k, .int .i64 (pwd k : Nat), pfn (W.heap.size + 1) k]) X) (fun _ => by kernel_rfl) (fun _ => by kernel_rfl) (fun _ => by kernel_rfl) (fun _ => by kernel_rfl) (fun _ => by kernel_rfl) (fun _ => by kernel_rfl) (fun _ => by kernel_rfl) (fun _ => by kernel_rfl) (fun _ => by kernel_rfl) (fun _ => by kernel_rfl) k hlt
      obtain ⟨sn, hsn⟩ := pname_str k hlt
      obtain ⟨F, caps, hF⟩ := pfn_func (W.heap.size + 1) k hlt
      rw [hsn, hF] at hix
      obtain ⟨W2, hW2⟩ : ∃ W2, W2 = wr.alloc (.cells #[.string sn, .int .i64 (pwd k : Nat), .func F #[] caps] 125) := ⟨_, rfl⟩
      have hJ2 : J (List.range k) W2 := by rw [hW2]; exact HJ.out _ wr _ none hJk (World.grownBy_alloc wr _ none) (fun r h => by cases h)
      have hY2 := HY.out (List.range k) k W2 hJ2 (by simpa using hlt)
      rw [hsn] at hY2
      obtain ⟨fn, tmps, assign, body, hy, hR⟩ := hY2
      have HRr := Lib.hid hR
      have HW2 := Lib.hid hW2
      rw [hW2] at hy
      clear hR hsn hF hW2
      gi_wp2
      rw [← HW2.out]
      refine HRr.out.mono ?_
      rintro e w4 (⟨rfl, hJ4, _⟩ | ⟨rfl, hx4⟩)
      · gi_wp2
        go_roundw
        case rel => exact ⟨k + 1, by omega, by go_num, by rw [List.range_succ]; exact hJ4⟩
        case measure => simp [intOf]; omega
      · gi_wp2
        try rw [Exit.noGoto_normal]
        go_end0
        exact ⟨⟨_, rfl⟩, .inr ⟨List.range (k + 1), ⟨k + 1, by omega, rfl⟩, by rw [List.range_succ]; exact hx4⟩⟩
    · obtain rfl : k = 10 := by omega
      gi_wp2
      try rw [Exit.noGoto_normal]
      go_end0
      exact ⟨⟨_, rfl⟩, .inl ⟨_, rfl, hJk⟩⟩
end Go.Proofs.Ytofaghpflmeblaa
namespace Go.Proofs.Ytofaghpflmeblaa
open Go.RowKit Go.Shelf

attribute [local go_sem] Oper.semAt_some

theorem fields_fn (w : World) : Calls Try.prog 83 #[] w fun e w' => e = .returned (.func (.func 98) #[] #[]) ∧ w' = w := by
  go_enter Try.func83, Try.ntmps83
  go_wp2
  go_ret
  exact ⟨rfl, rfl⟩
def WidthsEnd (w : World) (e : Ending) (w' : World) : Prop :=
  ∃ B c, e = .returned (.slice B 10 c) ∧ Row w' w'.heap.size B 10 (fun j => .int .i64 (pwd j : Nat)) ∧ Fresh w.heap.size B ∧ Below w.heap.size w w'

set_option maxRecDepth 100000 in
set_option maxHeartbeats 2000000 in
theorem widths_ok (w : World) : Calls Try.prog 67 #[] w (WidthsEnd w) := by
  obtain ⟨i0, hi0, hz0, hz1, hz2⟩ := info_parts Try.infoInt
  refine (callsIn_wide (n := 8)).1 ?_
  refine callsIn_of_wp_marks Try.func67 rfl trivial ?_ rfl
  simp only [Try.ntmps67, List.size_toArray, List.length_nil, Nat.reduceSub, Array.replicate_succ, Array.replicate_zero, List.push_toArray, List.append_toArray, List.nil_append, List.cons_append]
  gi_wp2_with (refine ⟨trivial, ?_⟩; gi_at_call 83; refine (callsIn_wide.2 (fields_fn _)).mono ?_; rintro e w3 ⟨rfl, rfl⟩)
  obtain ⟨W0, hW0⟩ : ∃ W0, W0 = w.alloc (.cells #[.slice none 0 0] 48) := ⟨_, rfl⟩
  have z0 : W0.heap.size = w.heap.size + 1 := by rw [hW0]; simp
  have B0 : Boxed W0 w.heap.size 48 (.slice none 0 0) := by rw [hW0]; exact Boxed.new w _ _
  have hb0 : Below w.heap.size w W0 := by rw [hW0]; exact (Below.refl _ w).alloc (Nat.le_refl _) _
  rw [← hW0]
  clear hW0
  refine wpIn_rangeFunc_ownF rfl (by decide) (gf := 98) (lb := #[]) rfl trivial (enters_of Try.func98 (by kernel_rfl) rfl)
    (fields_stops 7 W0 (by decide)) (fun _ _ => trivial) (fun _ _ _ _ _ _ _ _ => trivial) (Below.refl _ _) (fun _ => rfl)
    (fun pre W => (∃ v, Boxed W w.heap.size 48 v ∧ W.ownsRow (w.heap.size + 1) 3 1 v pre.length (pre.map (fun k => Value.int .i64 (pwd k : Nat))) ∧ True) ∧ Below w.heap.size W0 W)
    (fun c pre W => False)
    (OwnFrom.and (Own.from (holdsRow_own (w.heap.size + 1) w.heap.size 48 3 1 (fun s : List Nat => s.length) (fun s => s.map (fun k => Value.int .i64 (pwd k : Nat))) (fun _ _ => True)) _) (ownFrom_below (by omega) (by omega)))
    (fun c s A B row hs hg hr => hs)
    ⟨⟨_, B0, World.ownsRow_nil _ _ _ _, trivial⟩, Below.refl _ _⟩
    ?a1 ?assign ?body ?done ?stop
  case assign =>
    intro l x W K hK
    gi_wp2
    exact hK
  case body =>
    rintro l pre x W ⟨⟨v, hbx, hown, _⟩, hBW⟩ hlen
    have hc := hbx.cell
    have hbs := hBW.size
    gi_wp2_with (gi_at_builtin; refine wpListIn_append_own _ rfl _ _ 48 rfl (w.heap.size + 1) 3 i0 (.int .i64 0) 1 8 Try.underlying48 hi0 hz0 hz1 hz2 rfl (by decide) _ _ _ rfl (hown.alloc _) ⟨W.heap.size, 0, none⟩ 1 1 [.int .i64 (pwd x : Nat)] rfl rfl (cell_one_new _ _ _) (by simp [Value.oneCell']) (by unfold maxLen; omega) (by omega) (by simp; omega) ?_; intro v' w1 hown' hgrow _; obtain ⟨g', cap', rfl⟩ := ownsRow_succ hown'; obtain ⟨hv1, hv2, hr2, hk2, hb2⟩ := hbx.appended (by decide) (ownsRow_mono hown (by omega)) (by omega : w.heap.size ≤ W.heap.size) (Nat.le_refl _) (ownsRow_mono hown' (by omega)) hgrow; have hc1 := hv1.cell; have hf1 := hv1.frozen)
    have hown2 := hown'.kept (grownBy_setCell' w1 w.heap.size (.slice (some ⟨g', 0, none⟩) (pre.length + 1) cap')) (.inr (hv1.not_row (by decide) hown').symm)
    exact ⟨hk2, trivial, ⟨_, hv2, by simpa using hown2, trivial⟩, hBW.trans hb2⟩
  case stop =>
    rintro D c pre W _ _ h _
    exact h.elim
  case done =>
    rintro D xs W hD rfl ⟨⟨v, hbx, hown, _⟩, hBW⟩ hK
    obtain ⟨A, cap, rfl, hcap, hcapm, hfr, hrow⟩ := own_any (f := fun j => .int .i64 (pwd j : Nat)) hown (fun j hj => by
      have : j < 10 := by simpa using hj
      simp [this])
    have hc := hbx.cell
    have hcf := hbx.frozen
    gi_wp2
    have hDn : D ≠ w.heap.size := by have := hBW.size; omega
    have hK2 : (W.setCell ⟨w.heap.size, 0, none⟩ (.slice A 10 cap)).heap[D]? = some (.deferred (some [])) := (Below.heap_setCell _ _ _ D hDn).trans hK
    refine ⟨by simp, .inl ⟨_, _, rfl, run_takeDeferred hK2, ?_⟩⟩
    have y0 := ((hbx.set (.slice A 10 cap)).kept (grownBy_putObj' _ D (.deferred none)) (fun e => hDn (by cases e; rfl))).cell
    refine ⟨.slice A 10 cap, by simp [results, Try.results67, go_sem, y0], A, cap, rfl, ?_, ?_, ?_⟩
    · have hfar := hrow.apart hbx (by intro i hi j; have hi1 : i < 1 := hi; obtain rfl : i = 0 := by omega
                                      simp) (p := ⟨w.heap.size, 0, none⟩) rfl (.slice A 10 cap)
      exact hfar.put hK2 rfl _
    · intro p hp
      have := hfr p hp
      omega
    · exact ((hb0.trans hBW).setCell (Nat.le_refl _) _).grown (grownBy_putObj' _ D _) (by have := hBW.size; simp; omega) (fun k e => by cases e; have := hBW.size; omega)
end Go.Proofs.Ytofaghpflmeblaa
namespace Go.Proofs.Ytofaghpflmeblaa
open Go.RowKit Go.Shelf

attribute [local go_sem] Oper.semAt_some

theorem post_S {P : Program} {fn : Func} {c₀ : Frame} {u' : FrameMode} {cs : List Frame} {X : World} {e : Exit} {a : Act} {w1 : World} (hq : bodyPost P fn (fun en w' => en = .returned (.tuple #[]) ∧ w' = X) e a w1) :
    bodyPostS P fn c₀ cs (fun en u w' => en = .returned (.tuple #[]) ∧ u = u' ∧ w' = X) e a ({ c₀ with mode := u' } :: cs) w1 := by
  cases e with
  | normal => obtain ⟨hd, v, hr, h1, h2⟩ := hq; exact ⟨hd, _, rfl, v, hr, h1, rfl, h2⟩
  | ret => obtain ⟨hd, v, hr, h1, h2⟩ := hq; exact ⟨hd, _, rfl, v, hr, h1, rfl, h2⟩
  | panic c => obtain ⟨hd, h1, h2⟩ := hq; cases h1
  | outgrown => obtain ⟨h1, h2⟩ := hq; cases h1
  | _ => exact hq.elim

def wiped (w : World) (hb pb : Nat) : World := (((((((((w.setCell ⟨hb, 0, none⟩ (.int .i64 0)).setCell ⟨hb, 1, none⟩ (.int .i64 0)).setCell ⟨hb, 2, none⟩ (.int .i64 0)).setCell ⟨hb, 3, none⟩ (.int .i64 0)).setCell ⟨hb, 4, none⟩ (.int .i64 0)).setCell ⟨hb, 5, none⟩ (.int .i64 0)).setCell ⟨hb, 6, none⟩ (.int .i64 0)).setCell ⟨hb, 7, none⟩ (.int .i64 0)).setCell ⟨hb, 8, none⟩ (.int .i64 0)).setCell ⟨pb, 0, none⟩ (.slice none 0 0)
theorem wipe_ok (hb pb : Nat) (h : Nat → Int) (v : Value) (w : World) (hH : Blk w hb 36 (hdr h)) (hP : Blk w pb 24 #[v]) (hne : pb ≠ hb) :
    Calls Try.prog 63 #[.pointer (some ⟨hb, 0, none⟩), .pointer (some ⟨pb, 0, none⟩)] w fun e w' => e = .returned (.tuple #[]) ∧ w' = wiped w hb pb := by
  have c0 : w.cell? ⟨hb, 0, none⟩ = some (.int .i64 (h 0)) := hH.cell 0
  have f0 := hH.frozen 0
  have c1 : w.cell? ⟨hb, 1, none⟩ = some (.int .i64 (h 1)) := hH.cell 1
  have f1 := hH.frozen 1
  have c2 : w.cell? ⟨hb, 2, none⟩ = some (.int .i64 (h 2)) := hH.cell 2
  have f2 := hH.frozen 2
  have c3 : w.cell? ⟨hb, 3, none⟩ = some (.int .i64 (h 3)) := hH.cell 3
  have f3 := hH.frozen 3
  have c4 : w.cell? ⟨hb, 4, none⟩ = some (.int .i64 (h 4)) := hH.cell 4
  have f4 := hH.frozen 4
  have c5 : w.cell? ⟨hb, 5, none⟩ = some (.int .i64 (h 5)) := hH.cell 5
  have f5 := hH.frozen 5
  have c6 : w.cell? ⟨hb, 6, none⟩ = some (.int .i64 (h 6)) := hH.cell 6
  have f6 := hH.frozen 6
  have c7 : w.cell? ⟨hb, 7, none⟩ = some (.int .i64 (h 7)) := hH.cell 7
  have f7 := hH.frozen 7
  have c8 : w.cell? ⟨hb, 8, none⟩ = some (.int .i64 (h 8)) := hH.cell 8
  have f8 := hH.frozen 8
  have cp : w.cell? ⟨pb, 0, none⟩ = some v := hP.cell 0
  have fp := hP.frozen 0
  have hne2 := Ne.symm hne
  clear hH hP
  go_enter Try.func63, Try.ntmps63
  go_wp2
  go_end0
  exact ⟨rfl, rfl⟩

set_option maxRecDepth 100000 in
set_option maxHeartbeats 400000 in
theorem caught_panicking (p : Addr) (hb pb : Nat) (h : Nat → Int) (v : Value) (x e : Int) (older : List PanicEntry) (w : World) (hH : Blk w hb 36 (hdr h)) (hP : Blk w pb 24 #[v]) (hne : pb ≠ hb) (hc : (wiped w hb pb).cell? p = some (.int .i64 x)) (hz : (wiped w hb pb).frozen? p = false) :
    CallsD Try.prog 62 #[.pointer (some p), .func (.func 63) #[] #[.pointer (some ⟨hb, 0, none⟩), .pointer (some ⟨pb, 0, none⟩)]] (.panicking ({ v := .iface 28 (.int .i64 e), recovered := false } :: older)) w fun en u' w' =>
      en = .returned (.tuple #[]) ∧ u' = .panicking ({ v := .iface 28 (.int .i64 e), recovered := true } :: older) ∧ w' = (wiped w hb pb).setCell p (.int .i64 e) := by
  have C := Lib.hid (wipe_ok hb pb h v w hH hP hne)
  have hta : ∀ X : World, (Instr.typeAssert (.iface 28 (.int .i64 e)) 20 28 true).run Try.prog X = .ok (.tuple #[.int .i64 e, .bool true]) X := fun X => by kernel_rfl
  have HC := Lib.hid hc
  have HZ := Lib.hid hz
  clear hc hz hH hP
  refine callsD_of_wpS Try.func62 rfl fun c₀ cs hu => ?_
  simp only [Try.ntmps62, List.size_toArray, List.length_cons, List.length_nil, Nat.reduceAdd, Nat.reduceSub, Array.replicate_succ, Array.replicate_zero, List.push_toArray, List.append_toArray, List.nil_append, List.cons_append]
  apply wpS_seq
  apply wpS_region
  simp [wpOpsS, go_sem, recoverD, hu, Exit.thenS]
  refine wpS_of_wp (wp_mono (Q := bodyPost Try.prog Try.f62 (fun en w' => en = .returned (.tuple #[]) ∧ w' = (wiped w hb pb).setCell p (.int .i64 e))) ?_ ?_)
  rotate_left
  · exact fun e a w1 hq => post_S hq
  have HU := Lib.hid hu
  clear hu
  go_wp2_with (go_at_call 63; refine (C.out).mono ?_; rintro e w1 ⟨rfl, rfl⟩; have c9 := HC.out; have z9 := HZ.out)
  go_end0
  exact ⟨rfl, rfl⟩

set_option maxRecDepth 100000 in
set_option maxHeartbeats 400000 in
theorem caught_idle (p : Addr) (F : Value) (w : World) :
    CallsD Try.prog 62 #[.pointer (some p), F] .returning w fun e u' w' => e = .returned (.tuple #[]) ∧ u' = .returning ∧ w' = w := by
  refine callsD_of_wpS Try.func62 rfl fun c₀ cs hu => ?_
  simp only [Try.ntmps62, List.size_toArray, List.length_cons, List.length_nil, Nat.reduceAdd, Nat.reduceSub, Array.replicate_succ, Array.replicate_zero, List.push_toArray, List.append_toArray, List.nil_append, List.cons_append]
  apply wpS_seq
  apply wpS_region
  simp [wpOpsS, go_sem, recoverD, hu, Exit.thenS]
  refine wpS_of_wp (wp_mono (Q := bodyPost Try.prog Try.f62 (fun en w' => en = .returned (.tuple #[]) ∧ w' = w)) ?_ ?_)
  rotate_left
  · have hu2 : ({ c₀ with mode := .returning } : Frame) = c₀ := by rw [← hu]
    intro e a w1 hq
    have := post_S (c₀ := c₀) (cs := cs) (u' := .returning) hq
    rwa [hu2] at this
  have HU := Lib.hid hu
  clear hu
  go_wp2
  go_end0
  exact ⟨rfl, rfl⟩

end Go.Proofs.Ytofaghpflmeblaa
namespace Go.Proofs.Ytofaghpflmeblaa
open Go.RowKit Go.Shelf

attribute [local go_sem] Oper.semAt_some

def AllEnd (g : Nat) (z : Nat → Int) (w : World) (e : Ending) (w' : World) : Prop :=
  ∃ B c, e = .returned (.slice B 10 c) ∧ Row w' w'.heap.size B 10 (fun j => .int .u64 ((getv z (0 + so pwd j) (pwd j) : Nat) : Int)) ∧ w.grownBy w' (some g)
theorem pwd_le32 (j : Nat) (hj : j < 10) : pwd j ≤ 32 := ten (p := fun j => pwd j ≤ 32) (by decide) (by decide) (by decide) (by decide) (by decide) (by decide) (by decide) (by decide) (by decide) (by decide) j hj
theorem so_pwd : so pwd 10 = 160 := by decide
theorem all_ok (g : Nat) (A L : Option Addr) (len cap lc : Nat) (z : Nat → Int) (hl : len ≤ 100000) (h20 : 20 ≤ len) (hz : ∀ j, j < len → 0 ≤ z j ∧ z j < 256) (hLg : ∀ a, L = some a → a.block ≠ g) (hAg : ∀ a, A = some a → a.block < g) (w : World) (h : RS w g A len cap z 0) (hL : Row w w.heap.size L 10 (fun j => .int .i64 (pwd j : Nat))) :
    Calls Try.prog 66 #[.agg #[.pointer (some ⟨g, 0, none⟩)], .slice L 10 lc] w (AllEnd g z w) := by
  have hR : ∀ o : Obj, RS (w.alloc o) g A len cap z 0 := fun o => ⟨(Below.heap_alloc w o g (Array.getElem?_eq_some_iff.1 h.1).1).trans h.1, row_new h.2 o⟩
  have HG := Lib.hid (fun o : Obj => getAll_ok g A L len cap 0 10 lc z pwd hl (by omega) pwd_le32 (by rw [so_pwd]; omega) hz hLg hAg (w.alloc o) (hR o) (row_new hL o))
  clear hR h hL hLg hAg hz h20 hl
  go_enter Try.func66, Try.ntmps66
  go_wp2_with (first | (go_at_call 82; refine (HG.out _).mono ?_; rintro e w1 ⟨B, c, rfl, hR1, hg1⟩; have HR1 := Lib.hid hR1; have HG1 := Lib.hid hg1; clear hR1 hg1) | (go_at_call 81; refine (got_ok _ _ _ _).mono ?_; rintro e w2 ⟨rfl, rfl⟩))
  go_ret
  refine ⟨B, c, rfl, HR1.out, ?_⟩
  have h1 := World.grownBy_alloc w (.cells #[.pointer (some ⟨g, 0, none⟩)] 118) (some g)
  exact h1.trans HG1.out
end Go.Proofs.Ytofaghpflmeblaa
namespace Go.Proofs.Ytofaghpflmeblaa
open Go.RowKit Go.Shelf

attribute [local go_sem] Oper.semAt_some

def BadEnd (w : World) (n : Int) (e : Ending) (w' : World) : Prop :=
  e = .returned (.tuple #[.agg (hdr (fun _ => 0)), .slice none 0 0, .int .i64 n]) ∧ Below w.heap.size w w'

theorem Blk.to {w : World} {g : Nat} {t : TypeId} {cs ds : Array Value} (h : Blk w g t cs) (e : cs = ds) : Blk w g t ds := e ▸ h
theorem wiped_hdr {w : World} {hb pb : Nat} {h : Nat → Int} (hH : Blk w hb 36 (hdr h)) (hne : pb ≠ hb) : Blk (wiped w hb pb) hb 36 (hdr (fun _ => 0)) := by
  have := (((((((((hH.set_ 0 (.int .i64 0)).set_ 1 (.int .i64 0)).set_ 2 (.int .i64 0)).set_ 3 (.int .i64 0)).set_ 4 (.int .i64 0)).set_ 5 (.int .i64 0)).set_ 6 (.int .i64 0)).set_ 7 (.int .i64 0)).set_ 8 (.int .i64 0)).far (p := ⟨pb, 0, none⟩) (Ne.symm hne) (.slice none 0 0)
  exact this.to (by simp [hdr])
theorem wiped_far {w : World} {hb pb g : Nat} {t : TypeId} {cs : Array Value} (hB : Blk w g t cs) (h1 : g ≠ hb) (h2 : g ≠ pb) : Blk (wiped w hb pb) g t cs := by
  unfold wiped
  exact (((((((((hB.far (p := ⟨hb, 0, none⟩) h1 _).far (p := ⟨hb, 1, none⟩) h1 _).far (p := ⟨hb, 2, none⟩) h1 _).far (p := ⟨hb, 3, none⟩) h1 _).far (p := ⟨hb, 4, none⟩) h1 _).far (p := ⟨hb, 5, none⟩) h1 _).far (p := ⟨hb, 6, none⟩) h1 _).far (p := ⟨hb, 7, none⟩) h1 _).far (p := ⟨hb, 8, none⟩) h1 _).far (p := ⟨pb, 0, none⟩) h2 _
theorem wiped_pay {w : World} {hb pb : Nat} {v : Value} (hP : Blk w pb 24 #[v]) (hne : pb ≠ hb) : Blk (wiped w hb pb) pb 24 #[.slice none 0 0] := by
  unfold wiped
  exact ((((((((((hP.far (p := ⟨hb, 0, none⟩) hne _).far (p := ⟨hb, 1, none⟩) hne _).far (p := ⟨hb, 2, none⟩) hne _).far (p := ⟨hb, 3, none⟩) hne _).far (p := ⟨hb, 4, none⟩) hne _).far (p := ⟨hb, 5, none⟩) hne _).far (p := ⟨hb, 6, none⟩) hne _).far (p := ⟨hb, 7, none⟩) hne _).far (p := ⟨hb, 8, none⟩) hne _)).set_ 0 (.slice none 0 0)
theorem wiped_below {w w0 : World} {b hb pb : Nat} (h : Below b w0 w) (h1 : b ≤ hb) (h2 : b ≤ pb) : Below b w0 (wiped w hb pb) := by
  unfold wiped
  exact (((((((((h.setCell h1 _).setCell h1 _).setCell h1 _).setCell h1 _).setCell h1 _).setCell h1 _).setCell h1 _).setCell h1 _).setCell h1 _).setCell h2 _

set_option maxRecDepth 100000 in
set_option maxHeartbeats 1000000 in
theorem bad_leaves_to (R : Ending → World → Prop) (w0 W : World) (h : Nat → Int) (v : Value) (x e : Int) (H : Nat) (tmps : Array Value) (hs : w0.heap.size = H) (hH : Blk W H 36 (hdr h)) (hP : Blk W (H + 1) 24 #[v]) (hE : Blk W (H + 1 + 1) 28 #[.int .i64 x]) (hb : Below w0.heap.size w0 W) (hR : ∀ en w', BadEnd w0 e en w' → R en w')
    (h2 : tmps.getD 2 undef = .pointer (some ⟨H, 0, none⟩)) (h3 : tmps.getD 3 undef = .pointer (some ⟨H + 1, 0, none⟩)) (h4 : tmps.getD 4 undef = .pointer (some ⟨H + 1 + 1, 0, none⟩)) :
    bodyPostD Try.prog Try.f42 R (Exit.panic [{ v := .iface 28 (.int .i64 e), recovered := false }])
      { tmps := tmps, defers := [{ target := .fn (.func 62) #[], args := #[.pointer (some ⟨H + 1 + 1, 0, none⟩), .func (.func 63) #[] #[.pointer (some ⟨H, 0, none⟩), .pointer (some ⟨H + 1, 0, none⟩)]] }] } W := by
  have hne : H + 1 ≠ H := by omega
  have EW := wiped_far (hb := H) (pb := H + 1) hE (by omega) (by omega)
  have HW := wiped_hdr (pb := H + 1) hH hne
  have PW := wiped_pay hP hne
  refine leaves_cons (f := 62) (args := #[.pointer (some ⟨H + 1 + 1, 0, none⟩), .func (.func 63) #[] #[.pointer (some ⟨H, 0, none⟩), .pointer (some ⟨H + 1, 0, none⟩)]]) (by simp) (by simp [go_sem]) ?_
  refine (caught_panicking ⟨H + 1 + 1, 0, none⟩ H (H + 1) h v x e [] W hH hP hne (EW.cell 0) (EW.frozen 0)).mono ?_
  rintro en u' w'' ⟨rfl, rfl, hw⟩
  obtain ⟨W2, hW2⟩ : ∃ W2, W2 = w'' := ⟨_, rfl⟩
  rw [← hW2]
  rw [← hW2] at hw
  clear hW2
  have BE : Blk W2 (H + 1 + 1) 28 #[.int .i64 e] := by rw [hw]; exact EW.set_ 0 _
  have BH : Blk W2 H 36 (hdr (fun _ => 0)) := by rw [hw]; exact HW.far (by simp; omega) _
  have BP : Blk W2 (H + 1) 24 #[.slice none 0 0] := by rw [hw]; exact PW.far (by simp) _
  have hbl : Below w0.heap.size w0 W2 := by rw [hw]; exact (wiped_below hb (by omega) (by omega)).setCell (by simp; omega) _
  clear hw EW HW PW hH hP hE hb
  have y0 : W2.cell? ⟨H, 0, none⟩ = some (.int .i64 0) := BH.cell 0
  have y1 : W2.cell? ⟨H, 1, none⟩ = some (.int .i64 0) := BH.cell 1
  have y2 : W2.cell? ⟨H, 2, none⟩ = some (.int .i64 0) := BH.cell 2
  have y3 : W2.cell? ⟨H, 3, none⟩ = some (.int .i64 0) := BH.cell 3
  have y4 : W2.cell? ⟨H, 4, none⟩ = some (.int .i64 0) := BH.cell 4
  have y5 : W2.cell? ⟨H, 5, none⟩ = some (.int .i64 0) := BH.cell 5
  have y6 : W2.cell? ⟨H, 6, none⟩ = some (.int .i64 0) := BH.cell 6
  have y7 : W2.cell? ⟨H, 7, none⟩ = some (.int .i64 0) := BH.cell 7
  have y8 : W2.cell? ⟨H, 8, none⟩ = some (.int .i64 0) := BH.cell 8
  have yp : W2.cell? ⟨H + 1, 0, none⟩ = some (.slice none 0 0) := BP.cell 0
  have ye : W2.cell? ⟨H + 1 + 1, 0, none⟩ = some (.int .i64 e) := BE.cell 0
  have HB := Lib.hid hbl
  clear BE BH BP hbl
  simp at h2 h3 h4
  simp [Leaves, settle, results, Try.results42, go_sem, h2, h3, h4, y0, y1, y2, y3, y4, y5, y6, y7, y8, yp, ye]
  exact hR _ _ ⟨rfl, HB.out⟩

theorem bad_leaves (w0 W : World) (h : Nat → Int) (v : Value) (x e : Int) (H : Nat) (tmps : Array Value) (hs : w0.heap.size = H) (hH : Blk W H 36 (hdr h)) (hP : Blk W (H + 1) 24 #[v]) (hE : Blk W (H + 1 + 1) 28 #[.int .i64 x]) (hb : Below w0.heap.size w0 W)
    (h2 : tmps.getD 2 undef = .pointer (some ⟨H, 0, none⟩)) (h3 : tmps.getD 3 undef = .pointer (some ⟨H + 1, 0, none⟩)) (h4 : tmps.getD 4 undef = .pointer (some ⟨H + 1 + 1, 0, none⟩)) :
    bodyPostD Try.prog Try.f42 (BadEnd w0 e) (Exit.panic [{ v := .iface 28 (.int .i64 e), recovered := false }])
      { tmps := tmps, defers := [{ target := .fn (.func 62) #[], args := #[.pointer (some ⟨H + 1 + 1, 0, none⟩), .func (.func 63) #[] #[.pointer (some ⟨H, 0, none⟩), .pointer (some ⟨H + 1, 0, none⟩)]] }] } W :=
  bad_leaves_to _ w0 W h v x e H tmps hs hH hP hE hb (fun _ _ h => h) h2 h3 h4

set_option maxRecDepth 100000 in
set_option maxHeartbeats 1000000 in
theorem parse_short (A : Option Addr) (n c : Nat) (hn : n < 20) (w : World) :
    Calls Try.prog 42 #[.slice A n c] w (BadEnd w 5) := by
  have hmf : ∀ (fn : Fn) (first cap : Array Value) (w : World), (Instr.makeFunc fn first cap).run Try.prog w = .ok (.func fn first cap) w := fun _ _ _ _ => rfl
  have hn20 : ¬ (20 ≤ (n : Int)) := by omega
  go_enter_defers Try.func42, Try.ntmps42
  go_wp2_with (go_at_call 64; refine (must_false _ _).mono ?_; rintro e w1 ⟨rfl, rfl⟩)
  refine bad_leaves w _ (fun _ => 0) (.slice none 0 0) 0 5 w.heap.size _ rfl ?_ ?_ ?_ ?_ rfl rfl rfl
  · exact ((Blk.new w 36 (hdr (fun _ => 0))).alloc _).alloc _
  · have := (Blk.new (w.alloc (.cells (hdr (fun _ => 0)) 36)) 24 #[.slice none 0 0])
    rw [World.size_alloc] at this
    exact this.alloc _
  · have := (Blk.new ((w.alloc (.cells (hdr (fun _ => 0)) 36)).alloc (.cells #[.slice none 0 0] 24)) 28 #[.int .i64 0])
    rw [World.size_alloc, World.size_alloc] at this
    exact this
  · exact (((Below.refl _ w).alloc (Nat.le_refl _) _).alloc (by simp) _).alloc (by simp; omega) _
end Go.Proofs.Ytofaghpflmeblaa
