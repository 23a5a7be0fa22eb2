/- compress: plain mathematics of CompressHolds: no flow is forgotten while at most 16 flows are known. compress: the map of flows in memory (CompressHolds). compress: what one packet does to the flows (CompressHolds); slices of byte slices. The walk of CompressHolds. -/
import Derived.Test.YtejadoadpgcpjaaKA
import Derived.Test.YtejadoadpgcpjaaKB
import Derived.Test.YtejadoadpgcpjaaFQ
import Derived.Maps.OwnSet
import Derived.RangeFuncOwn
import Derived.Deep.SlicePairs
namespace Go.Proofs.Ytejadoadpgcpjaa

/-- a flow -/
structure Fl where
  a : Int
  b : Int
  c : Int
  d : Int
  e : Int
deriving DecidableEq
def Rx.fl (x : Rx) : Fl := ⟨x.f0, x.f1, x.f2, x.f3, x.f4⟩
def flX (X : Nat → Int) : Fl := ⟨X 0, X 1, X 2, X 3, X 4⟩
theorem sameFlow_iff (x : Rx) (X : Nat → Int) : sameFlow x.f0 x.f1 x.f2 x.f3 x.f4 (X 0) (X 1) (X 2) (X 3) (X 4) = true ↔ x.fl = flX X := by
  unfold sameFlow Rx.fl flX
  simp only [Bool.and_eq_true, beq_iff_eq, Fl.mk.injEq]
theorem nodup_len {α : Type} [BEq α] [LawfulBEq α] : ∀ (l m : List α), l.Nodup → (∀ x, x ∈ l → x ∈ m) → l.length ≤ m.length
  | [], _, _, _ => Nat.zero_le _
  | x :: l, m, hn, hs => by
    have hx : x ∈ m := hs x (by simp)
    have hnd := List.nodup_cons.1 hn
    have h1 := nodup_len l (m.erase x) hnd.2 (fun y hy => by
      have hne : y ≠ x := fun e => hnd.1 (e ▸ hy)
      exact (List.mem_erase_of_ne hne).2 (hs y (by simp [hy])))
    have h2 := List.length_erase_of_mem hx
    have h3 : 0 < m.length := List.length_pos_of_mem hx
    simp only [List.length_cons]
    omega
structure FInv (S : Nat → Rx) (L : List Fl) : Prop where
  mem : ∀ i, i < 16 → (S i).used = true → (S i).fl ∈ L
  inj : ∀ i j, i < 16 → j < 16 → (S i).used = true → (S j).used = true → (S i).fl = (S j).fl → i = j
  turn : ∀ i, i < 16 → 0 ≤ (S i).turn
  ok : ∀ i, i < 16 → (S i).Ok
def fvx (S : Nat → Rx) (X : Nat → Int) (k : Nat) : Int := fv (X 0) (X 1) (X 2) (X 3) (X 4) (S k)
theorem place_spec (S : Nat → Rx) (X : Nat → Int) : cPlace S X < 16 ∧ (∀ j, j < 16 → fvx S X (cPlace S X) ≤ fvx S X j) := by
  have h := bestI_spec (fun k => fv (X 0) (X 1) (X 2) (X 3) (X 4) (S k)) 16 (by decide)
  exact ⟨h.1, h.2.1⟩
theorem fvx_has {S : Nat → Rx} {X : Nat → Int} {k : Nat} (hu : (S k).used = true) (hf : (S k).fl = flX X) : fvx S X k = -2 := by
  unfold fvx fv
  rw [if_pos (by rw [hu, (sameFlow_iff _ _).2 hf]; rfl)]
theorem fvx_not {S : Nat → Rx} {X : Nat → Int} {k : Nat} (h : ¬ ((S k).used = true ∧ (S k).fl = flX X)) : fvx S X k = if (S k).used then (S k).turn else -1 := by
  unfold fvx fv
  rw [if_neg (fun e => h (by rw [Bool.and_eq_true, sameFlow_iff] at e; exact e))]
/-- a flow that is known is found -/
theorem place_has {S : Nat → Rx} {L : List Fl} {X : Nat → Int} (I : FInv S L) {j : Nat} (hj : j < 16) (hu : (S j).used = true) (hf : (S j).fl = flX X) : cPlace S X = j := by
  obtain ⟨hp, hm⟩ := place_spec S X
  have h1 := hm j hj
  rw [fvx_has hu hf] at h1
  by_cases hh : (S (cPlace S X)).used = true ∧ (S (cPlace S X)).fl = flX X
  · exact I.inj _ _ hp hj hh.1 hu (hh.2.trans hf.symm)
  · rw [fvx_not hh] at h1
    have := I.turn _ hp
    split at h1 <;> omega
/-- a flow that is not known takes an empty place while there is one -/
theorem place_new {S : Nat → Rx} {L : List Fl} {X : Nat → Int} (I : FInv S L) (hf : flX X ∈ L) (hL : L.length ≤ 16) (hno : ∀ j, j < 16 → (S j).used = true → (S j).fl ≠ flX X) : (S (cPlace S X)).used = false := by
  obtain ⟨hp, hm⟩ := place_spec S X
  by_cases hall : ∀ j, j < 16 → (S j).used = true
  · exfalso
    have hnd : ((List.range 16).map fun i => (S i).fl).Nodup := by
      refine List.nodup_iff_pairwise_ne.2 ?_
      rw [List.pairwise_map]
      refine List.Pairwise.imp_of_mem ?_ (List.pairwise_lt_range (n := 16))
      intro a b ha hb hab e
      have ha' : a < 16 := by simpa using ha
      have hb' : b < 16 := by simpa using hb
      have := I.inj a b ha' hb' (hall a ha') (hall b hb') e
      omega
    have h17 : (flX X :: (List.range 16).map fun i => (S i).fl).Nodup := by
      rw [List.nodup_cons]
      refine ⟨fun h => ?_, hnd⟩
      obtain ⟨i, hi, e⟩ := List.mem_map.1 h
      have hi' : i < 16 := by simpa using hi
      exact hno i hi' (hall i hi') e
    have := nodup_len _ L h17 (fun x hx => by
      rcases List.mem_cons.1 hx with rfl | hx
      · exact hf
      · obtain ⟨i, hi, e⟩ := List.mem_map.1 hx
        have hi' : i < 16 := by simpa using hi
        rw [← e]
        exact I.mem i hi' (hall i hi'))
    simp at this
    omega
  · obtain ⟨j, hj⟩ := Classical.not_forall.1 hall
    obtain ⟨hj16, hju⟩ := Classical.not_imp.1 hj
    have h1 := hm j hj16
    rw [fvx_not (fun h => hju h.1), if_neg hju] at h1
    cases hu : (S (cPlace S X)).used
    · rfl
    · exfalso
      rw [fvx_not (fun h => hno _ hp h.1 h.2), if_pos hu] at h1
      have := I.turn _ hp
      omega
theorem new_used (S : Nat → Rx) (T : Int) (X : Nat → Int) : (cNew S T X).used = true ∧ (cNew S T X).fl = flX X := by
  unfold cNew
  by_cases h0 : cKind S T X = 0
  · rw [if_pos h0]; exact ⟨rfl, rfl⟩
  · rw [if_neg h0]
    obtain ⟨hu, _, hf, _⟩ := kind_used S T X h0
    rw [sameFlow_iff] at hf
    split
    · exact ⟨hu, hf⟩
    · exact ⟨hu, hf⟩
theorem new_turn (S : Nat → Rx) (T : Int) (X : Nat → Int) : (cNew S T X).turn = T + 1 := by
  unfold cNew
  split
  · rfl
  · split <;> rfl
theorem state_at (S : Nat → Rx) (T : Int) (X : Nat → Int) (i : Nat) : cState S T X i = if i = cPlace S X then cNew S T X else S i := rfl
theorem finv_step {S : Nat → Rx} {L L' : List Fl} {T : Int} {X : Nat → Int} (I : FInv S L) (hT : 0 ≤ T) (hsub : ∀ x, x ∈ L → x ∈ L') (hf : flX X ∈ L') (hok : ∀ i, i < 16 → (cState S T X i).Ok) : FInv (cState S T X) L' := by
  refine ⟨fun i hi hu => ?_, fun i j hi hj hui huj e => ?_, fun i hi => ?_, hok⟩
  · rw [state_at] at hu ⊢
    by_cases h1 : i = cPlace S X
    · rw [if_pos h1, (new_used S T X).2]; exact hf
    · rw [if_neg h1] at hu ⊢
      exact hsub _ (I.mem i hi hu)
  · rw [state_at] at hui e
    rw [state_at] at huj e
    by_cases h1 : i = cPlace S X
    · by_cases h2 : j = cPlace S X
      · rw [h1, h2]
      · rw [if_neg h2] at huj
        rw [if_pos h1, if_neg h2, (new_used S T X).2] at e
        rw [h1]
        exact place_has I hj huj e.symm
    · rw [if_neg h1] at hui
      by_cases h2 : j = cPlace S X
      · rw [if_neg h1, if_pos h2, (new_used S T X).2] at e
        rw [h2]
        exact (place_has I hi hui e).symm
      · rw [if_neg h2] at huj
        rw [if_neg h1, if_neg h2] at e
        exact I.inj i j hi hj hui huj e
  · rw [state_at]
    split
    · rw [new_turn]; omega
    · exact I.turn i hi
/-- the context of flow h after i packets of it -/
structure Reg (S : Nat → Rx) (p : Nat) (X : Nat → Int) (i : Nat) : Prop where
  lt : p < 16
  used : (S p).used = true
  fl : (S p).fl = flX X
  need : (S p).need = false
  hops : (S p).hops = X 5
  time : (S p).time = X 7
  step : (S p).step = 0
  ident : (X 6 - (S p).ident) % 65536 = (i : Int) % 65536
/-- a packet of another flow leaves it alone -/
theorem reg_other {S : Nat → Rx} {L : List Fl} {T : Int} {X Y : Nat → Int} {p i : Nat} (I : FInv S L) (hf : flX Y ∈ L) (hL : L.length ≤ 16) (h : Reg S p X i) (hne : flX Y ≠ flX X) : Reg (cState S T Y) p X i := by
  have hp : p ≠ cPlace S Y := by
    intro e
    by_cases hh : ∃ j, j < 16 ∧ (S j).used = true ∧ (S j).fl = flX Y
    · obtain ⟨j, hj, hu, hfj⟩ := hh
      have := place_has I hj hu hfj
      rw [this] at e
      rw [← e, h.fl] at hfj
      exact hne hfj.symm
    · have := place_new I hf hL (fun j hj hu e2 => hh ⟨j, hj, hu, e2⟩)
      rw [← e, h.used] at this
      cases this
  have e : cState S T Y p = S p := by rw [state_at, if_neg hp]
  exact ⟨h.lt, by rw [e]; exact h.used, by rw [e]; exact h.fl, by rw [e]; exact h.need, by rw [e]; exact h.hops, by rw [e]; exact h.time, by rw [e]; exact h.step, by rw [e]; exact h.ident⟩
/-- the next packet of the regular flow is compact -/
theorem reg_kind {S : Nat → Rx} {L : List Fl} {T : Int} {X : Nat → Int} {p i : Nat} (I : FInv S L) (h : Reg S p X i) (h1 : 1 ≤ i) (h2 : i ≤ 255) : cPlace S X = p ∧ cKind S T X = 2 := by
  have hp := place_has I h.lt h.used h.fl
  refine ⟨hp, ?_⟩
  have ht : cTurned S T X = { S p with turn := T + 1 } := by unfold cTurned; rw [hp]
  have hn : kN (cTurned S T X) (X 6) = i := by
    rw [ht]; show (X 6 - (S p).ident) % 65536 = i
    rw [h.ident]; omega
  have hk : kT (cTurned S T X) (X 7) = 0 := by
    rw [ht]; show (X 7 - (S p).time) % 16777216 = 0
    rw [h.time]; omega
  have hno : noKind (cTurned S T X) (X 0) (X 1) (X 2) (X 3) (X 4) (X 6) = false := by
    unfold noKind
    rw [hn]
    have hs := (sameFlow_iff (S p) X).2 h.fl
    rw [ht]
    show (!(S p).used || ((S p).need || (!sameFlow (S p).f0 (S p).f1 (S p).f2 (S p).f3 (S p).f4 (X 0) (X 1) (X 2) (X 3) (X 4) || (decide ((i : Int) < 1) || decide (255 < (i : Int)))))) = false
    rw [h.used, h.need, hs]
    simp
    omega
  unfold cKind kindOf
  rw [if_neg (by rw [hno]; decide), if_pos ?_]
  rw [hk, hn, ht]
  simp [h.hops, h.step]
theorem reg_next {S : Nat → Rx} {L : List Fl} {T : Int} {X : Nat → Int} {p i : Nat} (I : FInv S L) (h : Reg S p X i) (h1 : 1 ≤ i) (h2 : i ≤ 255) : Reg (cState S T X) p X i := by
  obtain ⟨hp, hk⟩ := reg_kind (T := T) I h h1 h2
  have e : cState S T X p = { S p with turn := T + 1 } := by
    rw [state_at, if_pos hp.symm]
    unfold cNew
    rw [if_neg (by rw [hk]; decide), if_neg (by rw [hk]; decide)]
    unfold cTurned
    rw [hp]
  exact ⟨h.lt, by rw [e]; exact h.used, by rw [e]; exact h.fl, by rw [e]; exact h.need, by rw [e]; exact h.hops, by rw [e]; exact h.time, by rw [e]; exact h.step, by rw [e]; exact h.ident⟩
/-- the first packet of a flow -/
theorem reg_first {S : Nat → Rx} {T : Int} {X : Nat → Int} (hno : (S (cPlace S X)).used = false) : Reg (cState S T X) (cPlace S X) X 0 := by
  have hk : cKind S T X = 0 := by
    unfold cKind kindOf
    rw [if_pos]
    unfold noKind cTurned
    simp [hno]
  have e : cState S T X (cPlace S X) = fulled (cTurned S T X) (X 0) (X 1) (X 2) (X 3) (X 4) (X 5) (X 6) (X 7) := by
    rw [state_at, if_pos rfl]
    unfold cNew
    rw [if_pos hk]
  refine ⟨cPlace_lt S X, by rw [e]; rfl, by rw [e]; rfl, by rw [e]; rfl, by rw [e]; rfl, by rw [e]; rfl, by rw [e]; rfl, by rw [e]; show (X 6 - X 6) % 65536 = _; omega⟩
/-- the next header of the flow -/
theorem reg_shift {S : Nat → Rx} {p i : Nat} {X Y : Nat → Int} (h : Reg S p X i) (he : ∀ j, j ≠ 6 → j < 8 → Y j = X j) (h6 : Y 6 = (X 6 + 1) % 65536) : Reg S p Y (i + 1) := by
  have hf : flX Y = flX X := by unfold flX; rw [he 0 (by omega) (by omega), he 1 (by omega) (by omega), he 2 (by omega) (by omega), he 3 (by omega) (by omega), he 4 (by omega) (by omega)]
  refine ⟨h.lt, h.used, h.fl.trans hf.symm, h.need, by rw [he 5 (by omega) (by omega)]; exact h.hops, by rw [he 7 (by omega) (by omega)]; exact h.time, h.step, ?_⟩
  have := h.ident
  rw [h6]
  omega
theorem coLen_le1 (S : Nat → Rx) (T : Int) (n : Nat) (z : Nat → Int) : coLen S T n z ≤ n + 1 := by
  unfold coLen
  split
  · omega
  · split
    · omega
    · rename_i hp
      have hp' : pErr n z = 0 := Classical.not_not.1 hp
      obtain ⟨h20, _, _⟩ := pErr_good n z hp'
      unfold cLen
      split
      · omega
      · split <;> omega
end Go.Proofs.Ytejadoadpgcpjaa
namespace Go.Proofs.Ytejadoadpgcpjaa
open Go.RowKit

def Fl.val (f : Fl) : Value := .agg #[.int .i64 f.a, .int .i64 f.b, .int .i64 f.c, .int .i64 f.d, .int .i64 f.e]
theorem Fl.equal (f g : Fl) (W : World) : (Op.equal 52 f.val g.val).run Try.prog W = .ok (decide (f = g)) W := by
  obtain ⟨a0, a1, a2, a3, a4⟩ := f
  obtain ⟨b0, b1, b2, b3, b4⟩ := g
  unfold Fl.val
  by_cases h0 : a0 = b0 <;> by_cases h1 : a1 = b1 <;> by_cases h2 : a2 = b2 <;> by_cases h3 : a3 = b3 <;> by_cases h4 : a4 = b4 <;> simp [go_sem, Op.equal, Op.maxDepth, h0, h1, h2, h3, h4]
theorem Fl.check (f : Fl) (W : World) : (Instr.checkKey false 10000 52 f.val).run Try.prog W = .ok () W := by
  kernel_rfl
/-- where a flow lies among the keys -/
def keyAt (f : Fl) : List Fl → Nat → Option Nat
  | [], _ => none
  | g :: gs, i => if f = g then some i else keyAt f gs (i + 1)
theorem keyAt_some {f : Fl} : ∀ {l : List Fl} {i j : Nat}, keyAt f l i = some j → i ≤ j ∧ l[j - i]? = some f
  | [], i, j, h => by cases h
  | g :: gs, i, j, h => by
    unfold keyAt at h
    split at h
    · rename_i e
      cases h
      exact ⟨Nat.le_refl _, by rw [Nat.sub_self, e]; rfl⟩
    · obtain ⟨h1, h2⟩ := keyAt_some h
      refine ⟨by omega, ?_⟩
      rw [show j - i = (j - (i + 1)) + 1 by omega, List.getElem?_cons_succ]
      exact h2
theorem keyAt_none {f : Fl} : ∀ {l : List Fl} {i : Nat}, keyAt f l i = none → f ∉ l
  | [], _, _ => by simp
  | g :: gs, i, h => by
    unfold keyAt at h
    split at h
    · cases h
    · rename_i e
      intro hm
      rcases List.mem_cons.1 hm with h1 | h1
      · exact e h1
      · exact keyAt_none h h1
theorem asking (f : Fl) (W : World) : ∀ (es : List MapEntry) (gs : List Fl) (_ : es.map (·.key) = gs.map Fl.val) (i : Nat), ∃ v : Nat → Value, (Instr.findAsking 52 f.val es i).run Try.prog W = .ok ((keyAt f gs i).map fun j => (j, v j)) W
  | [], [], _, i => ⟨fun _ => undef, rfl⟩
  | [], g :: gs, h, i => by cases h
  | e :: es, [], h, i => by cases h
  | e :: es, g :: gs, h, i => by
    simp only [List.map_cons, List.cons.injEq] at h
    obtain ⟨v, hv⟩ := asking f W es gs h.2 (i + 1)
    unfold Instr.findAsking keyAt
    by_cases hfg : f = g
    · refine ⟨fun _ => e.val, ?_⟩
      rw [Sem.run_bind, h.1, Fl.equal]
      simp [hfg, Result.andThen]
    · refine ⟨v, ?_⟩
      rw [Sem.run_bind, h.1, Fl.equal]
      simp [hfg, Result.andThen, hv]
theorem finding (f : Fl) (W : World) (es : List MapEntry) (gs : List Fl) (h : es.map (·.key) = gs.map Fl.val) : ∃ v : Nat → Value, (Instr.findKey 52 f.val es).run Try.prog W = .ok ((keyAt f gs 0).map fun j => (j, v j)) W := by
  obtain ⟨v, hv⟩ := asking f W es gs h 0
  cases es with
  | nil =>
    cases gs with
    | nil => exact ⟨v, by simp [Instr.findKey, run_underlying Try.underlying52, Instr.findNow, keyAt, Result.andThen]⟩
    | cons g gs => cases h
  | cons e es =>
    refine ⟨v, ?_⟩
    rw [← hv]
    simp [Instr.findKey, run_underlying Try.underlying52, Instr.findNow, Instr.sameNow, Fl.val, Result.andThen]
theorem stays (f : Fl) (W : World) : (Instr.keyThatStays f.val f.val).run Try.prog W = .ok f.val W := by
  simp [Instr.keyThatStays, Instr.sameBits, Fl.val]
/-- block m is a map whose keys are the flows L -/
def MB (W : World) (m : Nat) (L : List Fl) : Prop := ∃ es c, W.heap[m]? = some (.map es c) ∧ es.toList.map (·.key) = L.map Fl.val
theorem MB.below {W W' : World} {m B : Nat} {L : List Fl} (h : MB W m L) (hb : Below B W W') (hm : m < B) : MB W' m L := by
  obtain ⟨es, c, h1, h2⟩ := h
  exact ⟨es, c, (hb.block m hm).trans h1, h2⟩
theorem MB.keep {W W' : World} {m g : Nat} {L : List Fl} (h : MB W m L) (k : Keep1 g W W') (hm : m ≠ g) : MB W' m L := by
  obtain ⟨es, c, h1, h2⟩ := h
  exact ⟨es, c, (k.block m (Array.getElem?_eq_some_iff.1 h1).1 (fun e => by cases e; exact hm rfl)).trans h1, h2⟩
theorem MB.lt {W : World} {m : Nat} {L : List Fl} (h : MB W m L) : m < W.heap.size := by
  obtain ⟨es, c, h1, _⟩ := h
  exact (Array.getElem?_eq_some_iff.1 h1).1
theorem mput (W : World) (m : Nat) (L : List Fl) (f : Fl) (x : Value) (h : MB W m L) :
    ∃ X L', (Instr.mapUpdate 62 (.map (some m)) f.val x).run Try.prog W = .ok () X ∧ MB X m L' ∧ (∀ g, g ∈ L → g ∈ L') ∧ f ∈ L' ∧ L.length ≤ L'.length ∧ Keep1 m W X := by
  obtain ⟨es, c, h1, h2⟩ := h
  obtain ⟨v, hv⟩ := finding f W es.toList L h2
  have hlt : m < W.heap.size := (Array.getElem?_eq_some_iff.1 h1).1
  cases hk : keyAt f L 0 with
  | none =>
    rw [hk] at hv
    refine ⟨W.putObj m (.map (es.push { key := f.val, val := x, born := c }) (c + 1)), L ++ [f], ?_, ⟨_, _, World.putObj_heap_same hlt, by simp [h2]⟩, fun g hg => by simp [hg], by simp, by simp, grownBy_putObj' W m _⟩
    simp only [Option.map_none] at hv
    simp [Instr.mapUpdate, run_underlying Try.underlying62, MapKept.run_getObj_map h1, Fl.check, hv, MapKept.run_setObj_map _ h1, Result.andThen, World.putObj]
  | some j =>
    rw [hk] at hv
    obtain ⟨_, hj⟩ := keyAt_some hk
    have hes : (es.toList.map (·.key))[j]? = some f.val := by rw [h2, List.getElem?_map]; simp at hj; rw [hj]; rfl
    rw [List.getElem?_map] at hes
    obtain ⟨e0, he0, hek⟩ := Option.map_eq_some_iff.1 hes
    have he1 : es[j]? = some e0 := by simpa using he0
    refine ⟨W.putObj m (.map (es.modify j fun e => { e with key := f.val, val := x }) c), L, ?_, ⟨_, _, World.putObj_heap_same hlt, ?_⟩, fun g hg => hg, ?_, Nat.le_refl _, grownBy_putObj' W m _⟩
    · simp only [Option.map_some] at hv
      have hst := stays f W
      rw [show ∀ q, (Instr.mapUpdate 62 (.map (some m)) f.val x).run Try.prog W = q ↔ (Instr.mapUpdate 62 (.map (some m)) f.val x).run Try.prog W = q from fun _ => Iff.rfl]
      simp [Instr.mapUpdate, run_underlying Try.underlying62, MapKept.run_getObj_map h1, Fl.check, hv, he1, hek, hst, MapKept.run_setObj_map _ h1, Result.andThen, World.putObj]
    · rw [← h2]
      apply List.ext_getElem?
      intro i
      rw [List.getElem?_map, List.getElem?_map, Array.getElem?_toList, Array.getElem?_toList, Array.getElem?_modify]
      by_cases hij : j = i
      · subst hij
        rw [if_pos rfl, he1]
        simp [hek]
      · rw [if_neg hij]
    · exact List.mem_of_getElem? (by simpa using hj)
theorem mlen (W : World) (m : Nat) (L : List Fl) (t : TypeId) (h : MB W m L) : (Builtin.len_ #[62] t #[.map (some m)]).run Try.prog W = .ok (.int .i64 (L.length : Nat)) W := by
  obtain ⟨es, c, h1, h2⟩ := h
  have hl : es.size = L.length := by
    have := congrArg List.length h2
    simpa using this
  simp [Builtin.len_, run_underlying Try.underlying62, MapKept.run_getObj_map h1, hl, Result.andThen]
  rfl
end Go.Proofs.Ytejadoadpgcpjaa
namespace Go.Proofs.Ytejadoadpgcpjaa
open Go.RowKit Go.ChangeShapes Go.WideShapes

def RegI (S : Nat → Rx) (L : List Fl) (X : Nat → Int) (i : Nat) : Prop := L.length ≤ 16 → ∃ p, Reg S p X i
theorem finv_mono {S : Nat → Rx} {L L' : List Fl} (I : FInv S L) (h : ∀ x, x ∈ L → x ∈ L') : FInv S L' := ⟨fun i hi hu => h _ (I.mem i hi hu), I.inj, I.turn, I.ok⟩
theorem finv_zero : FInv S0 [] := ⟨fun i _ h => (by cases h), fun i j _ _ h => (by cases h), fun i _ => (show (0 : Int) ≤ 0 by decide), fun i _ => (show Rx.zero.Ok from ⟨by decide, by decide, by decide, by decide, by decide⟩)⟩
theorem flX_congr {X Y : Nat → Int} (h : ∀ j, j < 8 → X j = Y j) : flX X = flX Y := by unfold flX; rw [h 0 (by omega), h 1 (by omega), h 2 (by omega), h 3 (by omega), h 4 (by omega)]
theorem reg_congr {S : Nat → Rx} {p i : Nat} {X Y : Nat → Int} (h : ∀ j, j < 8 → X j = Y j) (r : Reg S p X i) : Reg S p Y i :=
  ⟨r.lt, r.used, r.fl.trans (flX_congr h), r.need, by rw [← h 5 (by omega)]; exact r.hops, by rw [← h 7 (by omega)]; exact r.time, r.step, by rw [← h 6 (by omega)]; exact r.ident⟩
/-- the next header -/
def nextH (H : Nat → Int) (j : Nat) : Int := if j = 6 then (H 6 + 1) % 65536 else H j
theorem coS_good {S : Nat → Rx} {T : Int} {n : Nat} {z : Nat → Int} (h : pErr n z = 0) : coS S T n z = cState S T (pHdr n z) := by unfold coS; rw [if_neg (not_not_intro h)]
theorem coS_bad {S : Nat → Rx} {T : Int} {n : Nat} {z : Nat → Int} (h : pErr n z ≠ 0) : coS S T n z = S := by unfold coS; rw [if_pos h]
theorem coT_le2 (T : Int) (n : Nat) (z : Nat → Int) (hT : 0 ≤ T) : 0 ≤ coT T n z ∧ coT T n z ≤ T + 1 := by unfold coT; split <;> omega
theorem main_step {S : Nat → Rx} {L L' : List Fl} {T : Int} {H : Nat → Int} {n i : Nat} {z : Nat → Int} (I : FInv S L) (hT : 0 ≤ T) (hsub : ∀ x, x ∈ L → x ∈ L') (hlen : L.length ≤ L'.length) (hf : flX H ∈ L')
    (hn : 20 ≤ n ∧ n ≤ 9000) (hp : pErr n z = 0) (hX : ∀ j, j < 8 → pHdr n z j = H j) (hi : i ≤ 255) (h0 : i = 0 → S = S0) (hr : 1 ≤ i → RegI S L H i) :
    FInv (coS S T n z) L' ∧ RegI (coS S T n z) L' (nextH H) (i + 1) ∧ (1 ≤ i → L'.length ≤ 16 → coLen S T n z = n - 17) := by
  have hfx : flX (pHdr n z) = flX H := flX_congr hX
  have hok := co_ok S T n z I.ok
  have hne : ∀ j, j ≠ 6 → j < 8 → nextH H j = H j := fun j h1 _ => if_neg h1
  rw [coS_good hp] at hok ⊢
  refine ⟨finv_step I hT hsub (by rw [hfx]; exact hf) hok, fun hl => ?_, fun h1 hl => ?_⟩
  · by_cases hi0 : i = 0
    · subst hi0
      have hS := h0 rfl
      subst hS
      have r := reg_first (S := S0) (T := T) (X := pHdr n z) rfl
      exact ⟨_, reg_shift (reg_congr hX r) hne rfl⟩
    · obtain ⟨p, r⟩ := hr (by omega) (by omega)
      have r2 := reg_next (T := T) I (reg_congr (fun j hj => (hX j hj).symm) r) (by omega) hi
      exact ⟨p, reg_shift (reg_congr hX r2) hne rfl⟩
  · obtain ⟨p, r⟩ := hr h1 (by omega)
    have hk := (reg_kind (T := T) I (reg_congr (fun j hj => (hX j hj).symm) r) h1 hi).2
    have hck : ckErr n = 0 := by unfold ckErr; rw [if_neg (by omega), if_neg (by omega)]
    unfold coLen cLen
    rw [if_neg (not_not_intro hck), if_neg (not_not_intro hp), if_neg (by rw [hk]; decide), if_neg (by rw [hk]; decide)]
    omega
theorem other_step {S : Nat → Rx} {L L' : List Fl} {T : Int} {H : Nat → Int} {n i : Nat} {z : Nat → Int} (I : FInv S L) (hT : 0 ≤ T) (hsub : ∀ x, x ∈ L → x ∈ L') (hlen : L.length ≤ L'.length) (hr : RegI S L H i)
    (hf : pErr n z = 0 → flX (pHdr n z) ∈ L' ∧ flX (pHdr n z) ≠ flX H) : FInv (coS S T n z) L' ∧ RegI (coS S T n z) L' H i := by
  have hok := co_ok S T n z I.ok
  by_cases hp : pErr n z = 0
  · obtain ⟨h1, h2⟩ := hf hp
    rw [coS_good hp] at hok ⊢
    refine ⟨finv_step I hT hsub h1 hok, fun hl => ?_⟩
    obtain ⟨p, r⟩ := hr (by omega)
    exact ⟨p, reg_other (finv_mono I hsub) h1 hl r h2⟩
  · rw [coS_bad hp]
    refine ⟨finv_mono I hsub, fun hl => ?_⟩
    exact hr (by omega)
theorem hdr_eq {X Y : Nat → Int} (h : hdr X = hdr Y) : ∀ j, j < 9 → X j = Y j := by
  intro j hj
  have h1 := hdr_at X j hj
  rw [h, hdr_at Y j hj] at h1
  injection h1 with h1
  injection h1 with _ h1
  exact h1.symm
theorem hdr_next (H : Nat → Int) : (hdr H).setIfInBounds 6 (.int .i64 ((H 6 + 1) % 65536)) = hdr (nextH H) := rfl

/-- a slice of m byte slices -/
structure Rows2 (w : World) (A : Option Addr) (m : Nat) (PA : Nat → Option Addr) (pn pc : Nat → Nat) (z : Nat → Nat → Int) : Prop where
  at_ : m ≠ 0 → ∃ lb lo, A = some ⟨lb, lo, none⟩ ∧ lb < w.heap.size ∧ ∀ k, k < m → w.cell? ⟨lb, lo + k, none⟩ = some (.slice (PA k) (pn k) (pc k))
  cap : ∀ k, k < m → pn k ≤ pc k
  byte : ∀ k, k < m → ∀ j, j < pn k → 0 ≤ z k j ∧ z k j < 256
  row : ∀ k, k < m → Row w w.heap.size (PA k) (pn k) (fun j => .int .u8 (z k j))
theorem Rows2.below {w w' : World} {A : Option Addr} {m : Nat} {PA : Nat → Option Addr} {pn pc : Nat → Nat} {z : Nat → Nat → Int} (h : Rows2 w A m PA pn pc z) (hb : Below w.heap.size w w') : Rows2 w' A m PA pn pc z :=
  ⟨fun hm => by
    obtain ⟨lb, lo, e, hlt, hc⟩ := h.at_ hm
    exact ⟨lb, lo, e, Nat.lt_of_lt_of_le hlt hb.size, fun k hk => (hb.cell (p := ⟨lb, lo + k, none⟩) hlt).trans (hc k hk)⟩, h.cap, h.byte, fun k hk => (h.row k hk).next hb⟩
theorem open_rows2 {H : Type} {enc : TypeId × Value → H} {w : World} {base : Nat} {spare : Nat → Bool} {held : Bool} {fuel : Nat} {a : Option Addr} {len cap : Nat} {x : DataW H × List MemPlace}
    (h : DataW.trod enc Try.prog w base spare held fuel 61 [.slice a len cap] = some x) (hsp : ∀ b, spare b = true) :
    len ≤ maxLen ∧ len ≤ cap ∧ ∃ PA pn pc z, Rows2 w a len PA pn pc z := by
  rcases Go.Deep.open_slice Try.underlying61 h with ⟨hcs, _⟩ | ⟨ad, l, c, m, n, D, Pl, hcs, _, hl, hm, hmm, _, hf⟩
  · simp at hcs
    obtain ⟨rfl, rfl, rfl⟩ := hcs
    exact ⟨by unfold maxLen; omega, Nat.le_refl _, fun _ => none, fun _ => 0, fun _ => 0, fun _ _ => 0, ⟨fun h => absurd rfl h, fun k hk => by omega, fun k hk => by omega, fun k hk => by omega⟩⟩
  · simp at hcs
    obtain ⟨rfl, rfl, rfl⟩ := hcs
    rw [if_pos (hsp _)] at hmm
    subst hmm
    have c1 : Try.prog.cellsOf 22 = 1 := by kernel_rfl
    have h1 : ∀ i, ∃ q : Option Addr × Nat × Nat × List Int, i < len → w.cell? (ad.add i) = some (.slice q.1 q.2.1 q.2.2.1) ∧ IsRow .u8 w q.1 q.2.1 q.2.2.1 q.2.2.2 := fun i => by
      by_cases hi : i < len
      · obtain ⟨cs', g1, g2⟩ := hf i (by omega)
        rw [c1, Nat.mul_one] at g1
        obtain ⟨_, hlen, hcell⟩ := World.cells?_some g1
        match cs', hlen with
        | [v], _ =>
          obtain ⟨a, l, c, zs, hv, hr⟩ := open_bytes_row (v := v) g2 hsp
          have hc0 := hcell 0 (by omega)
          simp at hc0
          exact ⟨(a, l, c, zs), fun _ => ⟨by rw [← hv]; simpa [Addr.add] using hc0, hr⟩⟩
      · exact ⟨(none, 0, 0, []), fun h => absurd h hi⟩
    obtain ⟨q1, hq1⟩ := Classical.axiomOfChoice h1
    refine ⟨by omega, hl, fun k => (q1 k).1, fun k => (q1 k).2.1, fun k => (q1 k).2.2.1, fun k j => (q1 k).2.2.2.getD j 0, ⟨fun hn => ?_, fun k hk => (isRow_u8 (hq1 k hk).2).1, fun k hk => (isRow_u8 (hq1 k hk).2).2, fun k hk => isRow_row (hq1 k hk).2⟩⟩
    obtain ⟨b, off, spot⟩ := ad
    have c0 := (hq1 0 (by omega)).1
    have hspot : spot = none := by simpa [Addr.add] using World.cell?_spot c0
    subst hspot
    have hadd : ∀ j, (⟨b, off, none⟩ : Addr).add j = ⟨b, off + j, none⟩ := fun j => by unfold Addr.add; split <;> simp_all
    refine ⟨b, off, rfl, ?_, fun k hk => ?_⟩
    · rw [hadd] at c0
      exact World.block_lt_of_cell? w _ c0
    · have := (hq1 k hk).1
      rwa [hadd] at this
end Go.Proofs.Ytejadoadpgcpjaa
namespace Go.Proofs.Ytejadoadpgcpjaa
open Go.RowKit

attribute [local go_sem ↓] Go.wp_at_zero Go.wp_at_succ

structure HInv (w : World) (g mb hb : Nat) (S : Nat → Rx) (T : Int) (L : List Fl) (Hc : Nat → Int) (W : World) : Prop where
  cb : CB W g true S T
  hd : Blk W hb 25 (hdr Hc)
  mp : MB W mb L
  fi : FInv S L
  t0 : 0 ≤ T
  bel : Below w.heap.size w W
section
variable {w W U : World} {g mb hb : Nat} {S : Nat → Rx} {T : Int} {L : List Fl} {Hc : Nat → Int}
theorem HInv.next (h : HInv w g mb hb S T L Hc W) (k : Below W.heap.size W U) : HInv w g mb hb S T L Hc U := ⟨h.cb.below k h.cb.lt, h.hd.below k h.hd.lt, h.mp.below k h.mp.lt, h.fi, h.t0, below_step h.bel k⟩
theorem HInv.put {L' : List Fl} (h : HInv w g mb hb S T L Hc W) (k : Keep1 mb W U) (hm : MB U mb L') (hs : ∀ x, x ∈ L → x ∈ L') (n1 : g ≠ mb) (n2 : hb ≠ mb) (n3 : w.heap.size ≤ mb) : HInv w g mb hb S T L' Hc U :=
  ⟨k.blk h.cb n1, k.blk h.hd n2, hm, finv_mono h.fi hs, h.t0, below_keep h.bel k n3 h.bel.size⟩
theorem HInv.comp {S' : Nat → Rx} {T' : Int} (h : HInv w g mb hb S T L Hc W) (k : Keep1 g W U) (hc : CB U g true S' T') (hf : FInv S' L) (ht : 0 ≤ T') (n1 : mb ≠ g) (n2 : hb ≠ g) (n3 : w.heap.size ≤ g) : HInv w g mb hb S' T' L Hc U :=
  ⟨hc, k.blk h.hd n2, h.mp.keep k n1, hf, ht, below_keep h.bel k n3 h.bel.size⟩
theorem keep_setCell (W : World) (b o : Nat) (v : Value) : Keep1 b W (W.setCell ⟨b, o, none⟩ v) :=
  ⟨rfl, rfl, rfl, (KeepsWalks.setCell W _ v).size, fun k _ hk => Below.heap_setCell _ _ _ k (fun e => hk (by rw [e]))⟩
theorem HInv.ident (h : HInv w g mb hb S T L Hc W) (n1 : mb ≠ hb) (n2 : g ≠ hb) (n3 : w.heap.size ≤ hb) : HInv w g mb hb S T L (nextH Hc) (W.setCell ⟨hb, 6, none⟩ (.int .i64 ((Hc 6 + 1) % 65536))) :=
  ⟨(keep_setCell W hb 6 _).blk h.cb n2, by rw [← hdr_next]; exact h.hd.set_ 6 _, h.mp.keep (keep_setCell W hb 6 _) n1, h.fi, h.t0, below_keep h.bel (keep_setCell W hb 6 _) n3 h.bel.size⟩
end
theorem Keep1.row3 {g n : Nat} {A : Option Addr} {v : Nat → Value} {w w' : World} (h : Keep1 g w w') (hr : Row w w.heap.size A n v) (hg : ∀ a, A = some a → a.block ≠ g) : Row w' w'.heap.size A n v := (h.row hr (Nat.le_refl _) hg).more h.size
theorem own_at {w : World} {base n : Nat} {A : Option Addr} {c : Nat} {f : Nat → Value} (h : w.ownsRow base 5 1 (.slice A n c) n ((List.range n).map f)) : Fresh base A ∧ Row w w.heap.size A n f := own_map_row h
/-- what Build of the reference yields for a valid header, as the walk wants it -/
def BGood (n : Nat) (zP : Nat → Int) (W : World) (e : Ending) (w' : World) : Prop :=
  ∃ A c, e = .returned (.tuple #[.slice A n c, .int .i64 0]) ∧ n ≤ c ∧ Hid (Fresh W.heap.size A) ∧ Hid (Row w' w'.heap.size A n (fun j => .int .u8 (zP j))) ∧ Hid (Below W.heap.size W w')
theorem bgood (Hc : Nat → Int) (A : Option Addr) (np c : Nat) (z : Nat → Int) (hn : np ≤ 50) (hz : ∀ j, j < np → 0 ≤ z j ∧ z j < 256) (hv : validB (withLen Hc (20 + np)) = true) :
    ∃ (n : Nat) (zP : Nat → Int), n = 20 + np ∧ pErr n zP = 0 ∧ (∀ j, j < 8 → pHdr n zP j = Hc j) ∧ (0 ≤ Hc 6 ∧ Hc 6 < 65536) ∧ (∀ j, j < n → 0 ≤ zP j ∧ zP j < 256) ∧ ∀ (W : World), Row W W.heap.size A np (fun j => .int .u8 (z j)) → Calls Try.prog 20 #[.agg (hdr Hc), .slice A np c] W (BGood n zP W) := by
  have haw := validB_wrong _ hv
  have hc : (20 + (np : Int)) = ((20 + np : Nat) : Int) := by simp
  have hp : pErr (20 + np) (pktAt (withLen Hc (20 + np)) z) = 0 := by
    rw [hc] at haw ⊢
    exact pErr_pkt Hc z (20 + np) (by omega) (by omega) haw
  have hh : ∀ j, j < 9 → pHdr (20 + np) (pktAt (withLen Hc (20 + np)) z) j = withLen Hc (20 + np) j := by
    rw [hc] at haw ⊢
    exact hdr_eq (pHdr_pkt Hc z (20 + np) (by omega) (by omega) haw)
  have hX : ∀ j, j < 8 → pHdr (20 + np) (pktAt (withLen Hc (20 + np)) z) j = Hc j := fun j hj => by
    rw [hh j (by omega)]
    unfold withLen
    rw [if_neg (by omega)]
  refine ⟨20 + np, pktAt (withLen Hc (20 + np)) z, rfl, hp, hX, ?_, fun j hj => pkt_byte _ z np hz j hj, fun W hR => ?_⟩
  · have b6 := pHdr_lt (20 + np) (pktAt (withLen Hc (20 + np)) z) 6
    have e6 : ((2 ^ pwd (6 + 1) : Nat) : Int) = 65536 := by decide
    rw [hX 6 (by omega), e6] at b6
    exact b6
  · refine (rbuild_good Hc A np c z (by omega) hv W hR).mono ?_
    rintro e w' ⟨A', c', rfl, hc', ho, hb⟩
    obtain ⟨h1, h2⟩ := own_at ho
    exact ⟨A', c', rfl, hc', Lib.hid h1, Lib.hid h2, Lib.hid hb⟩
theorem sameFlow_X (X Y : Nat → Int) : sameFlow (X 0) (X 1) (X 2) (X 3) (X 4) (Y 0) (Y 1) (Y 2) (Y 3) (Y 4) = true ↔ flX X = flX Y := by
  unfold sameFlow flX
  simp only [Bool.and_eq_true, beq_iff_eq, Fl.mk.injEq]
theorem hd9 (H : Nat → Int) : (hdr H).size = 9 := rfl

set_option linter.unusedVariables false in
set_option maxRecDepth 100000 in
set_option maxHeartbeats 12800000 in
theorem holds_walk (H : Nat → Int) (A0 : Option Addr) (np cp : Nat) (z0 : Nat → Int) (OA : Option Addr) (om oc : Nat) (PA : Nat → Option Addr) (pn pc : Nat → Nat) (z : Nat → Nat → Int) (BA : Option Addr) (bn bc : Nat) (zb : Nat → Int) (w : World)
    (h0 : Row w w.heap.size A0 np (fun j => .int .u8 (z0 j))) (hz0 : ∀ j, j < np → 0 ≤ z0 j ∧ z0 j < 256) (hnp : np ≤ maxLen) (hO : Rows2 w OA om PA pn pc z) (hom : om ≤ maxLen) (hB : Row w w.heap.size BA bn (fun j => .int .u8 (zb j))) (hzb : ∀ j, j < bn → 0 ≤ zb j ∧ zb j < 256) (hbn : bn ≤ maxLen) :
    Calls Try.prog 10 #[.agg (hdr H), .slice A0 np cp, .slice OA om oc, .slice BA bn bc] w fun e w' => e = .returned (.bool true) ∧ Below w.heap.size w w' := by
  unfold maxLen at hnp hom hbn
  have HW := Lib.hid (fun W => works43_true W)
  by_cases hsm : np ≤ 50 ∧ om ≤ 40
  rotate_left
  · obtain ⟨HD, hHD⟩ : ∃ HD, HD = hdr H := ⟨_, rfl⟩
    rw [← hHD]
    clear hHD h0 hO hB hz0 hzb
    by_cases h1 : (50 : Int) < (np : Int)
    · go_enter Try.func10, Try.ntmps10
      go_wp2_with (go_at_call 30; refine (HW.out _).mono ?_; rintro e w1 ⟨rfl, hB1⟩)
      go_ret
      exact ⟨rfl, ((Below.refl _ w).alloc (Nat.le_refl _) _).trans (hB1.mono (by simp))⟩
    · have h2 : (40 : Int) < (om : Int) := by omega
      go_enter Try.func10, Try.ntmps10
      go_wp2_with (go_at_call 30; refine (HW.out _).mono ?_; rintro e w1 ⟨rfl, hB1⟩)
      go_ret
      exact ⟨rfl, ((Below.refl _ w).alloc (Nat.le_refl _) _).trans (hB1.mono (by simp))⟩
  obtain ⟨hnp50, hom40⟩ := hsm
  have h1 : ¬ (50 : Int) < (np : Int) := by omega
  have h2 : ¬ (40 : Int) < (om : Int) := by omega
  have R0 := Lib.hid h0
  have Z0 := Lib.hid hz0
  have HOO := Lib.hid hO
  have HBB := Lib.hid hB
  have HZB := Lib.hid hzb
  obtain ⟨HD0, hHD0⟩ : ∃ HD, HD = hdr H := ⟨_, rfl⟩
  rw [← hHD0]
  have HH0 := Lib.hid hHD0
  have hmm := @run_makeMap Try.prog
  have hu25 := Lib.hid Try.underlying25
  clear h0 hz0 hO hB hzb hHD0
  go_enter Try.func10, Try.ntmps10
  go_upto_region 5 with (go_at_call 31; refine (new_ok2 _).mono ?_; rintro e w1 ⟨rfl, hK1, hB1⟩; have K1 := Lib.hid hK1; have B1 := Lib.hid hB1; clear hK1 hB1)
  obtain ⟨W1, hW1⟩ : ∃ W1, W1 = w.alloc (.cells HD0 25) := ⟨_, rfl⟩
  obtain ⟨hb, hhb⟩ : ∃ hb, hb = w.heap.size := ⟨_, rfl⟩
  obtain ⟨g, hg⟩ : ∃ g, g = hb + 1 := ⟨_, rfl⟩
  obtain ⟨mb, hmb⟩ : ∃ mb, mb = w1.heap.size := ⟨_, rfl⟩
  obtain ⟨W3, hW3⟩ : ∃ W3, W3 = w1.alloc (.map #[] 0) := ⟨_, rfl⟩
  have hz1 : W1.heap.size = g := by rw [hW1, hg, hhb, World.size_alloc]
  have hz2 : g < mb := by have := K1.out.lt; simp at this; omega
  have IV := Lib.hid (show HInv w g mb hb S0 0 [] H W3 from by
    have b0 : Below w.heap.size w w1 := ((Below.refl _ w).alloc (Nat.le_refl _) _).trans (B1.out.mono (by simp))
    have hd : Blk w1 hb 25 (hdr H) := by rw [← HH0.out, hhb]; exact (Blk.new w _ _).below B1.out (by simp)
    refine ⟨?_, by rw [hW3]; exact hd.alloc _, ⟨#[], 0, by rw [hW3, hmb]; exact World.alloc_heap_new _ _, rfl⟩, finv_zero, Int.le_refl _, by rw [hW3]; exact b0.alloc b0.size _⟩
    have := K1.out
    rw [hW3]
    refine CB.alloc ?_ _
    rw [hg, hhb]
    simpa using this)
  rw [← hW3, ← hmb, ← hhb, ← hg]
  have HHB := Lib.hid hhb
  have n1 : g ≠ mb := by omega
  have n2 : hb ≠ mb := by omega
  have n3 : w.heap.size ≤ mb := by omega
  have n4 : mb ≠ g := by omega
  have n5 : hb ≠ g := by omega
  have n6 : w.heap.size ≤ g := by omega
  have n7 : mb ≠ hb := by omega
  have n8 : g ≠ hb := by omega
  have n9 : w.heap.size ≤ hb := by omega
  clear hW1 hW3 hmb hhb hg hz1 hz2 hmm
  go_wp2
  go_loopw [11, 12] (fun v11 v12 wr => ∃ (i ai : Nat) (S : Nat → Rx) (T : Int) (L : List Fl) (Hc : Nat → Int), v12 = .int .i64 i ∧ v11 = .int .i64 ai ∧ i ≤ 30 ∧ ai ≤ om ∧ T ≤ 5 * i ∧ HInv w g mb hb S T L Hc wr ∧ (i = 0 → S = S0) ∧ (1 ≤ i → RegI S L Hc i)) (fun _ v12 _ => 30 - (intOf v12).toNat)
  case atStart => exact ⟨0, 0, S0, 0, [], H, rfl, rfl, by omega, by omega, by omega, IV.out, fun _ => rfl, fun h => absurd h (by decide)⟩
  case round =>
    obtain ⟨i, ai, S, T, L, Hc, rfl, rfl, hi, hai, hT4, hIV, hi0, hreg⟩ := hrel
    obtain ⟨wA, rfl⟩ : ∃ wA : World, wA = wr := ⟨_, rfl⟩
    have IVA := Lib.hid hIV
    have HI0 := Lib.hid hi0
    have HRG := Lib.hid hreg
    clear hIV hi0 hreg
    obtain ⟨HD, hHD⟩ : ∃ HD, HD = hdr Hc := ⟨_, rfl⟩
    have HHD := Lib.hid hHD
    have BHD := Lib.hid (show Blk wA hb 25 HD from by rw [hHD]; exact IVA.out.hd)
    have HSD : Hid ((Try.prog.info? 25).map (·.size) = some HD.size) := Lib.hid (by rw [hHD]; exact size25)
    have RA0 := Lib.hid (show Row wA wA.heap.size A0 np (fun j => .int .u8 (z0 j)) from (R0.out.below IVA.out.bel).more IVA.out.bel.size)
    by_cases hlt : i < 30
    · by_cases hv : validB (withLen Hc (20 + np)) = true
      rotate_left
      · have HBD := Lib.hid (fun W => rbuild_bad Hc A0 np cp (by omega) (by simpa using hv) W)
        rw [← hHD] at HBD
        clear hHD hv
        go_wp2_with (first
          | (refine wpList_load_row rfl _ _ rfl hb rfl 25 HD (0, 0) _ BHD.out hu25.out rfl HSD.out ?_)
          | (go_at_call 20; refine (HBD.out _).mono ?_; rintro e w4 ⟨rfl, hB4⟩; have B4 := Lib.hid hB4; clear hB4)
          | (go_at_call 30; refine (HW.out _).mono ?_; rintro e w9 ⟨rfl, hB9⟩))
        go_ret
        exact ⟨rfl, below_step (below_step IVA.out.bel B4.out) hB9⟩
      obtain ⟨n, zP, hn, hpE, hX, h6, hzP, hBG⟩ := bgood Hc A0 np cp z0 hnp50 Z0.out hv
      unfold BGood at hBG
      have HBG := Lib.hid hBG
      rw [← hHD] at HBG
      have HFL := Lib.hid (fun W => rflow_ok (Hc 0) (Hc 1) (Hc 2) (Hc 3) (Hc 4) (Hc 5) (Hc 6) (Hc 7) (Hc 8) W)
      change Hid (∀ W, Calls Try.prog 36 #[.agg (hdr Hc)] W fun e w' => e = .returned (flX Hc).val ∧ Below W.heap.size W w') at HFL
      rw [← hHD] at HFL
      obtain ⟨fv, hfv⟩ : ∃ fv, fv = (flX Hc).val := ⟨_, rfl⟩
      rw [← hfv] at HFL
      have HFV := Lib.hid hfv
      have HPE := Lib.hid hpE
      have HXX := Lib.hid hX
      have HZP := Lib.hid hzP
      have hn20 : 20 ≤ n := by omega
      have hn70 : n ≤ 70 := by omega
      have HVV := Lib.hid hv
      clear hHD hBG hfv hpE hX hzP hv hn
      go_upto_region 12 with (first
        | (refine wpList_load_row rfl _ _ rfl hb rfl 25 HD (0, 0) _ BHD.out hu25.out rfl HSD.out ?_)
        | (go_at_call 20; refine (HBG.out _ RA0.out).mono ?_; rintro e w4 ⟨A4, c4, rfl, hc4, F4, R4, B4⟩))
      have IV4 := Lib.hid (IVA.out.next B4.out)
      have BH4 := Lib.hid (BHD.out.below B4.out BHD.out.lt)
      have hszA : wA.heap.size ≤ w4.heap.size := B4.out.size
      have hgA : g < wA.heap.size := IVA.out.cb.lt
      have hmA : mb < wA.heap.size := IVA.out.mp.lt
      go_upto_region 13 with (first
        | (refine wpList_load_row rfl _ _ rfl hb rfl 25 HD (0, 0) _ BH4.out hu25.out rfl HSD.out ?_)
        | (go_at_call 36; refine (HFL.out _).mono ?_; rintro e w5 ⟨rfl, hB5⟩; have IV5 := Lib.hid (IV4.out.next hB5); have R5 := Lib.hid (R4.out.next hB5); obtain ⟨w6, L', hmu, hM6, hsub, hin, hlen, hK6⟩ := mput w5 mb L (flX Hc) (.int .i64 1) IV5.out.mp; rw [← HFV.out] at hmu; have B5 := Lib.hid hB5; have M6 := Lib.hid hM6; have HSUB := Lib.hid hsub; have HIN := Lib.hid hin; have K6 := Lib.hid hK6; clear hB5 hM6 hsub hin hK6))
      have IV6 := Lib.hid (IV5.out.put K6.out M6.out HSUB.out n1 n2 n3)
      have hA4 : ∀ a, A4 = some a → a.block ≠ g ∧ a.block ≠ mb := fun a e => by have := F4.out a e; omega
      have R6 := Lib.hid (K6.out.row3 R5.out (fun a e => (hA4 a e).2))
      have HCO := Lib.hid (compress_any g S T A4 n c4 zP w6 IV6.out.cb IVA.out.fi.ok ⟨IVA.out.t0, by omega⟩ hc4 HZP.out R6.out (fun a e => (hA4 a e).1))
      have hck : ckErr n = 0 := by unfold ckErr; rw [if_neg (by omega), if_neg (by omega)]
      rw [hck] at HCO
      obtain ⟨m1, m2, m3⟩ := main_step (T := T) IVA.out.fi IVA.out.t0 HSUB.out hlen HIN.out ⟨hn20, by omega⟩ HPE.out HXX.out (by omega) HI0.out HRG.out
      have hcle := coLen_le1 S T n zP
      obtain ⟨ct0, ct1⟩ := coT_le2 T n zP IVA.out.t0
      obtain ⟨cl, hcl⟩ : ∃ cl, cl = coLen S T n zP := ⟨_, rfl⟩
      obtain ⟨S', hS'⟩ : ∃ S', S' = coS S T n zP := ⟨_, rfl⟩
      obtain ⟨T', hT'⟩ : ∃ T', T' = coT T n zP := ⟨_, rfl⟩
      rw [← hcl] at HCO hcle m3
      rw [← hS'] at HCO m1 m2
      rw [← hT'] at HCO ct0 ct1
      unfold COut at HCO
      have M1 := Lib.hid m1
      have M2 := Lib.hid m2
      have M3 := Lib.hid m3
      clear hck hcl hS' hT' m1 m2 m3 hA4 hmu
      go_upto_region 14 with (go_at_call 32; refine HCO.out.mono ?_; rintro e w7 ⟨A7, c7, rfl, hc7, hF7, hR7, hK7, hE7⟩; have IV7 := Lib.hid (IV6.out.comp hE7 hK7 M1.out ct0 n4 n5 n6); clear hF7 hR7 hK7 hE7)
      go_cut [84] from 57 to 83 (fun v wx => v = .bool false ∧ w7 = wx)
      case first =>
        have hml := mlen w7 mb L' 3 IV7.out.mp
        have t1 : ¬ ((n : Int) + 1 < (cl : Int)) := by omega
        have t1d : decide ((n : Int) + 1 < (cl : Int)) = false := by simp; omega
        have hcl9 : (cl : Int) ≤ 100 := by omega
        obtain ⟨lm, hlm⟩ : ∃ lm, lm = L'.length := ⟨_, rfl⟩
        rw [← hlm] at hml M3
        by_cases c1 : 0 < i
        · by_cases c2 : lm ≤ 16
          · have hcl7 := M3.out (by omega) c2
            have t2 : (0 : Int) < (i : Int) := by omega
            have t3 : (lm : Int) ≤ 16 := by omega
            have t4 : (((cl : Int)) == ((n : Int) - 17)) = true := by simp; omega
            have t5 : (((cl : Int)) != ((n : Int) - 17)) = false := by simp; omega
            clear hcl7 hlm
            go_wp2_with (go_at_call 33; refine (num43_ok _ _).mono ?_; rintro e wn ⟨rfl, rfl⟩)
            go_meet
            exact ⟨rfl, rfl⟩
          · have t2 : (0 : Int) < (i : Int) := by omega
            have t3 : ¬ ((lm : Int) ≤ 16) := by omega
            have t4 : decide ((lm : Int) ≤ 16) = false := by simp; omega
            have t5 : (16 : Int) < (lm : Int) := by omega
            clear hlm
            go_wp2_with (go_at_call 33; refine (num43_ok _ _).mono ?_; rintro e wn ⟨rfl, rfl⟩)
            go_meet
            exact ⟨rfl, rfl⟩
        · have t2 : ¬ (0 : Int) < (i : Int) := by omega
          have t3 : decide ((0 : Int) < (i : Int)) = false := by simp; omega
          have t4 : decide (0 < i) = false := by simp; omega
          clear hlm
          go_wp2_with (go_at_call 33; refine (num43_ok _ _).mono ?_; rintro e wn ⟨rfl, rfl⟩)
          go_meet
          exact ⟨rfl, rfl⟩
      case rest =>
        obtain ⟨rfl, rfl⟩ := hcut
        have c6 : w7.cell? ⟨hb, 6, none⟩ = some (.int .i64 (Hc 6)) := (IV7.out.hd.cell 6).trans (hdr_at _ 6 (by decide))
        have f6 := IV7.out.hd.frozen 6
        obtain ⟨h60, h61⟩ := h6
        go_upto_region 17 with (fail)
        obtain ⟨w8, hw8⟩ : ∃ w8, w8 = w7.setCell ⟨hb, 6, none⟩ (.int .i64 ((Hc 6 + 1) % 65536)) := ⟨_, rfl⟩
        have IV8 := Lib.hid (show HInv w g mb hb S' T' L' (nextH Hc) w8 from by rw [hw8]; exact IV7.out.ident n7 n8 n9)
        rw [← hw8]
        clear hw8 c6 f6 h60 h61
        obtain ⟨HN, hHN⟩ : ∃ HN, HN = nextH Hc := ⟨_, rfl⟩
        rw [← hHN] at IV8 M2
        clear hHN
        go_wp2
        go_loopw [11, 17] (fun v11 v17 wq => ∃ (k aj : Nat) (S2 : Nat → Rx) (T2 : Int) (L2 : List Fl), v17 = .int .i64 k ∧ v11 = .int .i64 aj ∧ k ≤ 4 ∧ aj ≤ om ∧ T2 ≤ 5 * i + 1 + k ∧ HInv w g mb hb S2 T2 L2 HN wq ∧ RegI S2 L2 HN (i + 1)) (fun _ v17 _ => 4 - (intOf v17).toNat)
        case atStart => exact ⟨0, ai, S', T', L', rfl, rfl, by omega, hai, by omega, IV8.out, M2.out⟩
        case round =>
          obtain ⟨k, aj, S2, T2, L2, rfl, rfl, hk, haj, hT5, hIV2, hreg2⟩ := hrel
          have IVB := Lib.hid hIV2
          have HR2 := Lib.hid hreg2
          clear hIV2 hreg2
          have hkk : (k : Int) ≤ 4 := by omega
          by_cases c1 : i < bn
          rotate_left
          · have t1 : ¬ ((i : Int) < (bn : Int)) := by omega
            have t2 : decide ((i : Int) < (bn : Int)) = false := by simp; omega
            have t3 : decide (i < bn) = false := by simp; omega
            go_wp2
            go_roundw
            case rel => first | exact ⟨i + 1, aj, S2, T2, L2, HN, by go_num, rfl, by omega, haj, by omega, IVB.out, fun h => absurd h (by omega), fun _ => HR2.out⟩ | ((repeat apply Exists.intro); exact ⟨⟨i + 1, aj, S2, T2, L2, HN, by go_num, rfl, by omega, haj, by omega, IVB.out, fun h => absurd h (by omega), fun _ => HR2.out⟩, rfl⟩)
            case measure => simp [intOf]; omega
          obtain ⟨bb, bo, rfl, hbb, hbc⟩ := HBB.out (by omega)
          have hy := HZB.out i c1
          have cy : wr.cell? ⟨bb, bo + i, none⟩ = some (.int .u8 (zb i)) := (IVB.out.bel.cell (p := ⟨bb, bo + i, none⟩) hbb).trans (hbc i c1)
          obtain ⟨y, hyy⟩ : ∃ y, y = zb i := ⟨_, rfl⟩
          rw [← hyy] at hy cy
          clear hbc hyy
          obtain ⟨y0, y1⟩ := hy
          have i0 : (0 : Int) ≤ (i : Int) := by omega
          have i1 : (i : Int) < (bn : Int) := by omega
          by_cases c2 : (k : Int) < y % 4
          rotate_left
          · have t2 : decide ((k : Int) < y % 4) = false := by simp; omega
            go_wp2
            go_roundw
            case rel => first | exact ⟨i + 1, aj, S2, T2, L2, HN, by go_num, rfl, by omega, haj, by omega, IVB.out, fun h => absurd h (by omega), fun _ => HR2.out⟩ | ((repeat apply Exists.intro); exact ⟨⟨i + 1, aj, S2, T2, L2, HN, by go_num, rfl, by omega, haj, by omega, IVB.out, fun h => absurd h (by omega), fun _ => HR2.out⟩, rfl⟩)
            case measure => simp [intOf]; omega
          by_cases c3 : aj < om
          rotate_left
          · have t1 : ¬ ((aj : Int) < (om : Int)) := by omega
            go_wp2
            go_roundw
            case rel => first | exact ⟨i + 1, aj, S2, T2, L2, HN, by go_num, rfl, by omega, haj, by omega, IVB.out, fun h => absurd h (by omega), fun _ => HR2.out⟩ | ((repeat apply Exists.intro); exact ⟨⟨i + 1, aj, S2, T2, L2, HN, by go_num, rfl, by omega, haj, by omega, IVB.out, fun h => absurd h (by omega), fun _ => HR2.out⟩, rfl⟩)
            case measure => simp [intOf]; omega
          obtain ⟨lb, lo, rfl, hlb, hlc⟩ := HOO.out.at_ (by omega)
          have cq : wr.cell? ⟨lb, lo + aj, none⟩ = some (.slice (PA aj) (pn aj) (pc aj)) := (IVB.out.bel.cell (p := ⟨lb, lo + aj, none⟩) hlb).trans (hlc aj c3)
          have hocap := HOO.out.cap aj c3
          have HZO := Lib.hid (HOO.out.byte aj c3)
          have HRO := Lib.hid (HOO.out.row aj c3)
          obtain ⟨QA, hQA⟩ : ∃ QA, QA = PA aj := ⟨_, rfl⟩
          obtain ⟨q, hq⟩ : ∃ q, q = pn aj := ⟨_, rfl⟩
          obtain ⟨qc, hqc⟩ : ∃ qc, qc = pc aj := ⟨_, rfl⟩
          obtain ⟨qz, hqz⟩ : ∃ qz, qz = z aj := ⟨_, rfl⟩
          rw [← hQA, ← hq, ← hqc] at cq
          rw [← hq, ← hqc] at hocap
          rw [← hq, ← hqz] at HZO
          rw [← hQA, ← hq, ← hqz] at HRO
          have RO := Lib.hid (show Row wr wr.heap.size QA q (fun j => .int .u8 (qz j)) from (HRO.out.below IVB.out.bel).more IVB.out.bel.size)
          have j0 : (0 : Int) ≤ (aj : Int) := by omega
          have j1 : (aj : Int) < (om : Int) := by omega
          clear hlc hQA hq hqc hqz
          by_cases c5 : q = 0
          · subst c5
            go_wp2_with (go_at_call 30; refine (HW.out _).mono ?_; rintro e w9 ⟨rfl, hB9⟩)
            go_ret
            exact ⟨rfl, below_step IVB.out.bel hB9⟩
          have t5 : ((q : Int) == 0) = false := by simp; omega
          by_cases c6 : 100 < q
          · have t6 : (100 : Int) < (q : Int) := by omega
            go_wp2_with (go_at_call 30; refine (HW.out _).mono ?_; rintro e w9 ⟨rfl, hB9⟩)
            go_ret
            exact ⟨rfl, below_step IVB.out.bel hB9⟩
          have t6 : ¬ (100 : Int) < (q : Int) := by omega
          have HPA := Lib.hid (parse_any QA q qc qz hocap HZO.out wr RO.out)
          unfold ParseEnd at HPA
          obtain ⟨PL, hPL⟩ : ∃ PL, PL = pLen q qz := ⟨_, rfl⟩
          obtain ⟨X, hXq⟩ : ∃ X, X = pHdr q qz := ⟨_, rfl⟩
          obtain ⟨H9, hH9⟩ : ∃ H9, H9 = hdr X := ⟨_, rfl⟩
          obtain ⟨E, hE⟩ : ∃ E, E = pErr q qz := ⟨_, rfl⟩
          rw [← hPL, ← hE, ← hXq, ← hH9] at HPA
          have HXQ := Lib.hid hXq
          have HH9 := Lib.hid hH9
          have HEE := Lib.hid hE
          have HS9 : Hid ((Try.prog.info? 25).map (·.size) = some H9.size) := Lib.hid (by rw [hH9]; exact size25)
          have HN9 : Hid (9 = H9.size) := Lib.hid (by rw [hH9]; rfl)
          have HO9 : Hid (H9.all (·.oneCell') = true) := Lib.hid (by rw [hH9]; exact hdr_one _)
          clear hPL hXq hH9 hE
          have hgB : g < wr.heap.size := IVB.out.cb.lt
          have hmB : mb < wr.heap.size := IVB.out.mp.lt
          go_upto_region 25 with (first
            | (go_at_call 16; refine (HPA.out).mono ?_; rintro e w4 ⟨P, c2', rfl, hc2, hRP, b2⟩; have B2 := Lib.hid b2; clear hRP b2)
            | (refine wpList_store_row rfl _ _ _ rfl w4.heap.size H9 rfl rfl 25 _ (Blk.new w4 _ _) HS9.out HN9.out HO9.out ?_))
          obtain ⟨gb, hgb⟩ : ∃ gb, gb = w4.heap.size := ⟨_, rfl⟩
          obtain ⟨W5, hW5⟩ : ∃ W5, W5 = (w4.alloc (.cells #[.int .i64 0, .int .i64 0, .int .i64 0, .int .i64 0, .int .i64 0, .int .i64 0, .int .i64 0, .int .i64 0, .int .i64 0] 25)).setRow w4.heap.size H9 := ⟨_, rfl⟩
          have b5 : Below wr.heap.size wr W5 := by
            rw [hW5]
            exact belowRow (below_new B2.out _) B2.out.size _
          have BG5 := (show Blk W5 gb 25 (hdr X) from by rw [hW5, hgb, ← HH9.out]; exact Blk.setRow (Blk.new w4 _ _))
          have IV5 := Lib.hid (IVB.out.next b5)
          have hgb1 : wr.heap.size ≤ gb := by rw [hgb]; exact B2.out.size
          rw [← hW5, ← hgb]
          have BGH := Lib.hid BG5
          clear hW5 hgb b5 BG5 cq
          by_cases hE0 : E = 0
          rotate_left
          · have t7 : (E == 0) = false := by simpa using hE0
            have ROx := Lib.hid (show Row W5 W5.heap.size QA q (fun j => .int .u8 (qz j)) from (HRO.out.below IV5.out.bel).more IV5.out.bel.size)
            have HCO2 := Lib.hid (compress_any g S2 T2 QA q qc qz W5 IV5.out.cb IV5.out.fi.ok ⟨IV5.out.t0, by omega⟩ hocap HZO.out ROx.out (fun a e => by
              obtain ⟨b, off, e2, hb', _⟩ := HRO.out (by omega)
              rw [e] at e2; cases e2
              show b ≠ g; omega))
            have hck : ckErr q = 0 := by unfold ckErr; rw [if_neg (by omega), if_neg (by omega)]
            rw [hck] at HCO2
            obtain ⟨m1, m2⟩ := other_step (T := T2) (n := q) (z := qz) (L' := L2) IVB.out.fi IVB.out.t0 (fun x h => h) (Nat.le_refl _) HR2.out (fun e => absurd (HEE.out.trans e) hE0)
            have hcle2 := coLen_le1 S2 T2 q qz
            obtain ⟨ct2, ct3⟩ := coT_le2 T2 q qz IVB.out.t0
            obtain ⟨cl2, hcl2⟩ : ∃ cl, cl = coLen S2 T2 q qz := ⟨_, rfl⟩
            obtain ⟨S3, hS3⟩ : ∃ S3, S3 = coS S2 T2 q qz := ⟨_, rfl⟩
            obtain ⟨T3, hT3⟩ : ∃ T3, T3 = coT T2 q qz := ⟨_, rfl⟩
            rw [← hcl2] at HCO2 hcle2
            rw [← hS3] at HCO2 m1 m2
            rw [← hT3] at HCO2 ct2 ct3
            unfold COut at HCO2
            have M4 := Lib.hid m1
            have M5 := Lib.hid m2
            clear hck hcl2 hS3 hT3 m1 m2
            have t8 : ¬ ((q : Int) + 1 < (cl2 : Int)) := by omega
            have t9 : decide ((q : Int) + 1 < (cl2 : Int)) = false := by simp; omega
            have t10 : (cl2 : Int) ≤ 200 := by omega
            go_wp2_with (first
              | (go_at_call 32; refine HCO2.out.mono ?_; rintro e wz ⟨A7, c7, rfl, hc7, hF7, hR7, hK7, hE7⟩; have IVz := Lib.hid (IV5.out.comp hE7 hK7 M4.out ct2 n4 n5 n6); clear hF7 hR7 hK7 hE7)
              | (go_at_call 33; refine (num43_ok _ _).mono ?_; rintro e wn ⟨rfl, rfl⟩))
            go_roundw
            case rel => first | exact ⟨k + 1, aj + 1, S3, T3, L2, by go_num, by go_num, by omega, by omega, by omega, IVz.out, M5.out⟩ | ((repeat apply Exists.intro); exact ⟨⟨k + 1, aj + 1, S3, T3, L2, by go_num, by go_num, by omega, by omega, by omega, IVz.out, M5.out⟩, rfl⟩)
            case measure => simp [intOf]; omega
          subst hE0
          go_upto_region 26 with (go_at_call 33; refine (num43_ok _ _).mono ?_; rintro e wn ⟨rfl, rfl⟩)
          have hgl := BGH.out.lt
          have hhl := IV5.out.hd.lt
          have xg0 : ∀ e : ExtW W5, e.v.cell? ⟨gb, 0, none⟩ = some (.int .i64 (X 0)) := fun e => e.cell ((BGH.out.cell 0).trans (hdr_at _ 0 (by decide))) hgl
          have xh0 : ∀ e : ExtW W5, e.v.cell? ⟨hb, 0, none⟩ = some (.int .i64 (HN 0)) := fun e => e.cell ((IV5.out.hd.cell 0).trans (hdr_at _ 0 (by decide))) hhl
          have xg1 : ∀ e : ExtW W5, e.v.cell? ⟨gb, 1, none⟩ = some (.int .i64 (X 1)) := fun e => e.cell ((BGH.out.cell 1).trans (hdr_at _ 1 (by decide))) hgl
          have xh1 : ∀ e : ExtW W5, e.v.cell? ⟨hb, 1, none⟩ = some (.int .i64 (HN 1)) := fun e => e.cell ((IV5.out.hd.cell 1).trans (hdr_at _ 1 (by decide))) hhl
          have xg2 : ∀ e : ExtW W5, e.v.cell? ⟨gb, 2, none⟩ = some (.int .i64 (X 2)) := fun e => e.cell ((BGH.out.cell 2).trans (hdr_at _ 2 (by decide))) hgl
          have xh2 : ∀ e : ExtW W5, e.v.cell? ⟨hb, 2, none⟩ = some (.int .i64 (HN 2)) := fun e => e.cell ((IV5.out.hd.cell 2).trans (hdr_at _ 2 (by decide))) hhl
          have xg3 : ∀ e : ExtW W5, e.v.cell? ⟨gb, 3, none⟩ = some (.int .i64 (X 3)) := fun e => e.cell ((BGH.out.cell 3).trans (hdr_at _ 3 (by decide))) hgl
          have xh3 : ∀ e : ExtW W5, e.v.cell? ⟨hb, 3, none⟩ = some (.int .i64 (HN 3)) := fun e => e.cell ((IV5.out.hd.cell 3).trans (hdr_at _ 3 (by decide))) hhl
          have xg4 : ∀ e : ExtW W5, e.v.cell? ⟨gb, 4, none⟩ = some (.int .i64 (X 4)) := fun e => e.cell ((BGH.out.cell 4).trans (hdr_at _ 4 (by decide))) hgl
          have xh4 : ∀ e : ExtW W5, e.v.cell? ⟨hb, 4, none⟩ = some (.int .i64 (HN 4)) := fun e => e.cell ((IV5.out.hd.cell 4).trans (hdr_at _ 4 (by decide))) hhl
          have xg5 : ∀ e : ExtW W5, e.v.cell? ⟨gb, 5, none⟩ = some (.int .i64 (X 5)) := fun e => e.cell ((BGH.out.cell 5).trans (hdr_at _ 5 (by decide))) hgl
          have xh5 : ∀ e : ExtW W5, e.v.cell? ⟨hb, 5, none⟩ = some (.int .i64 (HN 5)) := fun e => e.cell ((IV5.out.hd.cell 5).trans (hdr_at _ 5 (by decide))) hhl
          have xg6 : ∀ e : ExtW W5, e.v.cell? ⟨gb, 6, none⟩ = some (.int .i64 (X 6)) := fun e => e.cell ((BGH.out.cell 6).trans (hdr_at _ 6 (by decide))) hgl
          have xh6 : ∀ e : ExtW W5, e.v.cell? ⟨hb, 6, none⟩ = some (.int .i64 (HN 6)) := fun e => e.cell ((IV5.out.hd.cell 6).trans (hdr_at _ 6 (by decide))) hhl
          have xg7 : ∀ e : ExtW W5, e.v.cell? ⟨gb, 7, none⟩ = some (.int .i64 (X 7)) := fun e => e.cell ((BGH.out.cell 7).trans (hdr_at _ 7 (by decide))) hgl
          have xh7 : ∀ e : ExtW W5, e.v.cell? ⟨hb, 7, none⟩ = some (.int .i64 (HN 7)) := fun e => e.cell ((IV5.out.hd.cell 7).trans (hdr_at _ 7 (by decide))) hhl
          have xg8 : ∀ e : ExtW W5, e.v.cell? ⟨gb, 8, none⟩ = some (.int .i64 (X 8)) := fun e => e.cell ((BGH.out.cell 8).trans (hdr_at _ 8 (by decide))) hgl
          have xh8 : ∀ e : ExtW W5, e.v.cell? ⟨hb, 8, none⟩ = some (.int .i64 (HN 8)) := fun e => e.cell ((IV5.out.hd.cell 8).trans (hdr_at _ 8 (by decide))) hhl
          have heq := flow_eql (X 0) (X 1) (X 2) (X 3) (X 4) (HN 0) (HN 1) (HN 2) (HN 3) (HN 4)
          obtain ⟨sf, hsf⟩ : ∃ sf, sf = sameFlow (X 0) (X 1) (X 2) (X 3) (X 4) (HN 0) (HN 1) (HN 2) (HN 3) (HN 4) := ⟨_, rfl⟩
          rw [← hsf] at heq
          have HSF := Lib.hid (show sf = true ↔ flX X = flX HN from by rw [hsf]; exact sameFlow_X X HN)
          clear hsf
          cases sf
          rotate_left
          · refine wp_region_ext (by kernel_rfl) (by kernel_rfl) ?_
            repeat (go_big_quiet_step (exact Calls.ext_of (rflow_ok _ _ _ _ _ _ _ _ _ _)))
            refine wpQuiet_nil ?_
            rintro _ ⟨ex, rfl⟩
            have BE := Lib.hid (below_step IV5.out.bel ex.h)
            go_wp2_with (go_at_call 30; refine (HW.out _).mono ?_; rintro e w9 ⟨rfl, hB9⟩)
            go_ret
            exact ⟨rfl, below_step BE.out hB9⟩
          have HNE := Lib.hid (show flX X ≠ flX HN from fun e => by have := HSF.out.2 e; cases this)
          refine wp_region_ext (by kernel_rfl) (by kernel_rfl) ?_
          repeat (go_big_quiet_step (exact Calls.ext_of (rflow_ok _ _ _ _ _ _ _ _ _ _)))
          refine wpQuiet_nil ?_
          rintro _ ⟨ex, rfl⟩
          have IV6 := Lib.hid (IV5.out.next ex.h)
          have BG6 := Lib.hid (show Blk ex.v gb 25 H9 from by rw [HH9.out]; exact BGH.out.below ex.h hgl)
          have HFX := Lib.hid (fun W => rflow_ok (X 0) (X 1) (X 2) (X 3) (X 4) (X 5) (X 6) (X 7) (X 8) W)
          change Hid (∀ W, Calls Try.prog 36 #[.agg (hdr X)] W fun e w' => e = .returned (flX X).val ∧ Below W.heap.size W w') at HFX
          rw [← HH9.out] at HFX
          obtain ⟨fx, hfx⟩ : ∃ fx, fx = (flX X).val := ⟨_, rfl⟩
          rw [← hfx] at HFX
          have HFXV := Lib.hid hfx
          clear hfx heq xg0 xh0 xg1 xh1 xg2 xh2 xg3 xh3 xg4 xh4 xg5 xh5 xg6 xh6 xg7 xh7 xg8 xh8
          go_upto_region 29 with (first
            | (refine wpList_load_row rfl _ _ rfl gb rfl 25 H9 (0, 0) _ BG6.out hu25.out rfl HS9.out ?_)
            | (go_at_call 36; refine (HFX.out _).mono ?_; rintro e w7 ⟨rfl, hB7⟩; have IV7x := Lib.hid (IV6.out.next hB7); obtain ⟨w8x, L3, hmu, hM8, hsub, hin, hlen3, hK8⟩ := mput w7 mb L2 (flX X) (.int .i64 1) IV7x.out.mp; rw [← HFXV.out] at hmu; have M8 := Lib.hid hM8; have HSUB3 := Lib.hid hsub; have HIN3 := Lib.hid hin; have K8 := Lib.hid hK8; clear hB7 hM8 hsub hin hK8))
          have IV8x := Lib.hid (IV7x.out.put K8.out M8.out HSUB3.out n1 n2 n3)
          clear hmu
          have ROx := Lib.hid (show Row w8x w8x.heap.size QA q (fun j => .int .u8 (qz j)) from (HRO.out.below IV8x.out.bel).more IV8x.out.bel.size)
          have HCO2 := Lib.hid (compress_any g S2 T2 QA q qc qz w8x IV8x.out.cb IV8x.out.fi.ok ⟨IV8x.out.t0, by omega⟩ hocap HZO.out ROx.out (fun a e => by
            obtain ⟨b, off, e2, hb', _⟩ := HRO.out (by omega)
            rw [e] at e2; cases e2
            show b ≠ g; omega))
          have hck : ckErr q = 0 := by unfold ckErr; rw [if_neg (by omega), if_neg (by omega)]
          rw [hck] at HCO2
          obtain ⟨m1, m2⟩ := other_step (T := T2) (n := q) (z := qz) (L' := L3) IVB.out.fi IVB.out.t0 HSUB3.out hlen3 HR2.out (fun _ => by rw [← HXQ.out]; exact ⟨HIN3.out, HNE.out⟩)
          have hcle2 := coLen_le1 S2 T2 q qz
          obtain ⟨ct2, ct3⟩ := coT_le2 T2 q qz IVB.out.t0
          obtain ⟨cl2, hcl2⟩ : ∃ cl, cl = coLen S2 T2 q qz := ⟨_, rfl⟩
          obtain ⟨S3, hS3⟩ : ∃ S3, S3 = coS S2 T2 q qz := ⟨_, rfl⟩
          obtain ⟨T3, hT3⟩ : ∃ T3, T3 = coT T2 q qz := ⟨_, rfl⟩
          rw [← hcl2] at HCO2 hcle2
          rw [← hS3] at HCO2 m1 m2
          rw [← hT3] at HCO2 ct2 ct3
          unfold COut at HCO2
          have M4 := Lib.hid m1
          have M5 := Lib.hid m2
          clear hck hcl2 hS3 hT3 m1 m2
          have t8 : ¬ ((q : Int) + 1 < (cl2 : Int)) := by omega
          have t9 : decide ((q : Int) + 1 < (cl2 : Int)) = false := by simp; omega
          have t10 : (cl2 : Int) ≤ 200 := by omega
          go_wp2_with (first
            | (go_at_call 32; refine HCO2.out.mono ?_; rintro e wz ⟨A7, c7, rfl, hc7, hF7, hR7, hK7, hE7⟩; have IVz := Lib.hid (IV8x.out.comp hE7 hK7 M4.out ct2 n4 n5 n6); clear hF7 hR7 hK7 hE7)
            | (go_at_call 33; refine (num43_ok _ _).mono ?_; rintro e wn ⟨rfl, rfl⟩))
          go_roundw
          case rel => first | exact ⟨k + 1, aj + 1, S3, T3, L3, by go_num, by go_num, by omega, by omega, by omega, IVz.out, M5.out⟩ | ((repeat apply Exists.intro); exact ⟨⟨k + 1, aj + 1, S3, T3, L3, by go_num, by go_num, by omega, by omega, by omega, IVz.out, M5.out⟩, rfl⟩)
          case measure => simp [intOf]; omega
    · obtain rfl : i = 30 := by omega
      clear hHD
      go_wp2_with (go_at_call 30; refine (HW.out _).mono ?_; rintro e w9 ⟨rfl, hB9⟩)
      go_ret
      exact ⟨rfl, below_step IVA.out.bel hB9⟩
theorem isRow_max {w : World} {A : Option Addr} {n c : Nat} {zs : List Int} (h : IsRow .u8 w A n c zs) : n ≤ maxLen := by
  rcases h with ⟨_, h1, _⟩ | ⟨x, _, h1, h2, _⟩
  · unfold maxLen; omega
  · omega
end Go.Proofs.Ytejadoadpgcpjaa
