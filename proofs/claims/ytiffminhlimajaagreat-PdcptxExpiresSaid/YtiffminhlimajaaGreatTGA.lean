/- api.Forward under construction: the result of Export in memory. -/
import Derived.Test.YtiffminhlimajaaGreatTF
namespace Go.Proofs.YtiffminhlimajaaGreat
open Go.RowKit
set_option linter.unusedVariables false

def PE.cc (e : PE) : List Value := [.int .u32 e.v.ct, .slice e.A e.v.n e.c]
def WE.cc (e : WE) : List Value := [.slice e.A e.v.n e.c]
theorem PE.cclen (e : PE) : e.cc.length = 2 := rfl
theorem WE.cclen (e : WE) : e.cc.length = 1 := rfl
theorem infoCnt : ∃ i : TypeInfo, Tryz.prog.info? 47 = some i ∧ i.zero = some (.agg #[.int .u32 0, .slice none 0 0]) ∧ i.size = 2 ∧ i.bytes = 32 := by
  have h : (Tryz.prog.info? 47).map (fun i => (i.zero, i.size, i.bytes)) = some (some (.agg #[.int .u32 0, .slice none 0 0]), 2, 32) := by kernel_rfl
  cases hi : Tryz.prog.info? 47 with
  | none => rw [hi] at h; cases h
  | some i =>
    rw [hi] at h
    simp only [Option.map_some, Option.some.injEq, Prod.mk.injEq] at h
    exact ⟨i, rfl, h.1, h.2.1, h.2.2⟩
theorem infoBs : ∃ i : TypeInfo, Tryz.prog.info? 27 = some i ∧ i.zero = some (.slice none 0 0) ∧ i.size = 1 ∧ i.bytes = 24 := by
  have h : (Tryz.prog.info? 27).map (fun i => (i.zero, i.size, i.bytes)) = some (some (.slice none 0 0), 1, 24) := by kernel_rfl
  cases hi : Tryz.prog.info? 27 with
  | none => rw [hi] at h; cases h
  | some i =>
    rw [hi] at h
    simp only [Option.map_some, Option.some.injEq, Prod.mk.injEq] at h
    exact ⟨i, rfl, h.1, h.2.1, h.2.2⟩
structure FwM (w : World) (B rb : Nat) (nx : Int) (us : Bool) (W R : Nat → Prop) (pA : Option Addr) (pc : Nat) (lp : List PE) (qA : Option Addr) (qc : Nat) (lq : List WE) : Prop where
  blk : Blk w rb 36 #[.int .u32 nx, .bool us, .slice pA lp.length pc, .slice qA lq.length qc]
  p : SL w 47 2 pA lp.length pc (lp.flatMap PE.cc)
  q : SL w 27 1 qA lq.length qc (lq.flatMap WE.cc)
  pe : ∀ e, e ∈ lp → Pkt w R e.A e.v.n e.c e.v.z
  qe : ∀ e, e ∈ lq → Pkt w R e.A e.v.n e.c e.v.z
  wg : W rb
  wq : ∀ a, qA = some a → W a.block
  wp : ∀ a, pA = some a → W a.block
  dis : ∀ k, W k → R k → False
  win : ∀ k, W k → B ≤ k ∧ k < w.heap.size
  rin : ∀ k, R k → B ≤ k ∧ k < w.heap.size
section
variable {w w1 w' : World} {B rb : Nat} {nx : Int} {us : Bool} {W R R' F : Nat → Prop} {qA qA' : Option Addr} {qc qc' : Nat} {lq lq' : List WE} {pA pA' : Option Addr} {pc pc' : Nat} {lp lp' : List PE}
theorem FwM.keepF (h : FwM w B rb nx us W R pA pc lp qA qc lq) (hk : KeepF F w w') (hF : ∀ k, F k → ¬ W k ∧ ¬ R k) : FwM w' B rb nx us W R pA pc lp qA qc lq :=
  ⟨hk.blk h.blk (fun hf => (hF _ hf).1 h.wg), h.p.keepF hk (fun a e hf => (hF _ hf).1 (h.wp a e)), h.q.keepF hk (fun a e hf => (hF _ hf).1 (h.wq a e)),
   fun e he => (h.pe e he).keep hk (fun k hf => (hF k hf).2), fun e he => (h.qe e he).keep hk (fun k hf => (hF k hf).2), h.wg, h.wq, h.wp, h.dis,
   fun k hk' => ⟨(h.win k hk').1, Nat.lt_of_lt_of_le (h.win k hk').2 hk.size⟩, fun k hk' => ⟨(h.rin k hk').1, Nat.lt_of_lt_of_le (h.rin k hk').2 hk.size⟩⟩
theorem FwM.below (h : FwM w B rb nx us W R pA pc lp qA qc lq) (hb : Below w.heap.size w w') : FwM w' B rb nx us W R pA pc lp qA qc lq :=
  h.keepF (F := fun _ => False) (KeepF.of_below hb) (fun _ hf => hf.elim)
theorem FwM.gq (h : FwM w B rb nx us W R pA pc lp qA qc lq) (a : Addr) (ha : qA = some a) : rb ≠ a.block := by
  obtain ⟨cur, hc⟩ := h.q.obj ha
  exact cells_ne h.blk hc (by decide)
theorem FwM.gp (h : FwM w B rb nx us W R pA pc lp qA qc lq) (a : Addr) (ha : pA = some a) : rb ≠ a.block := by
  obtain ⟨cur, hc⟩ := h.p.obj ha
  exact cells_ne h.blk hc (by decide)
theorem FwM.qp (h : FwM w B rb nx us W R pA pc lp qA qc lq) (a b : Addr) (ha : qA = some a) (hb : pA = some b) : a.block ≠ b.block := by
  obtain ⟨cur, hc⟩ := h.q.obj ha
  obtain ⟨cur', hc'⟩ := h.p.obj hb
  exact cells_ne hc hc' (by decide)
theorem FwM.moreR (h : FwM w B rb nx us W R pA pc lp qA qc lq) (hR : ∀ k, R k → R' k) (hd : ∀ k, W k → R' k → False) (hr : ∀ k, R' k → B ≤ k ∧ k < w.heap.size) : FwM w B rb nx us W R' pA pc lp qA qc lq :=
  ⟨h.blk, h.p, h.q, fun e he => (h.pe e he).mono hR, fun e he => (h.qe e he).mono hR, h.wg, h.wq, h.wp, hd, h.win, hr⟩
theorem FwM.setP (h : FwM w B rb nx us W R pA pc lp qA qc lq) (hk : KeepF (fun k => ∃ a, pA = some a ∧ k = a.block) w w1) (hn : ∀ a, pA' = some a → (∃ a', pA = some a' ∧ a.block = a'.block) ∨ w.heap.size ≤ a.block) (hs : SL w1 47 2 pA' lp'.length pc' (lp'.flatMap PE.cc))
    (he : ∀ e, e ∈ lp' → Pkt w1 R e.A e.v.n e.c e.v.z) :
    FwM (w1.setCell ⟨rb, 2, none⟩ (.slice pA' lp'.length pc')) B rb nx us (fun k => W k ∨ ∃ a, pA' = some a ∧ k = a.block) R pA' pc' lp' qA qc lq := by
  have hg : KeepF (fun k => k = rb) w1 (w1.setCell ⟨rb, 2, none⟩ (.slice pA' lp'.length pc')) := (KeepF.refl (F := fun k => k = rb)).setCell (p := ⟨rb, 2, none⟩) rfl _
  have hgl := h.blk.lt
  have hgB := h.win _ h.wg
  have hg1 : Blk w1 rb _ _ := hk.blk h.blk (fun ⟨a, ha, e⟩ => h.gp a ha e)
  have hgx : ∀ a, pA' = some a → ¬ a.block = rb := fun a ha e => by
    rcases hn a ha with ⟨a', ha', e'⟩ | hge
    · exact h.gp a' ha' (by omega)
    · omega
  have hs1 : ∀ a, qA = some a → ¬ ∃ b, pA = some b ∧ a.block = b.block := fun a ha ⟨b, hb, e⟩ => h.qp a b ha hb e
  have hsz : w.heap.size ≤ w1.heap.size := hk.size
  have pk : ∀ {A : Option Addr} {n c : Nat} {z : Nat → Int}, Pkt w R A n c z → Pkt w1 R A n c z := fun hp => hp.keep hk (fun k ⟨a, ha, e⟩ hr => h.dis k (by rw [e]; exact h.wp a ha) hr)
  have pg : ∀ {A : Option Addr} {n c : Nat} {z : Nat → Int}, Pkt w1 R A n c z → Pkt (w1.setCell ⟨rb, 2, none⟩ (.slice pA' lp'.length pc')) R A n c z := fun hp => hp.keep hg (fun k e hr => h.dis k (by rw [e]; exact h.wg) hr)
  refine ⟨?_, hs.keepF hg hgx, (h.q.keepF hk hs1).keepF hg (fun a e h2 => h.gq a e h2.symm),
    fun e he2 => pg (he e he2), fun e he2 => pg (pk (h.qe e he2)), .inl h.wg,
    fun a e => .inl (h.wq a e), fun a e => .inr ⟨a, e, rfl⟩,
    fun k hw hr => ?_, fun k hw => ?_, fun k hr => ⟨(h.rin k hr).1, Nat.lt_of_lt_of_le (Nat.lt_of_lt_of_le (h.rin k hr).2 hsz) hg.size⟩⟩
  · exact hg1.set_ 2 (.slice pA' lp'.length pc')
  · rcases hw with hw | ⟨a, ha, rfl⟩
    · exact h.dis k hw hr
    · rcases hn a ha with ⟨a', ha', e'⟩ | hge
      · exact h.dis _ (by rw [e']; exact h.wp a' ha') hr
      · have := (h.rin _ hr).2; omega
  · rcases hw with hw | ⟨a, ha, rfl⟩
    · exact ⟨(h.win k hw).1, Nat.lt_of_lt_of_le (Nat.lt_of_lt_of_le (h.win k hw).2 hsz) hg.size⟩
    · refine ⟨?_, Nat.lt_of_lt_of_le (hs.lt ha) hg.size⟩
      rcases hn a ha with ⟨a', ha', e'⟩ | hge
      · rw [e']; exact (h.win _ (h.wp a' ha')).1
      · omega
theorem FwM.setQ (h : FwM w B rb nx us W R pA pc lp qA qc lq) (hk : KeepF (fun k => ∃ a, qA = some a ∧ k = a.block) w w1) (hn : ∀ a, qA' = some a → (∃ a', qA = some a' ∧ a.block = a'.block) ∨ w.heap.size ≤ a.block) (hs : SL w1 27 1 qA' lq'.length qc' (lq'.flatMap WE.cc))
    (he : ∀ e, e ∈ lq' → Pkt w1 R e.A e.v.n e.c e.v.z) :
    FwM (w1.setCell ⟨rb, 3, none⟩ (.slice qA' lq'.length qc')) B rb nx us (fun k => W k ∨ ∃ a, qA' = some a ∧ k = a.block) R pA pc lp qA' qc' lq' := by
  have hg : KeepF (fun k => k = rb) w1 (w1.setCell ⟨rb, 3, none⟩ (.slice qA' lq'.length qc')) := (KeepF.refl (F := fun k => k = rb)).setCell (p := ⟨rb, 3, none⟩) rfl _
  have hgl := h.blk.lt
  have hgB := h.win _ h.wg
  have hg1 : Blk w1 rb _ _ := hk.blk h.blk (fun ⟨a, ha, e⟩ => h.gq a ha e)
  have hgx : ∀ a, qA' = some a → ¬ a.block = rb := fun a ha e => by
    rcases hn a ha with ⟨a', ha', e'⟩ | hge
    · exact h.gq a' ha' (by omega)
    · omega
  have hs1 : ∀ a, pA = some a → ¬ ∃ b, qA = some b ∧ a.block = b.block := fun a ha ⟨b, hb, e⟩ => h.qp b a hb ha e.symm
  have hsz : w.heap.size ≤ w1.heap.size := hk.size
  have pk : ∀ {A : Option Addr} {n c : Nat} {z : Nat → Int}, Pkt w R A n c z → Pkt w1 R A n c z := fun hp => hp.keep hk (fun k ⟨a, ha, e⟩ hr => h.dis k (by rw [e]; exact h.wq a ha) hr)
  have pg : ∀ {A : Option Addr} {n c : Nat} {z : Nat → Int}, Pkt w1 R A n c z → Pkt (w1.setCell ⟨rb, 3, none⟩ (.slice qA' lq'.length qc')) R A n c z := fun hp => hp.keep hg (fun k e hr => h.dis k (by rw [e]; exact h.wg) hr)
  refine ⟨?_, (h.p.keepF hk hs1).keepF hg (fun a e h2 => h.gp a e h2.symm), hs.keepF hg hgx,
    fun e he2 => pg (pk (h.pe e he2)), fun e he2 => pg (he e he2), .inl h.wg,
    fun a e => .inr ⟨a, e, rfl⟩, fun a e => .inl (h.wp a e),
    fun k hw hr => ?_, fun k hw => ?_, fun k hr => ⟨(h.rin k hr).1, Nat.lt_of_lt_of_le (Nat.lt_of_lt_of_le (h.rin k hr).2 hsz) hg.size⟩⟩
  · exact hg1.set_ 3 (.slice qA' lq'.length qc')
  · rcases hw with hw | ⟨a, ha, rfl⟩
    · exact h.dis k hw hr
    · rcases hn a ha with ⟨a', ha', e'⟩ | hge
      · exact h.dis _ (by rw [e']; exact h.wq a' ha') hr
      · have := (h.rin _ hr).2; omega
  · rcases hw with hw | ⟨a, ha, rfl⟩
    · exact ⟨(h.win k hw).1, Nat.lt_of_lt_of_le (Nat.lt_of_lt_of_le (h.win k hw).2 hsz) hg.size⟩
    · refine ⟨?_, Nat.lt_of_lt_of_le (hs.lt ha) hg.size⟩
      rcases hn a ha with ⟨a', ha', e'⟩ | hge
      · rw [e']; exact (h.win _ (h.wq a' ha')).1
      · omega
end
/-- what Export answers -/
structure FwO (w : World) (B : Nat) (P : List PV) (Q : List QV) (pA : Option Addr) (pc : Nat) (lp : List PE) (qA : Option Addr) (qc : Nat) (lq : List WE) : Prop where
  pv : lp.map (·.v) = P
  qv : lq.map (·.v) = Q
  p : SL w 47 2 pA lp.length pc (lp.flatMap PE.cc)
  q : SL w 27 1 qA lq.length qc (lq.flatMap WE.cc)
  pe : ∀ e, e ∈ lp → Pkt w (fun k => B ≤ k) e.A e.v.n e.c e.v.z
  qe : ∀ e, e ∈ lq → Pkt w (fun k => B ≤ k) e.A e.v.n e.c e.v.z
  pB : ∀ a, pA = some a → B ≤ a.block
  qB : ∀ a, qA = some a → B ≤ a.block
end Go.Proofs.YtiffminhlimajaaGreat
