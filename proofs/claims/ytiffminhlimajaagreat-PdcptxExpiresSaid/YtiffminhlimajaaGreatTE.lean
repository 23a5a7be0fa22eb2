/- pdcptx: what a store does to the transmitter in memory. -/
import Derived.Test.YtiffminhlimajaaGreatTD
namespace Go.Proofs.YtiffminhlimajaaGreat
open Go.RowKit
set_option linter.unusedVariables false

theorem cells_ne {w : World} {a b : Nat} {x y : Array Value} {t u : TypeId} {f g : Nat × Nat} (ha : w.heap[a]? = some (.cells x t f)) (hb : w.heap[b]? = some (.cells y u g)) (h : t ≠ u) : a ≠ b := by
  rintro rfl
  rw [ha] at hb
  injection hb with hb
  injection hb with _ h2
  exact h h2
theorem map_ne {w : World} {a b : Nat} {x : Array Value} {t : TypeId} {f : Nat × Nat} {es : Array MapEntry} {c : Nat} (ha : w.heap[a]? = some (.cells x t f)) (hb : w.heap[b]? = some (.map es c)) : a ≠ b := by
  rintro rfl
  rw [ha] at hb
  cases hb
theorem SL.obj {w : World} {e : TypeId} {sz : Nat} {A : Option Addr} {n c : Nat} {xs : List Value} (h : SL w e sz A n c xs) {a : Addr} (ha : A = some a) : ∃ cur, w.heap[a.block]? = some (.cells cur e (0, 0)) := by
  rcases h.at_ with ⟨h1, _⟩ | ⟨b, o, cur, h1, h2, _⟩
  · rw [h1] at ha; cases ha
  · rw [h1] at ha; cases ha
    exact ⟨cur, h2⟩
section
variable {w w1 w' : World} {g : Nat} {s : TS} {W R R' F : Nat → Prop} {qA qA' : Option Addr} {qc qc' : Nat} {lq lq' : List WE} {pA pA' : Option Addr} {pc pc' : Nat} {lp lp' : List PE} {ub cb : Nat}
theorem TxM.gq (h : TxM w g s W R qA qc lq pA pc lp ub cb) (a : Addr) (ha : qA = some a) : g ≠ a.block := by
  obtain ⟨cur, hc⟩ := h.q.obj ha
  exact cells_ne h.blk hc (by decide)
theorem TxM.gp (h : TxM w g s W R qA qc lq pA pc lp ub cb) (a : Addr) (ha : pA = some a) : g ≠ a.block := by
  obtain ⟨cur, hc⟩ := h.p.obj ha
  exact cells_ne h.blk hc (by decide)
theorem TxM.qp (h : TxM w g s W R qA qc lq pA pc lp ub cb) (a b : Addr) (ha : qA = some a) (hb : pA = some b) : a.block ≠ b.block := by
  obtain ⟨cur, hc⟩ := h.q.obj ha
  obtain ⟨cur', hc'⟩ := h.p.obj hb
  exact cells_ne hc hc' (by decide)
theorem TxM.gu (h : TxM w g s W R qA qc lq pA pc lp ub cb) : g ≠ ub := by
  obtain ⟨es, c, h1, _⟩ := h.u
  exact map_ne h.blk h1
theorem TxM.qu (h : TxM w g s W R qA qc lq pA pc lp ub cb) (a : Addr) (ha : qA = some a) : a.block ≠ ub := by
  obtain ⟨es, c, h1, _⟩ := h.u
  obtain ⟨cur, hc⟩ := h.q.obj ha
  exact map_ne hc h1
theorem TxM.pu (h : TxM w g s W R qA qc lq pA pc lp ub cb) (a : Addr) (ha : pA = some a) : a.block ≠ ub := by
  obtain ⟨es, c, h1, _⟩ := h.u
  obtain ⟨cur, hc⟩ := h.p.obj ha
  exact map_ne hc h1
/-- fewer may be said of what may be read -/
theorem TxM.moreR (h : TxM w g s W R qA qc lq pA pc lp ub cb) (hR : ∀ k, R k → R' k) (hd : ∀ k, W k → R' k → False) (hr : ∀ k, R' k → k < w.heap.size) : TxM w g s W R' qA qc lq pA pc lp ub cb :=
  ⟨h.blk, h.qv, h.pv, h.q, h.p, h.u, h.k, fun e he => (h.qe e he).mono hR, fun e he => (h.pe e he).mono hR, h.pr, h.wg, h.wu, h.wc, h.wq, h.wp, h.kg, h.ku, h.kq, h.kp, hd, h.win, hr, h.now0, h.next0⟩
theorem TxM.setNow (h : TxM w g s W R qA qc lq pA pc lp ub cb) (x : Int) (hx : 0 ≤ x ∧ x < 1073741824) : TxM (w.setCell ⟨g, 40, none⟩ (.int .i64 x)) g { s with now := x } W R qA qc lq pA pc lp ub cb := by
  have hk : KeepF (fun k => k = g) w (w.setCell ⟨g, 40, none⟩ (.int .i64 x)) := (KeepF.refl (F := fun k => k = g)).setCell (p := ⟨g, 40, none⟩) rfl _
  refine ⟨?_, h.qv, h.pv, h.q.keepF hk (fun a e h2 => h.gq a e h2.symm), h.p.keepF hk (fun a e h2 => h.gp a e h2.symm), h.u.keep (hk.block _ h.u.lt (fun e => h.gu e.symm)), (hk.block _ (h.win _ h.wc) h.kg).trans h.k,
    fun e he => (h.qe e he).keep hk (fun k e2 hr => h.dis k (e2 ▸ h.wg) hr), fun e he => (h.pe e he).keep hk (fun k e2 hr => h.dis k (e2 ▸ h.wg) hr), h.pr, h.wg, h.wu, h.wc, h.wq, h.wp, h.kg, h.ku, h.kq, h.kp, h.dis, fun k hw => Nat.lt_of_lt_of_le (h.win k hw) hk.size, fun k hw => Nat.lt_of_lt_of_le (h.rin k hw) hk.size, hx, h.next0⟩
  have := h.blk.set_ 40 (.int .i64 x)
  rwa [tArr_now s.C.arr_size] at this
theorem TxM.setNext (h : TxM w g s W R qA qc lq pA pc lp ub cb) (x : Int) (hx : 0 ≤ x ∧ x ≤ 4294967296) : TxM (w.setCell ⟨g, 41, none⟩ (.int .u64 x)) g { s with next := x } W R qA qc lq pA pc lp ub cb := by
  have hk : KeepF (fun k => k = g) w (w.setCell ⟨g, 41, none⟩ (.int .u64 x)) := (KeepF.refl (F := fun k => k = g)).setCell (p := ⟨g, 41, none⟩) rfl _
  refine ⟨?_, h.qv, h.pv, h.q.keepF hk (fun a e h2 => h.gq a e h2.symm), h.p.keepF hk (fun a e h2 => h.gp a e h2.symm), h.u.keep (hk.block _ h.u.lt (fun e => h.gu e.symm)), (hk.block _ (h.win _ h.wc) h.kg).trans h.k,
    fun e he => (h.qe e he).keep hk (fun k e2 hr => h.dis k (e2 ▸ h.wg) hr), fun e he => (h.pe e he).keep hk (fun k e2 hr => h.dis k (e2 ▸ h.wg) hr), h.pr, h.wg, h.wu, h.wc, h.wq, h.wp, h.kg, h.ku, h.kq, h.kp, h.dis, fun k hw => Nat.lt_of_lt_of_le (h.win k hw) hk.size, fun k hw => Nat.lt_of_lt_of_le (h.rin k hw) hk.size, h.now0, hx⟩
  have := h.blk.set_ 41 (.int .u64 x)
  rwa [tArr_next s.C.arr_size] at this
theorem TxM.setP (h : TxM w g s W R qA qc lq pA pc lp ub cb) (hk : KeepF (fun k => ∃ a, pA = some a ∧ k = a.block) w w1) (hn : ∀ a, pA' = some a → (∃ a', pA = some a' ∧ a.block = a'.block) ∨ w.heap.size ≤ a.block) (hs : SL w1 101 3 pA' lp'.length pc' (lp'.flatMap PE.cells))
    (he : ∀ e, e ∈ lp' → Pkt w1 R e.A e.v.n e.c e.v.z) (pr : ∀ e, e ∈ lp' → 0 ≤ e.v.ct ∧ e.v.ct < 4294967296) :
    TxM (w1.setCell ⟨g, 43, none⟩ (.slice pA' lp'.length pc')) g { s with P := lp'.map (·.v) } (fun k => W k ∨ ∃ a, pA' = some a ∧ k = a.block) R qA qc lq pA' pc' lp' ub cb := by
  have hg : KeepF (fun k => k = g) w1 (w1.setCell ⟨g, 43, none⟩ (.slice pA' lp'.length pc')) := (KeepF.refl (F := fun k => k = g)).setCell (p := ⟨g, 43, none⟩) rfl _
  have hgl := h.blk.lt
  have hg1 : Blk w1 g _ _ := hk.blk h.blk (fun ⟨a, ha, e⟩ => h.gp a ha e)
  have hgx : ∀ a, pA' = some a → ¬ a.block = g := fun a ha e => by
    rcases hn a ha with ⟨a', ha', e'⟩ | hge
    · exact h.gp a' ha' (by omega)
    · omega
  have hs1 : ∀ a, qA = some a → ¬ ∃ b, pA = some b ∧ a.block = b.block := fun a ha ⟨b, hb, e⟩ => h.qp a b ha hb e
  have hcx : ∀ a, pA' = some a → cb ≠ a.block := fun a ha e => by
    rcases hn a ha with ⟨a', ha', e'⟩ | hge
    · exact h.kp a' ha' (by omega)
    · have := h.win _ h.wc; omega
  have hsz : w.heap.size ≤ w1.heap.size := hk.size
  have hu1 := hk.block ub h.u.lt (fun ⟨a, ha, e⟩ => h.pu a ha e.symm)
  have hc1 := hk.block cb (h.win _ h.wc) (fun ⟨a, ha, e⟩ => h.kp a ha e)
  have pk : ∀ {A : Option Addr} {n c : Nat} {z : Nat → Int}, Pkt w R A n c z → Pkt w1 R A n c z := fun hp => hp.keep hk (fun k ⟨a, ha, e⟩ hr => h.dis k (by rw [e]; exact h.wp a ha) hr)
  have pg : ∀ {A : Option Addr} {n c : Nat} {z : Nat → Int}, Pkt w1 R A n c z → Pkt (w1.setCell ⟨g, 43, none⟩ (.slice pA' lp'.length pc')) R A n c z := fun hp => hp.keep hg (fun k e hr => h.dis k (by rw [e]; exact h.wg) hr)
  refine ⟨?_, h.qv, rfl, (h.q.keepF hk hs1).keepF hg (fun a e h2 => h.gq a e h2.symm), hs.keepF hg hgx,
    (h.u.keep hu1).keep (hg.block _ (Nat.lt_of_lt_of_le h.u.lt hsz) (fun e => h.gu e.symm)), (hg.block _ (Nat.lt_of_lt_of_le (h.win _ h.wc) hsz) h.kg).trans (hc1.trans h.k),
    fun e he2 => pg (pk (h.qe e he2)), fun e he2 => pg (he e he2), (fun e he => (by obtain ⟨x, hx, rfl⟩ := List.mem_map.1 he; exact pr x hx)), .inl h.wg, .inl h.wu, .inl h.wc,
    fun a e => .inl (h.wq a e), fun a e => .inr ⟨a, e, rfl⟩, h.kg, h.ku, h.kq, hcx,
    fun k hw hr => ?_, fun k hw => ?_, fun k hr => Nat.lt_of_lt_of_le (Nat.lt_of_lt_of_le (h.rin k hr) hsz) hg.size, h.now0, h.next0⟩
  · have := hg1.set_ 43 (.slice pA' lp'.length pc')
    rwa [tArr_p s.C.arr_size] at this
  · rcases hw with hw | ⟨a, ha, rfl⟩
    · exact h.dis k hw hr
    · rcases hn a ha with ⟨a', ha', e'⟩ | hge
      · exact h.dis _ (by rw [e']; exact h.wp a' ha') hr
      · have := h.rin _ hr; omega
  · rcases hw with hw | ⟨a, ha, rfl⟩
    · exact Nat.lt_of_lt_of_le (Nat.lt_of_lt_of_le (h.win k hw) hsz) hg.size
    · exact Nat.lt_of_lt_of_le (hs.lt ha) hg.size
theorem TxM.setQ (h : TxM w g s W R qA qc lq pA pc lp ub cb) (hk : KeepF (fun k => ∃ a, qA = some a ∧ k = a.block) w w1) (hn : ∀ a, qA' = some a → (∃ a', qA = some a' ∧ a.block = a'.block) ∨ w.heap.size ≤ a.block) (hs : SL w1 103 2 qA' lq'.length qc' (lq'.flatMap WE.cells))
    (he : ∀ e, e ∈ lq' → Pkt w1 R e.A e.v.n e.c e.v.z)  :
    TxM (w1.setCell ⟨g, 42, none⟩ (.slice qA' lq'.length qc')) g { s with Q := lq'.map (·.v) } (fun k => W k ∨ ∃ a, qA' = some a ∧ k = a.block) R qA' qc' lq' pA pc lp ub cb := by
  have hg : KeepF (fun k => k = g) w1 (w1.setCell ⟨g, 42, none⟩ (.slice qA' lq'.length qc')) := (KeepF.refl (F := fun k => k = g)).setCell (p := ⟨g, 42, none⟩) rfl _
  have hgl := h.blk.lt
  have hg1 : Blk w1 g _ _ := hk.blk h.blk (fun ⟨a, ha, e⟩ => h.gq a ha e)
  have hgx : ∀ a, qA' = some a → ¬ a.block = g := fun a ha e => by
    rcases hn a ha with ⟨a', ha', e'⟩ | hge
    · exact h.gq a' ha' (by omega)
    · omega
  have hs1 : ∀ a, pA = some a → ¬ ∃ b, qA = some b ∧ a.block = b.block := fun a ha ⟨b, hb, e⟩ => h.qp b a hb ha e.symm
  have hcx : ∀ a, qA' = some a → cb ≠ a.block := fun a ha e => by
    rcases hn a ha with ⟨a', ha', e'⟩ | hge
    · exact h.kq a' ha' (by omega)
    · have := h.win _ h.wc; omega
  have hsz : w.heap.size ≤ w1.heap.size := hk.size
  have hu1 := hk.block ub h.u.lt (fun ⟨a, ha, e⟩ => h.qu a ha e.symm)
  have hc1 := hk.block cb (h.win _ h.wc) (fun ⟨a, ha, e⟩ => h.kq a ha e)
  have pk : ∀ {A : Option Addr} {n c : Nat} {z : Nat → Int}, Pkt w R A n c z → Pkt w1 R A n c z := fun hp => hp.keep hk (fun k ⟨a, ha, e⟩ hr => h.dis k (by rw [e]; exact h.wq a ha) hr)
  have pg : ∀ {A : Option Addr} {n c : Nat} {z : Nat → Int}, Pkt w1 R A n c z → Pkt (w1.setCell ⟨g, 42, none⟩ (.slice qA' lq'.length qc')) R A n c z := fun hp => hp.keep hg (fun k e hr => h.dis k (by rw [e]; exact h.wg) hr)
  refine ⟨?_, rfl, h.pv, hs.keepF hg hgx, (h.p.keepF hk hs1).keepF hg (fun a e h2 => h.gp a e h2.symm),
    (h.u.keep hu1).keep (hg.block _ (Nat.lt_of_lt_of_le h.u.lt hsz) (fun e => h.gu e.symm)), (hg.block _ (Nat.lt_of_lt_of_le (h.win _ h.wc) hsz) h.kg).trans (hc1.trans h.k),
    fun e he2 => pg (he e he2), fun e he2 => pg (pk (h.pe e he2)), h.pr, .inl h.wg, .inl h.wu, .inl h.wc,
    fun a e => .inr ⟨a, e, rfl⟩, fun a e => .inl (h.wp a e), h.kg, h.ku, hcx, h.kp,
    fun k hw hr => ?_, fun k hw => ?_, fun k hr => Nat.lt_of_lt_of_le (Nat.lt_of_lt_of_le (h.rin k hr) hsz) hg.size, h.now0, h.next0⟩
  · have := hg1.set_ 42 (.slice qA' lq'.length qc')
    rwa [tArr_q s.C.arr_size] at this
  · rcases hw with hw | ⟨a, ha, rfl⟩
    · exact h.dis k hw hr
    · rcases hn a ha with ⟨a', ha', e'⟩ | hge
      · exact h.dis _ (by rw [e']; exact h.wq a' ha') hr
      · have := h.rin _ hr; omega
  · rcases hw with hw | ⟨a, ha, rfl⟩
    · exact Nat.lt_of_lt_of_le (Nat.lt_of_lt_of_le (h.win k hw) hsz) hg.size
    · exact Nat.lt_of_lt_of_le (hs.lt ha) hg.size
end
end Go.Proofs.YtiffminhlimajaaGreat
