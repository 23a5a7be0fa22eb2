/- expand: the reference's expander in memory; Expand where it fails or hands the packet on. -/
import Derived.Test.YtofaghpflmeblaaQ6
import Derived.Test.YtofaghpflmeblaaQ3
import Derived.Test.YtofaghpflmeblaaQ5
namespace Go.Proofs.Ytofaghpflmeblaa
open Go.RowKit
set_option linter.unusedVariables false

attribute [local go_sem ↓] Go.wp_at_zero Go.wp_at_succ

def Ec.rcells (c : Ec) : List Value := [.bool c.valid, .int .i64 c.f0, .int .i64 c.f1, .int .i64 c.f2, .int .i64 c.f3, .int .i64 c.f4, .int .i64 c.hops, .int .i64 c.ident, .int .i64 c.time, .int .i64 0, .int .i64 c.gen, .int .i64 c.step]
def Ec.rcell (c : Ec) (k : Nat) : Value := c.rcells.getD k undef
def rxArr (S : Nat → Ec) : Array Value := Array.ofFn (n := 192) fun j => (S (j.1 / 12)).rcell (j.1 % 12)
theorem rxArr_size (S : Nat → Ec) : (rxArr S).size = 192 := by simp [rxArr]
theorem rxArr_at (S : Nat → Ec) (j : Nat) (hj : j < 192) : (rxArr S)[j]? = some ((S (j / 12)).rcell (j % 12)) := by
  unfold rxArr; simp [hj]
theorem rxArr_ctx (S : Nat → Ec) (i k : Nat) (hi : i < 16) (hk : k < 12) : (rxArr S)[i * 12 + k]? = some ((S i).rcell k) := by
  rw [rxArr_at _ _ (by omega), show (i * 12 + k) / 12 = i by omega, show (i * 12 + k) % 12 = k by omega]
theorem rxArr_ext {S : Nat → Ec} {cs : Array Value} (hs : cs.size = 192) (hc : ∀ i k, i < 16 → k < 12 → cs[i * 12 + k]? = some ((S i).rcell k)) : cs = rxArr S := by
  apply Array.ext_getElem?
  intro j
  by_cases hj : j < 192
  · have := hc (j / 12) (j % 12) (by omega) (by omega)
    have h3 := rxArr_ctx S (j / 12) (j % 12) (by omega) (by omega)
    rw [show j / 12 * 12 + j % 12 = j by omega] at this h3
    rw [this, h3]
  · rw [Array.getElem?_eq_none (by omega), Array.getElem?_eq_none (by rw [rxArr_size]; omega)]
def XB (w : World) (b : Nat) (S : Nat → Ec) : Prop := Blk w b 41 (rxArr S)
theorem rxp_one (S : Nat → Ec) : (rxArr S).all (·.oneCell') = true := by
  rw [Array.all_eq_true]
  intro j hj
  have hj2 : j < 192 := by rw [rxArr_size] at hj; exact hj
  have e := rxArr_at S j hj2
  rw [Array.getElem?_eq_getElem hj] at e
  rw [Option.some.inj e]
  have : ∀ (c : Ec) k, k < 12 → (c.rcell k).oneCell' = true := fun c k hk => by
    match k, hk with
    | 0, _ => rfl
    | 1, _ => rfl
    | 2, _ => rfl
    | 3, _ => rfl
    | 4, _ => rfl
    | 5, _ => rfl
    | 6, _ => rfl
    | 7, _ => rfl
    | 8, _ => rfl
    | 9, _ => rfl
    | 10, _ => rfl
    | 11, _ => rfl
  exact this _ _ (by omega)
theorem sizeXp : (Try.prog.info? 41).map (·.size) = some 192 := by kernel_rfl
theorem sizePH : (Try.prog.info? 36).map (·.size) = some 9 := by kernel_rfl
theorem sizeXc : (Try.prog.info? 38).map (·.size) = some 12 := by kernel_rfl
theorem zeroXp : Try.zeroCells41 = rxArr (fun _ => Ec.zero) := by kernel_rfl
theorem XB.ctx {w : World} {b i : Nat} {S : Nat → Ec} (h : XB w b S) (hi : i < 16) (k : Nat) (hk : k < 12) : w.cell? ⟨b, i * 12 + k, none⟩ = some ((S i).rcell k) := (Blk.cell h _).trans (rxArr_ctx _ i k hi hk)

theorem XB.cells {w : World} {b i : Nat} {S : Nat → Ec} (h : XB w b S) (hi : i < 16) : w.cell? ⟨b, i * 12, none⟩ = some (.bool (S i).valid) ∧ w.cell? ⟨b, i * 12 + 1, none⟩ = some (.int .i64 (S i).f0) ∧ w.cell? ⟨b, i * 12 + 2, none⟩ = some (.int .i64 (S i).f1) ∧ w.cell? ⟨b, i * 12 + 3, none⟩ = some (.int .i64 (S i).f2) ∧ w.cell? ⟨b, i * 12 + 4, none⟩ = some (.int .i64 (S i).f3) ∧ w.cell? ⟨b, i * 12 + 5, none⟩ = some (.int .i64 (S i).f4) ∧ w.cell? ⟨b, i * 12 + 6, none⟩ = some (.int .i64 (S i).hops) ∧ w.cell? ⟨b, i * 12 + 7, none⟩ = some (.int .i64 (S i).ident) ∧ w.cell? ⟨b, i * 12 + 8, none⟩ = some (.int .i64 (S i).time) ∧ w.cell? ⟨b, i * 12 + 9, none⟩ = some (.int .i64 0) ∧ w.cell? ⟨b, i * 12 + 10, none⟩ = some (.int .i64 (S i).gen) ∧ w.cell? ⟨b, i * 12 + 11, none⟩ = some (.int .i64 (S i).step) :=
  ⟨h.ctx hi 0 (by decide), h.ctx hi 1 (by decide), h.ctx hi 2 (by decide), h.ctx hi 3 (by decide), h.ctx hi 4 (by decide), h.ctx hi 5 (by decide), h.ctx hi 6 (by decide), h.ctx hi 7 (by decide), h.ctx hi 8 (by decide), h.ctx hi 9 (by decide), h.ctx hi 10 (by decide), h.ctx hi 11 (by decide)⟩

theorem rxArr_upd (S : Nat → Ec) (i : Nat) (hi : i < 16) (c : Ec) : setAll (rxArr S) (i * 12) c.rcells = rxArr (updE S i c) := by
  refine rxArr_ext (by rw [setAll_size, rxArr_size]) ?_
  intro k m hk hm
  by_cases h : k = i
  · subst h
    rw [setAll_in c.rcells (k * 12) (rxArr S) m hm (by rw [rxArr_size]; omega), updE_same]
    unfold Ec.rcell
    rw [List.getD, List.getElem?_eq_getElem (show m < c.rcells.length from hm)]; rfl
  · rw [setAll_out c.rcells (i * 12) (rxArr S) _ (by have : c.rcells.length = 12 := rfl; omega), rxArr_ctx _ _ _ hk hm]
    have : updE S i c k = S k := if_neg h
    rw [this]
theorem XB.put {w : World} {b i : Nat} {S : Nat → Ec} (h : XB w b S) (hi : i < 16) (c : Ec) : XB (w.setCells b (i * 12) c.rcells) b (updE S i c) := by
  have := Blk.setCells c.rcells (i * 12) w _ h
  rw [rxArr_upd S i hi c] at this
  exact this
theorem XB.mid {w : World} {b i : Nat} {S : Nat → Ec} (h : XB w b S) (hi : i < 16) : w.rangeAt b (i * 12) (S i).rcells := fun j v hj => by
  have hl : j < 12 := (List.getElem?_eq_some_iff.1 hj).1
  rw [h.ctx hi j hl]
  unfold Ec.rcell
  rw [List.getD, hj]; rfl
theorem XB.midThere {w : World} {b i : Nat} {S : Nat → Ec} (h : XB w b S) (hi : i < 16) : w.there b (i * 12) 12 := fun j hj => ⟨by rw [h.ctx hi j hj]; rfl, Blk.frozen h _⟩
theorem slice2_20b (lb lo n c : Nat) (hn : 20 ≤ n) (hnc : n ≤ c) : ∀ w, (Instr.slice 24 (.slice (some ⟨lb, lo, none⟩) n c) (some (.int .i64 2)) (some (.int .i64 20)) none).run Try.prog w = .ok (.slice (some ⟨lb, lo + 2, none⟩) 18 (c - 2)) w := fun w => by
  have hm0 : (20 : Int) ≤ (c : Int) := by omega
  have hc : ¬ c = 2 := by omega
  simp [go_sem, hm0, hc]
theorem full_list (n : Nat) (z : Nat → Int) (hn : 20 ≤ n) : ∀ j, j < n → (([] ++ (List.range 18).map (fun j => Value.int .u8 (z (2 + j)))) ++ (List.range 2).map (fun j => Value.int .u8 (([(n : Int) / 256, (n : Int) % 256] : List Int).getD j 0)) ++ (List.range (n - 20)).map (fun j => Value.int .u8 (z (20 + j))))[j]? = some (.int .u8 (fullY n z j)) := by
  intro j hj
  unfold fullY
  by_cases h1 : j < 18
  · rw [List.getElem?_append_left (by simp; omega), List.getElem?_append_left (by simp; omega)]
    simp [h1]
  · by_cases h2 : j < 20
    · have : j = 18 ∨ j = 19 := by omega
      rcases this with rfl | rfl <;> rfl
    · rw [List.getElem?_append_right (by simp; omega)]
      simp [h1, show ¬ j = 18 by omega, show ¬ j = 19 by omega, show j - 20 < n - 20 by omega, show 20 + (j - 20) = j by omega]
theorem Row.at_ {W : World} {B n lb lo : Nat} {v : Nat → Value} (h : Row W B (some ⟨lb, lo, none⟩) n v) (j : Nat) (hj : j < n) : W.cell? ⟨lb, lo + j, none⟩ = some (v j) := by
  obtain ⟨b, o, e, _, hc⟩ := h (by omega)
  cases e
  exact hc j hj
theorem rcells_one (c : Ec) : c.rcells.toArray.all (·.oneCell') = true := by simp [Ec.rcells, Value.oneCell']
theorem results_cell_four {P : Program} {fn : Func} {p q r s : Tmp} {ty : TypeId} (h : fn.results = #[.cell p ty, .tmp q, .tmp r, .tmp s]) (tmps : Array Value) (w : World) (g : Nat) (t : TypeId) (cs : Array Value) (fr : Nat × Nat) (d : TypeDesc)
    (hp : tmps.getD p undef = .pointer (some ⟨g, 0, none⟩)) (hg : w.heap[g]? = some (.cells cs t fr))
    (hu : P.underlying ty = some d) (hd : (match d with | .struct _ | .array _ _ => true | _ => false) = true) (hi : (P.info? ty).map (·.size) = some cs.size) (u v x : Value) (hq : tmps.getD q undef = u) (hr : tmps.getD r undef = v) (hs : tmps.getD s undef = x) :
    (results fn tmps).run P w = .ok (.tuple #[.agg cs, u, v, x]) w := by
  subst hq hr hs
  have hp' : tmps[p]?.getD undef = .pointer (some ⟨g, 0, none⟩) := by simpa using hp
  simp [results, h, hp', asAddr, run_loadVar_row w g t ty cs fr d hg hu hd hi]
/-- the end of the reference's Expand -/
def RXOut (A : Option Addr) (S : Nat → Ec) (n : Nat) (z : Nat → Int) (w : World) (e : Ending) (w' : World) : Prop :=
  ∃ B d C f, e = .returned (.tuple #[.agg (rxArr (xS S n z)), .slice B (xLen S n z) d, .slice C (xFb S n z) f, .int .i64 (xErr S n z)]) ∧ xLen S n z ≤ d ∧ xFb S n z ≤ f ∧
    Row w' w'.heap.size B (xLen S n z) (fun j => .int .u8 (xY S n z j)) ∧ Row w' w'.heap.size C (xFb S n z) (fun _ => .int .u8 (160 + (xAt z : Int))) ∧ Below w.heap.size w w' ∧ (∀ b, B = some b → w.heap.size ≤ b.block ∨ ∃ a, A = some a ∧ a.block = b.block) ∧ Fresh w.heap.size C
theorem RXOut.bad {A : Option Addr} {S : Nat → Ec} {n : Nat} {z : Nat → Int} {w w' : World} {x : Int} (hb : Below w.heap.size w w') (hx : xErr S n z = x) (h0 : x ≠ 0) (h11 : x ≠ 11) : RXOut A S n z w (.returned (.tuple #[.agg (rxArr S), .slice none 0 0, .slice none 0 0, .int .i64 x])) w' := by
  have e1 : xLen S n z = 0 := by unfold xLen; rw [hx, if_pos h0]
  have e2 : xFb S n z = 0 := by unfold xFb; rw [hx, if_neg h11]
  have e3 : xS S n z = S := by unfold xS; rw [hx, if_neg h11, if_pos h0]
  exact ⟨none, 0, none, 0, by rw [e1, e2, e3, hx], by omega, by omega, by rw [e1]; exact Row.nil, by rw [e2]; exact Row.nil, hb, fun _ h => (by cases h), fresh_none _⟩
theorem RXOut.good {A : Option Addr} {S : Nat → Ec} {n m : Nat} {z y : Nat → Int} {d : Nat} {w w' : World} {B : Option Addr} {S' : Nat → Ec} (hx : xErr S n z = 0) (e1 : xLen S n z = m) (hd : m ≤ d) (ey : xY S n z = y) (hR : Row w' w'.heap.size B m (fun j => .int .u8 (y j))) (e3 : xS S n z = S') (hK : Below w.heap.size w w') (hF : ∀ b, B = some b → w.heap.size ≤ b.block ∨ ∃ a, A = some a ∧ a.block = b.block) :
    RXOut A S n z w (.returned (.tuple #[.agg (rxArr S'), .slice B m d, .slice none 0 0, .int .i64 0])) w' := by
  have e2 : xFb S n z = 0 := by unfold xFb; rw [hx, if_neg (by decide)]
  exact ⟨B, d, none, 0, by rw [e1, e2, e3, hx], by omega, by omega, by rw [e1, ey]; exact hR, by rw [e2]; exact Row.nil, hK, hF, fresh_none _⟩
theorem RXOut.check {A : Option Addr} {S : Nat → Ec} {n i : Nat} {z : Nat → Int} {f : Nat} {w w' : World} {C : Option Addr} (hx : xErr S n z = 11) (hi : xAt z = i) (hf : 1 ≤ f) (hR : Row w' w'.heap.size C 1 (fun _ => .int .u8 (160 + (i : Int)))) (hK : Below w.heap.size w w') (hF : Fresh w.heap.size C) :
    RXOut A S n z w (.returned (.tuple #[.agg (rxArr (updE S i Ec.zero)), .slice none 0 0, .slice C 1 f, .int .i64 11])) w' := by
  have e1 : xLen S n z = 0 := by unfold xLen; rw [hx, if_pos (by decide)]
  have e2 : xFb S n z = 1 := by unfold xFb; rw [hx, if_pos rfl]
  have e3 : xS S n z = updE S i Ec.zero := by unfold xS; rw [hx, if_pos rfl, hi]
  exact ⟨none, 0, C, f, by rw [e1, e2, e3, hx], by omega, by omega, by rw [e1]; exact Row.nil, by rw [e2, hi]; exact hR, hK, fun _ h => (by cases h), hF⟩

set_option maxRecDepth 100000 in
set_option maxHeartbeats 1600000 in
theorem rx_empty (S : Nat → Ec) (A : Option Addr) (n cp : Nat) (z : Nat → Int) (w : World) (hn : n = 0) :
    Calls Try.prog 38 #[.agg (rxArr S), .slice A n cp] w (RXOut A S n z w) := by
  subst hn
  have hz' := zeroXp
  obtain ⟨L, hL⟩ : ∃ L, L = rxArr S := ⟨_, rfl⟩
  obtain ⟨Z, hZ⟩ : ∃ Z, Z = rxArr (fun _ => Ec.zero) := ⟨_, rfl⟩
  have HSZ : Hid ((Try.prog.info? 41).map (·.size) = some L.size) := Lib.hid (by rw [hL, rxArr_size]; exact sizeXp)
  have HS2 : Hid (Z.size = L.size) := Lib.hid (by rw [hL, hZ, rxArr_size, rxArr_size])
  have HO1 : Hid (L.all (·.oneCell') = true) := Lib.hid (by rw [hL]; exact rxp_one S)
  have HLL := Lib.hid hL
  obtain ⟨X, hX⟩ : ∃ X, X = w.heap.size := ⟨_, rfl⟩
  have HXW := Lib.hid hX
  rw [← hZ] at hz'
  rw [← hL]
  have hn0 : (((0 : Nat) : Int) == 0) = true := rfl
  clear hL hZ
  go_enter Try.func38, Try.ntmps38
  go_upto_region 1 with (fail)
  refine wp_world (fun W => Blk W X 41 L ∧ Blk W (X + 1) 41 Z ∧ Below w.heap.size w W ∧ W.heap.size = X + 2) ⟨by rw [hX]; exact (Blk.new _ _ _).alloc _, by rw [hX]; exact blk_new_at _ _ _ _ (by simp), ((Below.refl _ w).alloc (Nat.le_refl _) _).alloc (by simp) _, by rw [hX]; simp⟩ ?_
  rw [← hX]
  rintro W1 ⟨l1, z1, b1, s1⟩
  have L1 := Lib.hid l1
  have Z1 := Lib.hid z1
  have B1 := Lib.hid (show Below w.heap.size w W1 from by rw [← hX]; exact b1)
  clear l1 z1 b1 hX
  go_wp2_with (first
    | (refine wpList_load_row rfl _ _ rfl X rfl 41 L (0, 0) _ L1.out Try.underlying41 rfl HSZ.out ?_)
    | (refine wpList_store_row rfl _ _ _ rfl (X + 1) L rfl rfl 41 Z Z1.out HSZ.out HS2.out HO1.out ?_))
  refine bodyPost_ret (v := .tuple #[.agg L, .slice none 0 0, .slice none 0 0, .int .i64 5]) (results_cell_four (g := X + 1) (t := 41) (fr := (0, 0)) Try.results38 _ _ L _ rfl (Blk.setRow (Z1.out)) Try.underlying41 rfl HSZ.out _ _ _ rfl rfl rfl) rfl (by rw [HLL.out]; exact RXOut.bad (belowRow B1.out (by have := HXW.out; omega) _) rfl (by decide) (by decide))

set_option maxRecDepth 100000 in
theorem built_ok (h0 h1 h2 h3 h4 h5 h6 h7 h8 : Int) (h : Nat → Int) (hh : hdr h = #[.int .i64 h0, .int .i64 h1, .int .i64 h2, .int .i64 h3, .int .i64 h4, .int .i64 h5, .int .i64 h6, .int .i64 h7, .int .i64 h8]) (A : Option Addr) (n c : Nat) (z : Nat → Int) (hn : n ≤ 1000000) (hv : validB (withLen h (20 + n)) = true) (w : World) (hr : Row w w.heap.size A n (fun j => .int .u8 (z j))) :
    Calls Try.prog 61 #[.agg #[.int .i64 h0, .int .i64 h1, .int .i64 h2, .int .i64 h3, .int .i64 h4, .int .i64 h5, .int .i64 h6, .int .i64 h7, .int .i64 h8], .slice A n c] w (POut (20 + n) (pktAt (withLen h (20 + n)) z) w) := by
  have HB := Lib.hid (fun (o : Obj) => rbuild_good h A n c z hn hv (w.alloc o) (row_new hr o))
  rw [hh] at HB
  unfold BuildEnd at HB
  obtain ⟨Y, hY⟩ : ∃ Y, Y = pktAt (withLen h (20 + n)) z := ⟨_, rfl⟩
  rw [← hY] at HB ⊢
  obtain ⟨N, hN⟩ : ∃ N, N = 20 + n := ⟨_, rfl⟩
  rw [← hN] at HB ⊢
  clear hr hv hY hN hh
  go_enter Try.func61, Try.ntmps61
  go_wp2_with (go_at_call 27; refine (HB.out _).mono ?_; rintro e w1 ⟨B, d, rfl, hd, ho, b1⟩; have HD := Lib.hid hd; have HO := Lib.hid ho; have B1 := Lib.hid (((Below.refl _ w).alloc (Nat.le_refl _) _).trans (b1.mono (by simp)) : Below w.heap.size w w1); clear hd ho b1)
  go_ret
  exact ⟨_, _, rfl, HD.out, (own_map_row (ownsRow_mono HO.out (by simp))).1, (own_map_row HO.out).2, B1.out⟩

set_option maxRecDepth 100000 in
set_option maxHeartbeats 1600000 in
theorem rx_raw (S : Nat → Ec) (A : Option Addr) (n cp : Nat) (z : Nat → Int) (w : World) (hn : 0 < n) (hnc : n ≤ cp) (hm : n ≤ maxLen) (hz : ∀ j, j < n → 0 ≤ z j ∧ z j < 256) (hok : ∀ i, i < 16 → (S i).Ok) (hk : z 0 / 64 = 3) (hr : Row w w.heap.size A n (fun j => .int .u8 (z j))) :
    Calls Try.prog 38 #[.agg (rxArr S), .slice A n cp] w (RXOut A S n z w) := by
  have hz' := zeroXp
  obtain ⟨L, hL⟩ : ∃ L, L = rxArr S := ⟨_, rfl⟩
  obtain ⟨Z, hZ⟩ : ∃ Z, Z = rxArr (fun _ => Ec.zero) := ⟨_, rfl⟩
  have HSZ : Hid ((Try.prog.info? 41).map (·.size) = some L.size) := Lib.hid (by rw [hL, rxArr_size]; exact sizeXp)
  have HS2 : Hid (Z.size = L.size) := Lib.hid (by rw [hL, hZ, rxArr_size, rxArr_size])
  have HO1 : Hid (L.all (·.oneCell') = true) := Lib.hid (by rw [hL]; exact rxp_one S)
  have HLL := Lib.hid hL
  obtain ⟨X, hX⟩ : ∃ X, X = w.heap.size := ⟨_, rfl⟩
  have HXW := Lib.hid hX
  rw [← hZ] at hz'
  rw [← hL]
  unfold maxLen at hm
  obtain ⟨lb, lo, rfl, hlb, hc⟩ := hr (by omega)
  have c0 : w.cell? ⟨lb, lo, none⟩ = some (.int .u8 (z 0)) := hc 0 hn
  have b0 := hz 0 hn
  have hn0 : ((n : Int) == 0) = false := by simp; omega
  have hp0 : (0 : Int) < (n : Int) := by omega
  obtain ⟨i, hi⟩ : ∃ i, i = xAt z := ⟨_, rfl⟩
  have hi16 : i < 16 := by rw [hi]; unfold xAt; omega
  obtain ⟨r, hrr⟩ : ∃ r, r = z 0 % 4 := ⟨_, rfl⟩
  have HR := Lib.hid hr
  have HZ := Lib.hid hz
  have HOK := Lib.hid hok
  have hiz : (z 0 / 4) % 16 = (i : Int) := by rw [hi]; unfold xAt; omega
  have HI := Lib.hid hi
  have HRR := Lib.hid hrr
  have HKK := Lib.hid hk
  obtain ⟨x0, hx0⟩ : ∃ x, x = z 0 := ⟨_, rfl⟩
  rw [← hx0] at c0 b0 hiz hrr hk
  obtain ⟨y4, hy4⟩ : ∃ y, y = x0 / 4 := ⟨_, rfl⟩
  rw [← hy4] at hiz
  have xw : IntKind.i64.wrap x0 = x0 := IntWalk.i64_in _ (by omega)
  have q64 : x0.tdiv 64 = 3 := by rw [Int.tdiv_eq_ediv_of_nonneg b0.1, hk]
  have q4 : x0.tdiv 4 = y4 := by rw [Int.tdiv_eq_ediv_of_nonneg b0.1, hy4]
  have m16 : y4.tmod 16 = (i : Int) := by rw [Int.tmod_eq_emod_of_nonneg (by omega), hiz]
  have wy : IntKind.i64.wrap y4 = y4 := IntWalk.i64_in _ (by omega)
  have wi : IntKind.i64.wrap (i : Int) = (i : Int) := IntWalk.i64_in _ (by omega)
  have wk : IntKind.i64.wrap 3 = 3 := IntWalk.i64_in _ (by omega)
  have m4 : x0.tmod 4 = r := by rw [Int.tmod_eq_emod_of_nonneg b0.1, hrr]
  have wr : IntKind.u8.wrap r = r := by rw [IntKind.wrap_u8]; omega
  have i0 : (0 : Int) ≤ (i : Int) := by omega
  have i1 : (i : Int) < 16 := by omega
  have xu : IntKind.u8.wrap x0 = x0 := by rw [IntKind.wrap_u8]; omega
  have r0' : 0 ≤ r ∧ r < 4 := by omega
  clear hr hc hz hok hi hiz hrr hk hx0 hy4 b0
  clear hL hZ
  go_enter Try.func38, Try.ntmps38
  go_upto_region 1 with (fail)
  refine wp_world (fun W => Blk W X 41 L ∧ Blk W (X + 1) 41 Z ∧ Below w.heap.size w W ∧ W.heap.size = X + 2) ⟨by rw [hX]; exact (Blk.new _ _ _).alloc _, by rw [hX]; exact blk_new_at _ _ _ _ (by simp), ((Below.refl _ w).alloc (Nat.le_refl _) _).alloc (by simp) _, by rw [hX]; simp⟩ ?_
  rw [← hX]
  rintro W1 ⟨l1, z1, b1, s1⟩
  have L1 := Lib.hid l1
  have Z1 := Lib.hid z1
  have B1 := Lib.hid (show Below w.heap.size w W1 from by rw [← hX]; exact b1)
  clear l1 z1 b1 hX
  have c0' := (B1.out.cell (p := ⟨lb, lo, none⟩) hlb).trans c0
  clear c0
  go_wp2
  go_quiet (fail)
  refine then_world (fun W => Blk W X 41 L ∧ Blk W (X + 1) 41 Z ∧ Below w.heap.size w W ∧ W.heap.size = X + 2) ⟨Blk.drewN L1.out _, Blk.drewN Z1.out _, below_drewN B1.out _, s1⟩ ?_
  rintro W2 ⟨l2, z2, b2, s2⟩
  have L2 := Lib.hid l2
  have Z2 := Lib.hid z2
  have B2 := Lib.hid b2
  have c0'' := (B2.out.cell (p := ⟨lb, lo, none⟩) hlb).trans ((B1.out.cell (p := ⟨lb, lo, none⟩) hlb).symm.trans c0')
  clear l2 z2 b2 s1 c0'
  by_cases hr0 : r = 0
  rotate_left
  · have h1 : (r != 0) = true := by simpa using hr0
    have HE := Lib.hid (xErr_form S hn (n := n) (z := z) (.inl (by rw [← HRR.out]; exact hr0)))
    clear hr0
    go_wp2_with (first
      | (refine wpList_load_row rfl _ _ rfl X rfl 41 L (0, 0) _ L2.out Try.underlying41 rfl HSZ.out ?_)
      | (refine wpList_store_row rfl _ _ _ rfl (X + 1) L rfl rfl 41 Z Z2.out HSZ.out HS2.out HO1.out ?_))
    refine bodyPost_ret (v := .tuple #[.agg L, .slice none 0 0, .slice none 0 0, .int .i64 9]) (results_cell_four (g := X + 1) (t := 41) (fr := (0, 0)) Try.results38 _ _ L _ rfl (Blk.setRow (Z2.out)) Try.underlying41 rfl HSZ.out _ _ _ rfl rfl rfl) rfl (by rw [HLL.out]; exact RXOut.bad (belowRow B2.out (by have := HXW.out; omega) _) HE.out (by decide) (by decide))
  by_cases hi0 : i = 0
  rotate_left
  · have h1 : (r != 0) = false := by simpa using hr0
    have h2 : ((i : Int) != 0) = true := by simp; omega
    have HE := Lib.hid (xErr_form S hn (n := n) (z := z) (.inr ⟨HKK.out, by rw [← HI.out]; exact hi0⟩))
    clear hr0 hi0
    go_wp2_with (first
      | (refine wpList_load_row rfl _ _ rfl X rfl 41 L (0, 0) _ L2.out Try.underlying41 rfl HSZ.out ?_)
      | (refine wpList_store_row rfl _ _ _ rfl (X + 1) L rfl rfl 41 Z Z2.out HSZ.out HS2.out HO1.out ?_))
    refine bodyPost_ret (v := .tuple #[.agg L, .slice none 0 0, .slice none 0 0, .int .i64 9]) (results_cell_four (g := X + 1) (t := 41) (fr := (0, 0)) Try.results38 _ _ L _ rfl (Blk.setRow (Z2.out)) Try.underlying41 rfl HSZ.out _ _ _ rfl rfl rfl) rfl (by rw [HLL.out]; exact RXOut.bad (belowRow B2.out (by have := HXW.out; omega) _) HE.out (by decide) (by decide))
  have h2 : ((i : Int) != 0) = false := by simp; omega
  have HNF : Hid (¬ (z 0 % 4 ≠ 0 ∨ (xKind z = 3 ∧ xAt z ≠ 0))) := Lib.hid (by rw [← HRR.out, ← HI.out]; simp [hr0, hi0])
  clear hi0
  have h1 : (r != 0) = false := by simpa using hr0
  clear hr0
  by_cases hsh : n < 2
  · have h3 : (n : Int) < 2 := by omega
    have HE := Lib.hid (xErr_short S hn HNF.out (n := n) (z := z) (by rw [show xKind z = 3 from HKK.out]; exact hsh))
    clear hsh
    go_wp2_with (first
      | (refine wpList_load_row rfl _ _ rfl X rfl 41 L (0, 0) _ (L2.out.alloc _) Try.underlying41 rfl HSZ.out ?_)
      | (refine wpList_store_row rfl _ _ _ rfl (X + 1) L rfl rfl 41 Z (Z2.out.alloc _) HSZ.out HS2.out HO1.out ?_))
    refine bodyPost_ret (v := .tuple #[.agg L, .slice none 0 0, .slice none 0 0, .int .i64 5]) (results_cell_four (g := X + 1) (t := 41) (fr := (0, 0)) Try.results38 _ _ L _ rfl (Blk.setRow ((Z2.out.alloc _))) Try.underlying41 rfl HSZ.out _ _ _ rfl rfl rfl) rfl (by rw [HLL.out]; exact RXOut.bad (belowRow (below_new B2.out _) (by have := HXW.out; omega) _) HE.out (by decide) (by decide))
  have h3 : ¬ (n : Int) < 2 := by omega
  have HE := Lib.hid (xErr_rest S hn HNF.out (n := n) (z := z) (by rw [show xKind z = 3 from HKK.out]; exact hsh))
  rw [show xKind z = 3 from HKK.out] at HE
  have HRW := Lib.hid (show Row W2 W2.heap.size (some ⟨lb, lo, none⟩) n (fun j => .int .u8 (z j)) from HR.out.next B2.out)
  rw [if_pos rfl] at HE
  obtain ⟨lo2, hsl, hlo⟩ := slice_from lb lo n cp 1 1 rfl (by omega) hnc
  have HLO := Lib.hid hlo
  have kw : IntKind.i64.wrap ((n : Int) - 1) = (n : Int) - 1 := IntWalk.i64_in _ (by omega)
  clear hlo
  by_cases h9 : 9001 < n
  · have h4 : (9000 : Int) < (n : Int) - 1 := by omega
    rw [if_pos h9] at HE
    clear h9
    go_wp2_with (first
      | (refine wpList_load_row rfl _ _ rfl X rfl 41 L (0, 0) _ (L2.out.alloc _) Try.underlying41 rfl HSZ.out ?_)
      | (refine wpList_store_row rfl _ _ _ rfl (X + 1) L rfl rfl 41 Z (Z2.out.alloc _) HSZ.out HS2.out HO1.out ?_))
    refine bodyPost_ret (v := .tuple #[.agg L, .slice none 0 0, .slice none 0 0, .int .i64 4]) (results_cell_four (g := X + 1) (t := 41) (fr := (0, 0)) Try.results38 _ _ L _ rfl (Blk.setRow ((Z2.out.alloc _))) Try.underlying41 rfl HSZ.out _ _ _ rfl rfl rfl) rfl (by rw [HLL.out]; exact RXOut.bad (belowRow (below_new B2.out _) (by have := HXW.out; omega) _) HE.out (by decide) (by decide))
  have h4 : ¬ (9000 : Int) < (n : Int) - 1 := by omega
  rw [if_neg h9] at HE
  clear h9
  go_wp2
  have hu := Try.underlying41
  have hl192 : L.size = 192 := by rw [HLL.out, rxArr_size]
  have hiz : (Try.prog.info? 41).map (·.size) = some L.toList.length := by rw [Array.length_toList]; exact HSZ.out
  have hiz2 := HSZ.out
  have ho1 := HO1.out
  obtain ⟨w0, hw0⟩ : ∃ w0, w0 = (W2.alloc (.cells #[.int .i64 20, .int .i64 6, .int .i64 3, .int .i64 2] 3)).drew := ⟨_, rfl⟩
  have L0 := Lib.hid (show Blk w0 X _ L from by rw [hw0]; exact (L2.out.alloc _).drew)
  have Z0 := Lib.hid (show Blk w0 (X + 1) _ Z from by rw [hw0]; exact (Z2.out.alloc _).drew)
  have B0 := Lib.hid (show Below w.heap.size w w0 from by rw [hw0]; exact (below_new B2.out _).drew)
  have hra : w0.rangeAt X 0 L.toList := L0.out.range L.toList (by simp)
  have hth : w0.there (X + 1) 0 192 := Z0.out.there 192 (by rw [HS2.out, hl192]; exact Nat.le_refl _)
  refine wp_region_held_drew (S := fun w' => w'.rangeAt X 0 L.toList ∧ w'.there (X + 1) 0 192) (by kernel_rfl) (by rw [← hw0]; exact ⟨hra, hth⟩) (fun hHeld => ?_)
  rw [← hw0]
  clear hw0 hHeld
  have hHeld : w0.rangeAt X 0 L.toList ∧ w0.there (X + 1) 0 192 := ⟨hra, hth⟩
  refine' wpAnyH_take (i := 0) (oi := ⟨some 67, _, _, _, _, _⟩) (v := _) rfl (by kernel_rfl) (by kernel_rfl) (by kernel_rfl) (fun _ _ _ h => h) (yieldsIf_load_mid (by rfl) _ _ rfl _ _ rfl L.toList _ (fun w h => h.1) hu rfl hiz) (by assumption) ?_
  simp only [Act.put, List.setIfInBounds_toArray, List.set_cons_zero, List.set_cons_succ, Array.toArray_toList]
  refine wpAnyH_take (i := 1) (oi := ⟨some 68, _, _, _, _, _⟩) (v := .slice (some ⟨lb, lo, none⟩) n cp) rfl (by kernel_rfl) (by kernel_rfl) (by kernel_rfl) (fun _ _ _ h => h) (Or.inl ⟨by rfl, fun W _ => by rfl⟩) (by assumption) ?_
  simp only [Act.put, List.setIfInBounds_toArray, List.set_cons_zero, List.set_cons_succ]
  refine wpAnyH_take (i := 2) (oi := ⟨some 69, _, _, _, _, _⟩) (v := .slice (some ⟨lb, lo2, none⟩) (n - 1) (cp - 1)) rfl (by kernel_rfl) (by kernel_rfl) (by kernel_rfl) (fun _ _ _ h => h) (Or.inl ⟨by rfl, fun W _ => by go_simp⟩) (by assumption) ?_
  simp only [Act.put, List.setIfInBounds_toArray, List.set_cons_zero, List.set_cons_succ]
  refine wpAnyH_ready (rs := [3]) (by kernel_rfl) (by simp) ?_
  refine AllReadyH.cons (o := ⟨none, _, _, _, _, _⟩) rfl (fun K hK => ?_) AllReadyH.nil
  rw [if_pos (by rfl)]
  refine wp_store_mid _ _ _ rfl (X + 1) 0 L rfl rfl (by rw [hl192]; exact hth) hiz2 ho1 ?_
  refine hK.out _ _ ⟨World.rangeAt_setCells_apart hra _ _ _ (by omega), World.there_setCells hth _ _ _⟩ (fun hHeld => ?_)
  clear hK K
  simp only [Act.put]
  refine wpAnyH_take (i := 4) (oi := ⟨some 5, _, _, _, _, _⟩) (v := .slice (some ⟨lb, lo2, none⟩) (n - 1) (cp - 1)) rfl (by kernel_rfl) (by kernel_rfl) (by kernel_rfl) (fun _ _ _ h => h) (Or.inl ⟨by rfl, fun W _ => by rfl⟩) (by assumption) ?_
  simp only [Act.put, List.setIfInBounds_toArray, List.set_cons_zero, List.set_cons_succ]
  refine wpAnyH_take (i := 5) (oi := ⟨some 6, _, _, _, _, _⟩) (v := .slice none 0 0) rfl (by kernel_rfl) (by kernel_rfl) (by kernel_rfl) (fun _ _ _ h => h) (Or.inl ⟨by rfl, fun W _ => by rfl⟩) (by assumption) ?_
  simp only [Act.put, List.setIfInBounds_toArray, List.set_cons_zero, List.set_cons_succ]
  refine wpAnyH_take (i := 6) (oi := ⟨some 7, _, _, _, _, _⟩) (v := .int .i64 0) rfl (by kernel_rfl) (by kernel_rfl) (by kernel_rfl) (fun _ _ _ h => h) (Or.inl ⟨by rfl, fun W _ => by rfl⟩) (by assumption) ?_
  simp only [Act.put, List.setIfInBounds_toArray, List.set_cons_zero, List.set_cons_succ]
  refine wpAnyH_done (by kernel_rfl) ?_ _
  go_wp2
  have ZF := Lib.hid (show Blk (w0.setCells (X + 1) 0 L.toList) (X + 1) 41 L from by have := Blk.setWhole Z0.out L.toList (by rw [HS2.out]; simp); rwa [Array.toArray_toList] at this)
  have BF := Lib.hid (show Below w.heap.size w (w0.setCells (X + 1) 0 L.toList) from below_setCells B0.out (by have := HXW.out; omega) B0.out.size _ _)
  have RWX := Lib.hid (show Row (w0.setCells (X + 1) 0 L.toList) (w0.setCells (X + 1) 0 L.toList).heap.size (some ⟨lb, lo2, none⟩) (n - 1) (fun j => .int .u8 (z (1 + j))) from row_from (HR.out.next BF.out) HLO.out)
  obtain ⟨WF, hWF⟩ : ∃ WF, WF = w0.setCells (X + 1) 0 L.toList := ⟨_, rfl⟩
  rw [← hWF] at ZF BF RWX ⊢
  have e1 : xLen S n z = n - 1 := by unfold xLen; rw [HE.out, if_neg (by decide), if_pos (show xKind z = 3 from HKK.out)]
  have e2 : xY S n z = fun j => z (1 + j) := by unfold xY; rw [if_pos (show xKind z = 3 from HKK.out)]
  have e3 : xS S n z = S := by unfold xS; rw [HE.out, if_neg (by decide), if_neg (by decide), if_neg (by rw [show xKind z = 3 from HKK.out]; decide), if_neg (by rw [show xKind z = 3 from HKK.out]; decide)]
  have OUT : RXOut (some ⟨lb, lo, none⟩) S n z w (.returned (.tuple #[.agg L, .slice (some ⟨lb, lo2, none⟩) (n - 1 : Nat) (cp - 1 : Nat), .slice none 0 0, .int .i64 0])) WF := by
    rw [HLL.out]
    exact RXOut.good (m := n - 1) (y := fun j => z (1 + j)) (S' := S) HE.out e1 (by omega) e2 RWX.out e3 BF.out (fun b e => by cases e; exact .inr ⟨_, rfl, rfl⟩)
  exact bodyPost_ret (results_cell_four (g := X + 1) (t := 41) (fr := (0, 0)) Try.results38 _ _ L _ rfl ZF.out Try.underlying41 rfl HSZ.out _ _ _ rfl rfl rfl) rfl OUT

set_option maxRecDepth 100000 in
set_option maxHeartbeats 1600000 in
theorem rx_full (S : Nat → Ec) (A : Option Addr) (n cp : Nat) (z : Nat → Int) (w : World) (hn : 0 < n) (hnc : n ≤ cp) (hm : n ≤ maxLen) (hz : ∀ j, j < n → 0 ≤ z j ∧ z j < 256) (hok : ∀ i, i < 16 → (S i).Ok) (hk : z 0 / 64 = 0) (hr : Row w w.heap.size A n (fun j => .int .u8 (z j))) :
    Calls Try.prog 38 #[.agg (rxArr S), .slice A n cp] w (RXOut A S n z w) := by
  have hz' := zeroXp
  obtain ⟨L, hL⟩ : ∃ L, L = rxArr S := ⟨_, rfl⟩
  obtain ⟨Z, hZ⟩ : ∃ Z, Z = rxArr (fun _ => Ec.zero) := ⟨_, rfl⟩
  have HSZ : Hid ((Try.prog.info? 41).map (·.size) = some L.size) := Lib.hid (by rw [hL, rxArr_size]; exact sizeXp)
  have HS2 : Hid (Z.size = L.size) := Lib.hid (by rw [hL, hZ, rxArr_size, rxArr_size])
  have HO1 : Hid (L.all (·.oneCell') = true) := Lib.hid (by rw [hL]; exact rxp_one S)
  have HLL := Lib.hid hL
  obtain ⟨X, hX⟩ : ∃ X, X = w.heap.size := ⟨_, rfl⟩
  have HXW := Lib.hid hX
  rw [← hZ] at hz'
  rw [← hL]
  unfold maxLen at hm
  obtain ⟨lb, lo, rfl, hlb, hc⟩ := hr (by omega)
  have c0 : w.cell? ⟨lb, lo, none⟩ = some (.int .u8 (z 0)) := hc 0 hn
  have b0 := hz 0 hn
  have hn0 : ((n : Int) == 0) = false := by simp; omega
  have hp0 : (0 : Int) < (n : Int) := by omega
  obtain ⟨i, hi⟩ : ∃ i, i = xAt z := ⟨_, rfl⟩
  have hi16 : i < 16 := by rw [hi]; unfold xAt; omega
  obtain ⟨r, hrr⟩ : ∃ r, r = z 0 % 4 := ⟨_, rfl⟩
  have HR := Lib.hid hr
  have HZ := Lib.hid hz
  have HOK := Lib.hid hok
  have hiz : (z 0 / 4) % 16 = (i : Int) := by rw [hi]; unfold xAt; omega
  have HI := Lib.hid hi
  have HRR := Lib.hid hrr
  have HKK := Lib.hid hk
  obtain ⟨x0, hx0⟩ : ∃ x, x = z 0 := ⟨_, rfl⟩
  rw [← hx0] at c0 b0 hiz hrr hk
  obtain ⟨y4, hy4⟩ : ∃ y, y = x0 / 4 := ⟨_, rfl⟩
  rw [← hy4] at hiz
  have xw : IntKind.i64.wrap x0 = x0 := IntWalk.i64_in _ (by omega)
  have q64 : x0.tdiv 64 = 0 := by rw [Int.tdiv_eq_ediv_of_nonneg b0.1, hk]
  have q4 : x0.tdiv 4 = y4 := by rw [Int.tdiv_eq_ediv_of_nonneg b0.1, hy4]
  have m16 : y4.tmod 16 = (i : Int) := by rw [Int.tmod_eq_emod_of_nonneg (by omega), hiz]
  have wy : IntKind.i64.wrap y4 = y4 := IntWalk.i64_in _ (by omega)
  have wi : IntKind.i64.wrap (i : Int) = (i : Int) := IntWalk.i64_in _ (by omega)
  have wk : IntKind.i64.wrap 0 = 0 := IntWalk.i64_in _ (by omega)
  have m4 : x0.tmod 4 = r := by rw [Int.tmod_eq_emod_of_nonneg b0.1, hrr]
  have wr : IntKind.u8.wrap r = r := by rw [IntKind.wrap_u8]; omega
  have i0 : (0 : Int) ≤ (i : Int) := by omega
  have i1 : (i : Int) < 16 := by omega
  have xu : IntKind.u8.wrap x0 = x0 := by rw [IntKind.wrap_u8]; omega
  have r0' : 0 ≤ r ∧ r < 4 := by omega
  clear hr hc hz hok hi hiz hrr hk hx0 hy4 b0
  clear hL hZ
  go_enter Try.func38, Try.ntmps38
  go_upto_region 1 with (fail)
  refine wp_world (fun W => Blk W X 41 L ∧ Blk W (X + 1) 41 Z ∧ Below w.heap.size w W ∧ W.heap.size = X + 2) ⟨by rw [hX]; exact (Blk.new _ _ _).alloc _, by rw [hX]; exact blk_new_at _ _ _ _ (by simp), ((Below.refl _ w).alloc (Nat.le_refl _) _).alloc (by simp) _, by rw [hX]; simp⟩ ?_
  rw [← hX]
  rintro W1 ⟨l1, z1, b1, s1⟩
  have L1 := Lib.hid l1
  have Z1 := Lib.hid z1
  have B1 := Lib.hid (show Below w.heap.size w W1 from by rw [← hX]; exact b1)
  clear l1 z1 b1 hX
  have c0' := (B1.out.cell (p := ⟨lb, lo, none⟩) hlb).trans c0
  clear c0
  go_wp2
  go_quiet (fail)
  refine then_world (fun W => Blk W X 41 L ∧ Blk W (X + 1) 41 Z ∧ Below w.heap.size w W ∧ W.heap.size = X + 2) ⟨Blk.drewN L1.out _, Blk.drewN Z1.out _, below_drewN B1.out _, s1⟩ ?_
  rintro W2 ⟨l2, z2, b2, s2⟩
  have L2 := Lib.hid l2
  have Z2 := Lib.hid z2
  have B2 := Lib.hid b2
  have c0'' := (B2.out.cell (p := ⟨lb, lo, none⟩) hlb).trans ((B1.out.cell (p := ⟨lb, lo, none⟩) hlb).symm.trans c0')
  clear l2 z2 b2 s1 c0'
  by_cases hr0 : r = 0
  rotate_left
  · have h1 : (r != 0) = true := by simpa using hr0
    have HE := Lib.hid (xErr_form S hn (n := n) (z := z) (.inl (by rw [← HRR.out]; exact hr0)))
    clear hr0
    go_wp2_with (first
      | (refine wpList_load_row rfl _ _ rfl X rfl 41 L (0, 0) _ L2.out Try.underlying41 rfl HSZ.out ?_)
      | (refine wpList_store_row rfl _ _ _ rfl (X + 1) L rfl rfl 41 Z Z2.out HSZ.out HS2.out HO1.out ?_))
    refine bodyPost_ret (v := .tuple #[.agg L, .slice none 0 0, .slice none 0 0, .int .i64 9]) (results_cell_four (g := X + 1) (t := 41) (fr := (0, 0)) Try.results38 _ _ L _ rfl (Blk.setRow (Z2.out)) Try.underlying41 rfl HSZ.out _ _ _ rfl rfl rfl) rfl (by rw [HLL.out]; exact RXOut.bad (belowRow B2.out (by have := HXW.out; omega) _) HE.out (by decide) (by decide))
  have HNF : Hid (¬ (z 0 % 4 ≠ 0 ∨ (xKind z = 3 ∧ xAt z ≠ 0))) := Lib.hid (by rw [← HRR.out]; simp [hr0, show xKind z = 0 from HKK.out])
  have h1 : (r != 0) = false := by simpa using hr0
  clear hr0
  by_cases hsh : n < 20
  · have h3 : (n : Int) < 20 := by omega
    have HE := Lib.hid (xErr_short S hn HNF.out (n := n) (z := z) (by rw [show xKind z = 0 from HKK.out]; exact hsh))
    clear hsh
    go_wp2_with (first
      | (refine wpList_load_row rfl _ _ rfl X rfl 41 L (0, 0) _ (L2.out.alloc _) Try.underlying41 rfl HSZ.out ?_)
      | (refine wpList_store_row rfl _ _ _ rfl (X + 1) L rfl rfl 41 Z (Z2.out.alloc _) HSZ.out HS2.out HO1.out ?_))
    refine bodyPost_ret (v := .tuple #[.agg L, .slice none 0 0, .slice none 0 0, .int .i64 5]) (results_cell_four (g := X + 1) (t := 41) (fr := (0, 0)) Try.results38 _ _ L _ rfl (Blk.setRow ((Z2.out.alloc _))) Try.underlying41 rfl HSZ.out _ _ _ rfl rfl rfl) rfl (by rw [HLL.out]; exact RXOut.bad (belowRow (below_new B2.out _) (by have := HXW.out; omega) _) HE.out (by decide) (by decide))
  have h3 : ¬ (n : Int) < 20 := by omega
  have HE := Lib.hid (xErr_rest S hn HNF.out (n := n) (z := z) (by rw [show xKind z = 0 from HKK.out]; exact hsh))
  rw [show xKind z = 0 from HKK.out] at HE
  have HRW := Lib.hid (show Row W2 W2.heap.size (some ⟨lb, lo, none⟩) n (fun j => .int .u8 (z j)) from HR.out.next B2.out)
  rw [if_neg (by decide), if_pos rfl] at HE
  obtain ⟨lo2, hsl, hlo⟩ := slice_from lb lo n cp 20 20 rfl (by omega) hnc
  have HLO := Lib.hid hlo
  clear hlo
  have HBX := Lib.hid (show w.heap.size ≤ X + 1 from (by have := HXW.out; omega))
  have HBX0 := Lib.hid (show w.heap.size ≤ X from (by have := HXW.out; omega))
  go_upto_region 13 with (fail)
  refine wp_world (fun W => Blk W X 41 L ∧ Blk W (X + 1) 41 Z ∧ Below w.heap.size w W) ⟨L2.out.alloc _, Z2.out.alloc _, below_new B2.out _⟩ ?_
  rintro W3 ⟨l3, z3, b3⟩
  have L3 := Lib.hid l3
  have Z3 := Lib.hid z3
  have B3 := Lib.hid b3
  have HR3 := Lib.hid (HR.out.next b3)
  obtain ⟨lb', lo', hab, hlb3, hcw⟩ := HR3.out (by omega)
  cases hab
  have g1 : W3.cell? ⟨lb, lo + 1, none⟩ = some (.int .u8 (z 1)) := hcw 1 (by omega)
  have g2 : W3.cell? ⟨lb, lo + 2, none⟩ = some (.int .u8 (z 2)) := hcw 2 (by omega)
  have d1 := HZ.out 1 (by omega)
  have d2 := HZ.out 2 (by omega)
  obtain ⟨x1, hx1⟩ : ∃ x, x = z 1 := ⟨_, rfl⟩
  obtain ⟨x2, hx2⟩ : ∃ x, x = z 2 := ⟨_, rfl⟩
  rw [← hx1] at g1 d1
  rw [← hx2] at g2 d2
  have HX1 := Lib.hid hx1
  have HX2 := Lib.hid hx2
  have i1' : (1 : Int) < (n : Int) := by omega
  have i2' : (2 : Int) < (n : Int) := by omega
  have w1' : IntKind.i64.wrap x1 = x1 := IntWalk.i64_in _ (by omega)
  have w2' : IntKind.i64.wrap x2 = x2 := IntWalk.i64_in _ (by omega)
  clear l3 z3 b3 hcw hx1 hx2 c0''
  have t16 : x2.tdiv 16 = x2 / 16 := Int.tdiv_eq_ediv_of_nonneg d2.1
  have u16 : IntKind.u8.wrap (x2 / 16) = x2 / 16 := by rw [IntKind.wrap_u8]; omega
  by_cases h5 : x2 / 16 = 5
  rotate_left
  · have h5' : (x2 / 16 != 5) = true := by simpa using h5
    have HE9 := Lib.hid (show xErr S n z = 9 from by rw [HE.out]; unfold fuErr; rw [← HX2.out, if_pos h5])
    clear h5
    go_wp2_with (first
      | (refine wpList_load_row rfl _ _ rfl X rfl 41 L (0, 0) _ L3.out Try.underlying41 rfl HSZ.out ?_)
      | (refine wpList_store_row rfl _ _ _ rfl (X + 1) L rfl rfl 41 Z Z3.out HSZ.out HS2.out HO1.out ?_))
    refine bodyPost_ret (v := .tuple #[.agg L, .slice none 0 0, .slice none 0 0, .int .i64 9]) (results_cell_four (g := X + 1) (t := 41) (fr := (0, 0)) Try.results38 _ _ L _ rfl (Blk.setRow (Z3.out)) Try.underlying41 rfl HSZ.out _ _ _ rfl rfl rfl) rfl (by rw [HLL.out]; exact RXOut.bad (belowRow B3.out HBX.out _) HE9.out (by decide) (by decide))
  have h5' : (x2 / 16 != 5) = false := by simpa using h5
  by_cases h9 : 9000 < n
  · have h4 : (8980 : Int) < ((n - 20 : Nat) : Int) := by omega
    have HE4 := Lib.hid (show xErr S n z = 4 from by rw [HE.out]; unfold fuErr; rw [← HX2.out, if_neg (not_not_intro h5), if_pos h9])
    clear h9 h5
    go_wp2_with (first
      | (refine wpList_load_row rfl _ _ rfl X rfl 41 L (0, 0) _ L3.out Try.underlying41 rfl HSZ.out ?_)
      | (refine wpList_store_row rfl _ _ _ rfl (X + 1) L rfl rfl 41 Z Z3.out HSZ.out HS2.out HO1.out ?_))
    refine bodyPost_ret (v := .tuple #[.agg L, .slice none 0 0, .slice none 0 0, .int .i64 4]) (results_cell_four (g := X + 1) (t := 41) (fr := (0, 0)) Try.results38 _ _ L _ rfl (Blk.setRow (Z3.out)) Try.underlying41 rfl HSZ.out _ _ _ rfl rfl rfl) rfl (by rw [HLL.out]; exact RXOut.bad (belowRow B3.out HBX.out _) HE4.out (by decide) (by decide))
  have h4 : ¬ (8980 : Int) < ((n - 20 : Nat) : Int) := by omega
  have HFU := Lib.hid (show fuErr n z = 0 from by unfold fuErr; rw [← HX2.out, if_neg (not_not_intro h5), if_neg h9])
  have HE0 := Lib.hid (show xErr S n z = 0 from by rw [HE.out]; exact HFU.out)
  have nw : IntKind.i64.wrap (20 + ((n - 20 : Nat) : Int)) = (n : Int) := by rw [show (20 : Int) + ((n - 20 : Nat) : Int) = n by omega]; exact IntWalk.i64_in _ (by omega)
  have nq : (n : Int).tdiv 256 = (n : Int) / 256 := Int.tdiv_eq_ediv_of_nonneg (by omega)
  have nm : (n : Int).tmod 256 = (n : Int) % 256 := Int.tmod_eq_emod_of_nonneg (by omega)
  have nqw : IntKind.i64.wrap ((n : Int) / 256) = (n : Int) / 256 := IntWalk.i64_in _ (by omega)
  have nmw : IntKind.i64.wrap ((n : Int) % 256) = (n : Int) % 256 := IntWalk.i64_in _ (by omega)
  have nqu : IntKind.u8.wrap ((n : Int) / 256) = (n : Int) / 256 := by rw [IntKind.wrap_u8]; omega
  have nmu : IntKind.u8.wrap ((n : Int) % 256) = (n : Int) % 256 := by rw [IntKind.wrap_u8]; omega
  obtain ⟨m18, h18⟩ : ∃ m : Nat, m = 18 := ⟨_, rfl⟩
  have hs2 := slice2_20b lb lo n cp (by omega) hnc
  rw [← h18] at hs2
  have H18 := Lib.hid h18
  clear h18
  have HP0 := Lib.hid (fullY_pErr n z (by omega) (by omega) (by rw [← HX2.out]; exact h5) (by rw [← HX2.out]; exact d2))
  have HFL := Lib.hid (full_list n z (by omega))
  have HN9 := Lib.hid (show n ≤ 9000 from by omega)
  obtain ⟨i0', hi', hz1', hz2', hz3'⟩ := info_parts Try.infoByte
  clear h9 h5
  go_upto_region 22 with (first
    | (at_builtin; refine wpList_append_src _ rfl _ _ 24 rfl W3.heap.size 5 i0' (.int .u8 0) 1 Try.underlying24 hi' hz1' hz2' hz3' rfl _ 0 [] rfl (owns_empty W3 5) W3.heap.size (some ⟨lb, lo + 2, none⟩) m18 (cp - 2) (fun j => .int .u8 (z (2 + j))) rfl ((row_from HR3.out (k := 2) (lo2 := lo + 2) (fun _ => rfl)).take (by have := H18.out; omega) |>.alloc (Nat.le_refl _) _) (fun _ => rfl) (by rw [H18.out]; decide) (by rw [H18.out]; decide) (by simp) ?_; intro v4 w4 hown4 hg4 _; have O4 := Lib.hid hown4; have B4 := Lib.hid (show Below W3.heap.size W3 w4 from copy_below hg4); have T4 := Lib.hid (show Row (w4.alloc (.cells #[.int .u8 ((n : Int) / 256), .int .u8 ((n : Int) % 256)] 5)) (w4.heap.size + 1) (some ⟨w4.heap.size, 0, none⟩) 2 (fun j => .int .u8 (([(n : Int) / 256, (n : Int) % 256] : List Int).getD j 0)) from lit_bytes [(n : Int) / 256, (n : Int) % 256] (Blk.new w4 5 #[.int .u8 ((n : Int) / 256), .int .u8 ((n : Int) % 256)]) (Nat.lt_succ_self _)); have Q4 := Lib.hid (show (w4.alloc (.cells #[.int .u8 ((n : Int) / 256), .int .u8 ((n : Int) % 256)] 5)).ownsRow W3.heap.size 5 1 v4 (0 + m18) _ from O4.out.alloc _); have S4 := Lib.hid (show W3.heap.size ≤ (w4.alloc (.cells #[.int .u8 ((n : Int) / 256), .int .u8 ((n : Int) % 256)] 5)).heap.size from (by have := B4.out.size; rw [World.size_alloc]; omega)); have M4 := Lib.hid (show 0 + m18 + 2 ≤ maxLen from (by rw [H18.out]; decide)); have N4 := Lib.hid (show (0 + m18 + 2) * 1 ≤ 140737488355328 from (by rw [H18.out]; decide)); clear hown4 hg4)
    | (at_builtin; refine wpList_append_src _ rfl _ _ 24 rfl W3.heap.size 5 i0' (.int .u8 0) 1 Try.underlying24 hi' hz1' hz2' hz3' rfl _ (0 + m18) _ rfl Q4.out (w4.heap.size + 1) (some ⟨w4.heap.size, 0, none⟩) 2 2 (fun j => .int .u8 (([(n : Int) / 256, (n : Int) % 256] : List Int).getD j 0)) rfl T4.out (fun _ => rfl) M4.out N4.out S4.out ?_; intro v5 w5 hown5 hg5 _; have O5 := Lib.hid hown5; have B5 := Lib.hid (show Below W3.heap.size W3 w5 from (B4.out.alloc B4.out.size _).grown hg5 S4.out (fun k e => (Q4.out.lt k e).1)); clear hown5 hg5)
    | (at_builtin; refine wpList_append_src _ rfl _ _ 24 rfl W3.heap.size 5 i0' (.int .u8 0) 1 Try.underlying24 hi' hz1' hz2' hz3' rfl _ (0 + m18 + 2) _ rfl O5.out W3.heap.size (some ⟨lb, lo2, none⟩) (n - 20) (cp - 20) (fun j => .int .u8 (z (20 + j))) rfl ((row_from HR3.out HLO.out).below B5.out) (fun _ => rfl) (by have := HN9.out; have := H18.out; unfold maxLen; omega) (by have := HN9.out; have := H18.out; omega) B5.out.size ?_; intro v6 w6 hown6 hg6 _; rw [H18.out, show 0 + 18 + 2 + (n - 20) = n by omega] at hown6; have B6 := Lib.hid (show Below W3.heap.size W3 w6 from B5.out.grown hg6 B5.out.size (fun k e => (O5.out.lt k e).1)); obtain ⟨A6, c6, hv6, hc6, _, hf6, hr6⟩ := own_any (f := fun j => .int .u8 (fullY n z j)) hown6 HFL.out; subst hv6; have R6 := Lib.hid hr6; have C6 := Lib.hid hc6; have F6 := Lib.hid hf6; clear hown6 hg6 hr6 hc6 hf6))
  have hp := HP0.out
  have hLn : pLen n (fullY n z) = n - 20 := by unfold pLen; rw [if_pos hp]
  have HPZ := Lib.hid (fun (W : World) (hR : Row W W.heap.size A6 n (fun j => .int .u8 (fullY n z j))) => rparse_any A6 n c6 (fullY n z) C6.out (fullY_byte n z (by omega) HN9.out HZ.out) W hR)
  unfold RParseEnd hdr at HPZ
  rw [hLn, hp] at HPZ
  have HFC : Hid (fullC n z = ⟨pHdr n (fullY n z) 5, pHdr n (fullY n z) 6, pHdr n (fullY n z) 7, true, pHdr n (fullY n z) 0, pHdr n (fullY n z) 1, pHdr n (fullY n z) 2, pHdr n (fullY n z) 3, pHdr n (fullY n z) 4, x1, 0⟩) := Lib.hid (by rw [HX1.out]; rfl)
  obtain ⟨V, hV⟩ : ∃ V, V = pHdr n (fullY n z) := ⟨_, rfl⟩
  rw [← hV] at HPZ HFC
  have L6 := Lib.hid (L3.out.below B6.out L3.out.lt)
  have Z6 := Lib.hid (Z3.out.below B6.out Z3.out.lt)
  have BB6 := Lib.hid (B3.out.trans (B6.out.mono B3.out.size))
  clear hV hp hLn
  go_upto_region 24 with (go_at_call 60; refine (HPZ.out w6 R6.out).mono ?_; rintro e w7 ⟨P7, c7, rfl, _, _, b7⟩; have L7 := Lib.hid (L6.out.below b7 L6.out.lt); have Z7 := Lib.hid (Z6.out.below b7 Z6.out.lt); have B7 := Lib.hid (below_step BB6.out b7); have R7 := Lib.hid (R6.out.next b7); clear b7)
  have L8 := Lib.hid (show XB (w7.alloc (.cells #[.int .i64 (V 0), .int .i64 (V 1), .int .i64 (V 2), .int .i64 (V 3), .int .i64 (V 4), .int .i64 (V 5), .int .i64 (V 6), .int .i64 (V 7), .int .i64 0] 36)) X S from by have q := L7.out.alloc (.cells #[.int .i64 (V 0), .int .i64 (V 1), .int .i64 (V 2), .int .i64 (V 3), .int .i64 (V 4), .int .i64 (V 5), .int .i64 (V 6), .int .i64 (V 7), .int .i64 0] 36); rw [HLL.out] at q; exact q)
  have hth8 := XB.midThere L8.out hi16
  have HXC := Lib.hid sizeXc
  have HON := Lib.hid (rcells_one ⟨V 5, V 6, V 7, true, V 0, V 1, V 2, V 3, V 4, x1, 0⟩)
  go_upto_region 25 with (refine wpList_store_mid rfl _ _ _ rfl X (i * 12) #[.bool true, .int .i64 (V 0), .int .i64 (V 1), .int .i64 (V 2), .int .i64 (V 3), .int .i64 (V 4), .int .i64 (V 5), .int .i64 (V 6), .int .i64 (V 7), .int .i64 0, .int .i64 x1, .int .i64 0] rfl rfl hth8 HXC.out HON.out ?_)
  obtain ⟨c', hc'⟩ : ∃ c' : Ec, c' = ⟨V 5, V 6, V 7, true, V 0, V 1, V 2, V 3, V 4, x1, 0⟩ := ⟨_, rfl⟩
  refine wp_world (fun W => XB W X (updE S i c') ∧ Blk W (X + 1) 41 Z ∧ Below w.heap.size w W ∧ Row W w7.heap.size A6 n (fun j => .int .u8 (fullY n z j)) ∧ w7.heap.size ≤ W.heap.size) ⟨?_, ?_, ?_, ?_, ?_⟩ ?_
  · rw [hc']; exact XB.put L8.out hi16 ⟨V 5, V 6, V 7, true, V 0, V 1, V 2, V 3, V 4, x1, 0⟩
  · exact (Z7.out.alloc _).farCells (by omega) _ _
  · exact below_setCells (below_new B7.out _) HBX0.out (by have := B7.out.size; simp; omega) _ _
  · exact Keep1.row (g := X) (grownBy_setCells X _ _ _) (R7.out.alloc (Nat.le_refl _) _) (by simp) (fun a e => by have := F6.out a e; have := L3.out.lt; omega)
  · rw [size_setCells]; simp
  rintro W9 ⟨l9, z9, b9, r9, s9⟩
  have L9x := Lib.hid l9
  have Z9 := Lib.hid z9
  have B9 := Lib.hid b9
  have R9 := Lib.hid (r9.more s9)
  obtain ⟨L9, hL9⟩ : ∃ L9, L9 = rxArr (updE S i c') := ⟨_, rfl⟩
  unfold XB at L9x
  rw [← hL9] at L9x
  have HSZ9 : Hid ((Try.prog.info? 41).map (·.size) = some L9.size) := Lib.hid (by rw [hL9, rxArr_size]; exact sizeXp)
  have HS29 : Hid (Z.size = L9.size) := Lib.hid (by rw [HS2.out, HLL.out, hL9, rxArr_size, rxArr_size])
  have HO19 : Hid (L9.all (·.oneCell') = true) := Lib.hid (by rw [hL9]; exact rxp_one _)
  have HL9 := Lib.hid hL9
  have HC' := Lib.hid hc'
  clear l9 z9 b9 r9 s9 hL9 hc'
  go_wp2_with (first
    | (refine wpList_load_row rfl _ _ rfl X rfl 41 L9 (0, 0) _ L9x.out Try.underlying41 rfl HSZ9.out ?_)
    | (refine wpList_store_row rfl _ _ _ rfl (X + 1) L9 rfl rfl 41 Z Z9.out HSZ9.out HS29.out HO19.out ?_))
  have e1 : xLen S n z = n := by unfold xLen; rw [HE0.out, if_neg (by decide), if_neg (by rw [show xKind z = 0 from HKK.out]; decide), if_pos (show xKind z = 0 from HKK.out)]
  have e2 : xY S n z = fullY n z := by unfold xY; rw [if_neg (by rw [show xKind z = 0 from HKK.out]; decide), if_pos (show xKind z = 0 from HKK.out)]
  have e3 : xS S n z = updE S i c' := by unfold xS; rw [HE0.out, if_neg (by decide), if_neg (by decide), if_pos (show xKind z = 0 from HKK.out), ← HI.out, HFC.out, HC'.out]
  have BFx : Below w.heap.size w (W9.setRow (X + 1) L9) := belowRow B9.out HBX.out _
  have QFx : Row (W9.setRow (X + 1) L9) (W9.setRow (X + 1) L9).heap.size A6 n (fun j => .int .u8 (fullY n z j)) := (Keep1.row (g := X + 1) (keep_row (World.grownBy_refl W9 _) L9) R9.out (Nat.le_refl _) (fun a e => by have := F6.out a e; have := Z3.out.lt; omega)).more (by rw [size_setRow]; exact Nat.le_refl _)
  have OUT : RXOut (some ⟨lb, lo, none⟩) S n z w (.returned (.tuple #[.agg L9, .slice A6 n c6, .slice none 0 0, .int .i64 0])) (W9.setRow (X + 1) L9) := by
    rw [HL9.out]
    exact RXOut.good (m := n) (y := fullY n z) (S' := updE S i c') HE0.out e1 C6.out e2 (by rw [← HL9.out]; exact QFx) e3 (by rw [← HL9.out]; exact BFx) (fun a e => .inl (by have := F6.out a e; have := Z3.out.lt; have := HBX.out; omega))
  exact bodyPost_ret (results_cell_four (g := X + 1) (t := 41) (fr := (0, 0)) Try.results38 _ _ L9 _ rfl (Z9.out.setRow (ds := L9)) Try.underlying41 rfl HSZ9.out _ _ _ rfl rfl rfl) rfl OUT

set_option maxRecDepth 100000 in
set_option maxHeartbeats 1600000 in
theorem rx_delta (S : Nat → Ec) (A : Option Addr) (n cp : Nat) (z : Nat → Int) (w : World) (hn : 0 < n) (hnc : n ≤ cp) (hm : n ≤ maxLen) (hz : ∀ j, j < n → 0 ≤ z j ∧ z j < 256) (hok : ∀ i, i < 16 → (S i).Ok) (hk : z 0 / 64 = 1) (hr : Row w w.heap.size A n (fun j => .int .u8 (z j))) :
    Calls Try.prog 38 #[.agg (rxArr S), .slice A n cp] w (RXOut A S n z w) := by
  have hz' := zeroXp
  obtain ⟨L, hL⟩ : ∃ L, L = rxArr S := ⟨_, rfl⟩
  obtain ⟨Z, hZ⟩ : ∃ Z, Z = rxArr (fun _ => Ec.zero) := ⟨_, rfl⟩
  have HSZ : Hid ((Try.prog.info? 41).map (·.size) = some L.size) := Lib.hid (by rw [hL, rxArr_size]; exact sizeXp)
  have HS2 : Hid (Z.size = L.size) := Lib.hid (by rw [hL, hZ, rxArr_size, rxArr_size])
  have HO1 : Hid (L.all (·.oneCell') = true) := Lib.hid (by rw [hL]; exact rxp_one S)
  have HLL := Lib.hid hL
  obtain ⟨X, hX⟩ : ∃ X, X = w.heap.size := ⟨_, rfl⟩
  have HXW := Lib.hid hX
  rw [← hZ] at hz'
  rw [← hL]
  unfold maxLen at hm
  obtain ⟨lb, lo, rfl, hlb, hc⟩ := hr (by omega)
  have c0 : w.cell? ⟨lb, lo, none⟩ = some (.int .u8 (z 0)) := hc 0 hn
  have b0 := hz 0 hn
  have hn0 : ((n : Int) == 0) = false := by simp; omega
  have hp0 : (0 : Int) < (n : Int) := by omega
  obtain ⟨i, hi⟩ : ∃ i, i = xAt z := ⟨_, rfl⟩
  have hi16 : i < 16 := by rw [hi]; unfold xAt; omega
  obtain ⟨r, hrr⟩ : ∃ r, r = z 0 % 4 := ⟨_, rfl⟩
  have HR := Lib.hid hr
  have HZ := Lib.hid hz
  have HOK := Lib.hid hok
  have hiz : (z 0 / 4) % 16 = (i : Int) := by rw [hi]; unfold xAt; omega
  have HI := Lib.hid hi
  have HRR := Lib.hid hrr
  have HKK := Lib.hid hk
  obtain ⟨x0, hx0⟩ : ∃ x, x = z 0 := ⟨_, rfl⟩
  rw [← hx0] at c0 b0 hiz hrr hk
  obtain ⟨y4, hy4⟩ : ∃ y, y = x0 / 4 := ⟨_, rfl⟩
  rw [← hy4] at hiz
  have xw : IntKind.i64.wrap x0 = x0 := IntWalk.i64_in _ (by omega)
  have q64 : x0.tdiv 64 = 1 := by rw [Int.tdiv_eq_ediv_of_nonneg b0.1, hk]
  have q4 : x0.tdiv 4 = y4 := by rw [Int.tdiv_eq_ediv_of_nonneg b0.1, hy4]
  have m16 : y4.tmod 16 = (i : Int) := by rw [Int.tmod_eq_emod_of_nonneg (by omega), hiz]
  have wy : IntKind.i64.wrap y4 = y4 := IntWalk.i64_in _ (by omega)
  have wi : IntKind.i64.wrap (i : Int) = (i : Int) := IntWalk.i64_in _ (by omega)
  have wk : IntKind.i64.wrap 1 = 1 := IntWalk.i64_in _ (by omega)
  have m4 : x0.tmod 4 = r := by rw [Int.tmod_eq_emod_of_nonneg b0.1, hrr]
  have wr : IntKind.u8.wrap r = r := by rw [IntKind.wrap_u8]; omega
  have i0 : (0 : Int) ≤ (i : Int) := by omega
  have i1 : (i : Int) < 16 := by omega
  have xu : IntKind.u8.wrap x0 = x0 := by rw [IntKind.wrap_u8]; omega
  have r0' : 0 ≤ r ∧ r < 4 := by omega
  clear hr hc hz hok hi hiz hrr hk hx0 hy4 b0
  clear hL hZ
  go_enter Try.func38, Try.ntmps38
  go_upto_region 1 with (fail)
  refine wp_world (fun W => Blk W X 41 L ∧ Blk W (X + 1) 41 Z ∧ Below w.heap.size w W ∧ W.heap.size = X + 2) ⟨by rw [hX]; exact (Blk.new _ _ _).alloc _, by rw [hX]; exact blk_new_at _ _ _ _ (by simp), ((Below.refl _ w).alloc (Nat.le_refl _) _).alloc (by simp) _, by rw [hX]; simp⟩ ?_
  rw [← hX]
  rintro W1 ⟨l1, z1, b1, s1⟩
  have L1 := Lib.hid l1
  have Z1 := Lib.hid z1
  have B1 := Lib.hid (show Below w.heap.size w W1 from by rw [← hX]; exact b1)
  clear l1 z1 b1 hX
  have c0' := (B1.out.cell (p := ⟨lb, lo, none⟩) hlb).trans c0
  clear c0
  go_wp2
  go_quiet (fail)
  refine then_world (fun W => Blk W X 41 L ∧ Blk W (X + 1) 41 Z ∧ Below w.heap.size w W ∧ W.heap.size = X + 2) ⟨Blk.drewN L1.out _, Blk.drewN Z1.out _, below_drewN B1.out _, s1⟩ ?_
  rintro W2 ⟨l2, z2, b2, s2⟩
  have L2 := Lib.hid l2
  have Z2 := Lib.hid z2
  have B2 := Lib.hid b2
  have c0'' := (B2.out.cell (p := ⟨lb, lo, none⟩) hlb).trans ((B1.out.cell (p := ⟨lb, lo, none⟩) hlb).symm.trans c0')
  clear l2 z2 b2 s1 c0'
  by_cases hr0 : r = 0
  rotate_left
  · have h1 : (r != 0) = true := by simpa using hr0
    have HE := Lib.hid (xErr_form S hn (n := n) (z := z) (.inl (by rw [← HRR.out]; exact hr0)))
    clear hr0
    go_wp2_with (first
      | (refine wpList_load_row rfl _ _ rfl X rfl 41 L (0, 0) _ L2.out Try.underlying41 rfl HSZ.out ?_)
      | (refine wpList_store_row rfl _ _ _ rfl (X + 1) L rfl rfl 41 Z Z2.out HSZ.out HS2.out HO1.out ?_))
    refine bodyPost_ret (v := .tuple #[.agg L, .slice none 0 0, .slice none 0 0, .int .i64 9]) (results_cell_four (g := X + 1) (t := 41) (fr := (0, 0)) Try.results38 _ _ L _ rfl (Blk.setRow (Z2.out)) Try.underlying41 rfl HSZ.out _ _ _ rfl rfl rfl) rfl (by rw [HLL.out]; exact RXOut.bad (belowRow B2.out (by have := HXW.out; omega) _) HE.out (by decide) (by decide))
  have HNF : Hid (¬ (z 0 % 4 ≠ 0 ∨ (xKind z = 3 ∧ xAt z ≠ 0))) := Lib.hid (by rw [← HRR.out]; simp [hr0, show xKind z = 1 from HKK.out])
  have h1 : (r != 0) = false := by simpa using hr0
  clear hr0
  by_cases hsh : n < 6
  · have h3 : (n : Int) < 6 := by omega
    have HE := Lib.hid (xErr_short S hn HNF.out (n := n) (z := z) (by rw [show xKind z = 1 from HKK.out]; exact hsh))
    clear hsh
    go_wp2_with (first
      | (refine wpList_load_row rfl _ _ rfl X rfl 41 L (0, 0) _ (L2.out.alloc _) Try.underlying41 rfl HSZ.out ?_)
      | (refine wpList_store_row rfl _ _ _ rfl (X + 1) L rfl rfl 41 Z (Z2.out.alloc _) HSZ.out HS2.out HO1.out ?_))
    refine bodyPost_ret (v := .tuple #[.agg L, .slice none 0 0, .slice none 0 0, .int .i64 5]) (results_cell_four (g := X + 1) (t := 41) (fr := (0, 0)) Try.results38 _ _ L _ rfl (Blk.setRow ((Z2.out.alloc _))) Try.underlying41 rfl HSZ.out _ _ _ rfl rfl rfl) rfl (by rw [HLL.out]; exact RXOut.bad (belowRow (below_new B2.out _) (by have := HXW.out; omega) _) HE.out (by decide) (by decide))
  have h3 : ¬ (n : Int) < 6 := by omega
  have HE := Lib.hid (xErr_rest S hn HNF.out (n := n) (z := z) (by rw [show xKind z = 1 from HKK.out]; exact hsh))
  rw [show xKind z = 1 from HKK.out] at HE
  have HRW := Lib.hid (show Row W2 W2.heap.size (some ⟨lb, lo, none⟩) n (fun j => .int .u8 (z j)) from HR.out.next B2.out)
  rw [if_neg (by decide), if_neg (by decide), ← HI.out] at HE
  obtain ⟨lo2, hsl, hlo⟩ := slice_from lb lo n cp 6 6 rfl (by omega) hnc
  have HLO := Lib.hid hlo
  clear hlo
  have HBX := Lib.hid (show w.heap.size ≤ X + 1 from (by have := HXW.out; omega))
  have HBX0 := Lib.hid (show w.heap.size ≤ X from (by have := HXW.out; omega))
  go_upto_region 13 with (fail)
  refine wp_world (fun W => Blk W X 41 L ∧ Blk W (X + 1) 41 Z ∧ Below w.heap.size w W) ⟨L2.out.alloc _, Z2.out.alloc _, below_new B2.out _⟩ ?_
  rintro W3 ⟨l3, z3, b3⟩
  have L3 := Lib.hid l3
  have Z3 := Lib.hid z3
  have B3 := Lib.hid b3
  have HR3 := Lib.hid (HR.out.next b3)
  obtain ⟨lb', lo', hab, hlb3, hcw⟩ := HR3.out (by omega)
  cases hab
  have g1 : W3.cell? ⟨lb, lo + 1, none⟩ = some (.int .u8 (z 1)) := hcw 1 (by omega)
  have g2 : W3.cell? ⟨lb, lo + 2, none⟩ = some (.int .u8 (z 2)) := hcw 2 (by omega)
  have d1 := HZ.out 1 (by omega)
  have d2 := HZ.out 2 (by omega)
  obtain ⟨x1, hx1⟩ : ∃ x, x = z 1 := ⟨_, rfl⟩
  obtain ⟨x2, hx2⟩ : ∃ x, x = z 2 := ⟨_, rfl⟩
  rw [← hx1] at g1 d1
  rw [← hx2] at g2 d2
  have HX1 := Lib.hid hx1
  have HX2 := Lib.hid hx2
  have i1' : (1 : Int) < (n : Int) := by omega
  have i2' : (2 : Int) < (n : Int) := by omega
  have w1' : IntKind.i64.wrap x1 = x1 := IntWalk.i64_in _ (by omega)
  have w2' : IntKind.i64.wrap x2 = x2 := IntWalk.i64_in _ (by omega)
  clear l3 z3 b3 hcw hx1 hx2 c0''
  obtain ⟨c, hcc⟩ : ∃ c, c = S i := ⟨_, rfl⟩
  have HCO := Lib.hid (show c.Ok from (by rw [hcc]; exact HOK.out i hi16))
  rw [← hcc] at HE
  have HCC := Lib.hid hcc
  clear hcc
  have HE' : Hid (xErr S n z = acErr c n z 6 ((c.gen + 1) % 256)) := Lib.hid HE.out
  by_cases h2 : x2 = 0
  · have h2' : (x2 == 0) = true := by simpa using h2
    have HE9 := Lib.hid (show xErr S n z = 9 from by rw [HE'.out]; unfold acErr; rw [← HX2.out, if_pos h2])
    clear h2
    go_wp2_with (first
      | (refine wpList_load_row rfl _ _ rfl X rfl 41 L (0, 0) _ L3.out Try.underlying41 rfl HSZ.out ?_)
      | (refine wpList_store_row rfl _ _ _ rfl (X + 1) L rfl rfl 41 Z Z3.out HSZ.out HS2.out HO1.out ?_))
    refine bodyPost_ret (v := .tuple #[.agg L, .slice none 0 0, .slice none 0 0, .int .i64 9]) (results_cell_four (g := X + 1) (t := 41) (fr := (0, 0)) Try.results38 _ _ L _ rfl (Blk.setRow (Z3.out)) Try.underlying41 rfl HSZ.out _ _ _ rfl rfl rfl) rfl (by rw [HLL.out]; exact RXOut.bad (belowRow B3.out HBX.out _) HE9.out (by decide) (by decide))
  have h2' : (x2 == 0) = false := by simpa using h2
  by_cases h9 : 8980 < (n : Int) - ((6 : Nat) : Int)
  · have h4 : (8980 : Int) < ((n - 6 : Nat) : Int) := by omega
    have HE4 := Lib.hid (show xErr S n z = 4 from by rw [HE'.out]; unfold acErr; rw [← HX2.out, if_neg h2, if_pos h9])
    clear h9 h2
    go_wp2_with (first
      | (refine wpList_load_row rfl _ _ rfl X rfl 41 L (0, 0) _ L3.out Try.underlying41 rfl HSZ.out ?_)
      | (refine wpList_store_row rfl _ _ _ rfl (X + 1) L rfl rfl 41 Z Z3.out HSZ.out HS2.out HO1.out ?_))
    refine bodyPost_ret (v := .tuple #[.agg L, .slice none 0 0, .slice none 0 0, .int .i64 4]) (results_cell_four (g := X + 1) (t := 41) (fr := (0, 0)) Try.results38 _ _ L _ rfl (Blk.setRow (Z3.out)) Try.underlying41 rfl HSZ.out _ _ _ rfl rfl rfl) rfl (by rw [HLL.out]; exact RXOut.bad (belowRow B3.out HBX.out _) HE4.out (by decide) (by decide))
  have h4 : ¬ (8980 : Int) < ((n - 6 : Nat) : Int) := by omega
  have HE3 := Lib.hid (show xErr S n z = if c.valid = true ∧ x1 = (c.gen + 1) % 256 then 0 else 11 from by rw [HE'.out]; unfold acErr; rw [← HX2.out, if_neg h2, if_neg h9, ← HX1.out])
  have hn8 : n ≤ 8980 + 6 := by omega
  have hx2p : x2 ≠ 0 := h2
  clear h9 h2
  obtain ⟨v0, v1, v2, v3, v4, v5, v6, v7, v8, v9, v10, v11⟩ := (show XB W3 X S from (by have q := L3.out; rw [HLL.out] at q; exact q)).cells hi16
  rw [← HCC.out] at v0 v1 v2 v3 v4 v5 v6 v7 v8 v10 v11
  have og := HCO.out.gen
  have gt : (c.gen + 1).tmod 256 = (c.gen + 1) % 256 := Int.tmod_eq_emod_of_nonneg (by omega)
  have gw1 : IntKind.i64.wrap (c.gen + 1) = c.gen + 1 := IntWalk.i64_in _ (by omega)
  have gw2 : IntKind.i64.wrap ((c.gen + 1) % 256) = (c.gen + 1) % 256 := IntWalk.i64_in _ (by omega)
  obtain ⟨v, hv⟩ : ∃ v, v = c.valid := ⟨_, rfl⟩
  rw [← hv] at v0 HE3
  have HVV := Lib.hid hv
  clear hv
  go_upto_region 27 with (fail)
  obtain ⟨KB', hKB⟩ : ∃ k, k = W3.heap.size := ⟨_, rfl⟩
  refine wp_world (fun W => Blk W KB' 38 #[.bool v, .int .i64 c.f0, .int .i64 c.f1, .int .i64 c.f2, .int .i64 c.f3, .int .i64 c.f4, .int .i64 c.hops, .int .i64 c.ident, .int .i64 c.time, .int .i64 0, .int .i64 c.gen, .int .i64 c.step] ∧ XB W X S ∧ Blk W (X + 1) 41 Z ∧ Below w.heap.size w W) ⟨by rw [hKB]; exact Blk.new W3 _ _, by have q := L3.out.alloc (.cells #[.bool v, .int .i64 c.f0, .int .i64 c.f1, .int .i64 c.f2, .int .i64 c.f3, .int .i64 c.f4, .int .i64 c.hops, .int .i64 c.ident, .int .i64 c.time, .int .i64 0, .int .i64 c.gen, .int .i64 c.step] 38); rw [HLL.out] at q; exact q, Z3.out.alloc _, below_new B3.out _⟩ ?_
  rw [← hKB]
  rintro W4 ⟨k4, l4, z4, b4⟩
  have K4 := Lib.hid k4
  have L4 := Lib.hid l4
  have Z4 := Lib.hid z4
  have B4 := Lib.hid b4
  have HR4 := Lib.hid (HR.out.next b4)
  have xb1 : X + 1 < W4.heap.size := z4.lt
  have kb1 := k4.lt
  have q0 := k4.cell 0
  have q1 := k4.cell 1
  have q2 := k4.cell 2
  have q3 := k4.cell 3
  have q4' := k4.cell 4
  have q5 := k4.cell 5
  have q6 := k4.cell 6
  have q7 := k4.cell 7
  have q8 := k4.cell 8
  have q9 := k4.cell 9
  have q10 := k4.cell 10
  have q11 := k4.cell 11
  simp at q0 q1 q2 q3 q4' q5 q6 q7 q8 q9 q10 q11
  have HKB := Lib.hid hKB
  have hok3 : IntKind.i64.wrap (160 + (i : Int)) = 160 + (i : Int) := IntWalk.i64_in _ (by omega)
  have hok4 : IntKind.u8.wrap (160 + (i : Int)) = 160 + (i : Int) := by rw [IntKind.wrap_u8]; omega
  clear k4 l4 z4 b4 v0 v1 v2 v3 v4 v5 v6 v7 v8 v9 v10 v11 g1 g2 hKB
  by_cases hck : v = true ∧ x1 = (c.gen + 1) % 256
  rotate_left
  · have HE11 := Lib.hid (show xErr S n z = 11 from by rw [HE3.out, if_neg hck])
    have hxc : (v = false) ∨ (v = true ∧ (x1 != (c.gen + 1) % 256) = true) := by
      cases v
      · exact .inl rfl
      · exact .inr ⟨rfl, by simpa using hck⟩
    clear hck
    have hth4 := XB.midThere L4.out hi16
    have HXC := Lib.hid sizeXc
    have HON := Lib.hid (rcells_one Ec.zero)
    rcases hxc with hvf | ⟨hvt, hne⟩
    · subst hvf
      go_upto_region 28 with (fail)
      go_upto_region 29 with (refine wpList_store_mid rfl _ _ _ rfl X (i * 12) #[.bool false, .int .i64 0, .int .i64 0, .int .i64 0, .int .i64 0, .int .i64 0, .int .i64 0, .int .i64 0, .int .i64 0, .int .i64 0, .int .i64 0, .int .i64 0] rfl rfl hth4 HXC.out HON.out ?_)
      refine wp_world (fun W => XB W X (updE S i Ec.zero) ∧ Blk W (X + 1) 41 Z ∧ Below w.heap.size w W) ⟨XB.put L4.out hi16 Ec.zero, Z4.out.farCells (by omega) _ _, below_setCells B4.out HBX0.out B4.out.size _ _⟩ ?_
      rintro W9 ⟨l9, z9, b9⟩
      have L9x := Lib.hid l9
      have Z9 := Lib.hid z9
      have B9 := Lib.hid b9
      have xb9 : X + 1 < W9.heap.size := z9.lt
      obtain ⟨L9, hL9⟩ : ∃ L9, L9 = rxArr (updE S i Ec.zero) := ⟨_, rfl⟩
      unfold XB at L9x
      rw [← hL9] at L9x
      have HSZ9 : Hid ((Try.prog.info? 41).map (·.size) = some L9.size) := Lib.hid (by rw [hL9, rxArr_size]; exact sizeXp)
      have HS29 : Hid (Z.size = L9.size) := Lib.hid (by rw [HS2.out, HLL.out, hL9, rxArr_size, rxArr_size])
      have HO19 : Hid (L9.all (·.oneCell') = true) := Lib.hid (by rw [hL9]; exact rxp_one _)
      have HL9 := Lib.hid hL9
      clear l9 z9 b9 hL9
      go_wp2_with (first
        | (refine wpList_load_row rfl _ _ rfl X rfl 41 L9 (0, 0) _ L9x.out Try.underlying41 rfl HSZ9.out ?_)
        | (refine wpList_store_row rfl _ _ _ rfl (X + 1) L9 rfl rfl 41 Z (Z9.out.alloc _) HSZ9.out HS29.out HO19.out ?_))
      have OUT : RXOut (some ⟨lb, lo, none⟩) S n z w (.returned (.tuple #[.agg L9, .slice none 0 0, .slice (some ⟨W9.heap.size, 0, none⟩) 1 1, .int .i64 11])) ((W9.alloc (.cells #[.int .u8 (160 + (i : Int))] 5)).setRow (X + 1) L9) := by
        rw [HL9.out]
        exact RXOut.check HE11.out HI.out.symm (Nat.le_refl _) (Blk.one_row ((Blk.new W9 5 #[.int .u8 (160 + (i : Int))]).farRow (by omega)) (by rw [size_setRow]; simp)) (belowRow (below_new B9.out _) HBX.out _) (fresh_some B9.out.size)
      exact bodyPost_ret (results_cell_four (g := X + 1) (t := 41) (fr := (0, 0)) Try.results38 _ _ L9 _ rfl ((Z9.out.alloc _).setRow (ds := L9)) Try.underlying41 rfl HSZ9.out _ _ _ rfl rfl rfl) rfl OUT
    · subst hvt
      go_upto_region 28 with (fail)
      go_upto_region 29 with (refine wpList_store_mid rfl _ _ _ rfl X (i * 12) #[.bool false, .int .i64 0, .int .i64 0, .int .i64 0, .int .i64 0, .int .i64 0, .int .i64 0, .int .i64 0, .int .i64 0, .int .i64 0, .int .i64 0, .int .i64 0] rfl rfl hth4 HXC.out HON.out ?_)
      refine wp_world (fun W => XB W X (updE S i Ec.zero) ∧ Blk W (X + 1) 41 Z ∧ Below w.heap.size w W) ⟨XB.put L4.out hi16 Ec.zero, Z4.out.farCells (by omega) _ _, below_setCells B4.out HBX0.out B4.out.size _ _⟩ ?_
      rintro W9 ⟨l9, z9, b9⟩
      have L9x := Lib.hid l9
      have Z9 := Lib.hid z9
      have B9 := Lib.hid b9
      have xb9 : X + 1 < W9.heap.size := z9.lt
      obtain ⟨L9, hL9⟩ : ∃ L9, L9 = rxArr (updE S i Ec.zero) := ⟨_, rfl⟩
      unfold XB at L9x
      rw [← hL9] at L9x
      have HSZ9 : Hid ((Try.prog.info? 41).map (·.size) = some L9.size) := Lib.hid (by rw [hL9, rxArr_size]; exact sizeXp)
      have HS29 : Hid (Z.size = L9.size) := Lib.hid (by rw [HS2.out, HLL.out, hL9, rxArr_size, rxArr_size])
      have HO19 : Hid (L9.all (·.oneCell') = true) := Lib.hid (by rw [hL9]; exact rxp_one _)
      have HL9 := Lib.hid hL9
      clear l9 z9 b9 hL9
      go_wp2_with (first
        | (refine wpList_load_row rfl _ _ rfl X rfl 41 L9 (0, 0) _ L9x.out Try.underlying41 rfl HSZ9.out ?_)
        | (refine wpList_store_row rfl _ _ _ rfl (X + 1) L9 rfl rfl 41 Z (Z9.out.alloc _) HSZ9.out HS29.out HO19.out ?_))
      have OUT : RXOut (some ⟨lb, lo, none⟩) S n z w (.returned (.tuple #[.agg L9, .slice none 0 0, .slice (some ⟨W9.heap.size, 0, none⟩) 1 1, .int .i64 11])) ((W9.alloc (.cells #[.int .u8 (160 + (i : Int))] 5)).setRow (X + 1) L9) := by
        rw [HL9.out]
        exact RXOut.check HE11.out HI.out.symm (Nat.le_refl _) (Blk.one_row ((Blk.new W9 5 #[.int .u8 (160 + (i : Int))]).farRow (by omega)) (by rw [size_setRow]; simp)) (belowRow (below_new B9.out _) HBX.out _) (fresh_some B9.out.size)
      exact bodyPost_ret (results_cell_four (g := X + 1) (t := 41) (fr := (0, 0)) Try.results38 _ _ L9 _ rfl ((Z9.out.alloc _).setRow (ds := L9)) Try.underlying41 rfl HSZ9.out _ _ _ rfl rfl rfl) rfl OUT
  obtain ⟨hvt, hge⟩ := hck
  subst hvt
  have HE0 := Lib.hid (show xErr S n z = 0 from by rw [HE3.out, if_pos ⟨rfl, hge⟩])
  have hge1 : (x1 != (c.gen + 1) % 256) = false := by simpa using hge
  clear hge
  have ot := HCO.out.time
  have oi := HCO.out.ident
  have hx2b : (x2 == 0) = false := by simpa using hx2p
  have d3 := HZ.out 3 (by omega)
  have d4 := HZ.out 4 (by omega)
  have d5 := HZ.out 5 (by omega)
  have g2 : W4.cell? ⟨lb, lo + 2, none⟩ = some (.int .u8 x2) := by rw [HX2.out]; exact HR4.out.at_ 2 (by omega)
  obtain ⟨x3, hx3⟩ : ∃ x, x = z 3 := ⟨_, rfl⟩
  obtain ⟨x4, hx4⟩ : ∃ x, x = z 4 := ⟨_, rfl⟩
  obtain ⟨x5, hx5⟩ : ∃ x, x = z 5 := ⟨_, rfl⟩
  rw [← hx3] at d3
  rw [← hx4] at d4
  rw [← hx5] at d5
  have HX3 := Lib.hid hx3
  have HX4 := Lib.hid hx4
  have HX5 := Lib.hid hx5
  obtain ⟨I, hI⟩ : ∃ I, I = (c.ident + x2) % 65536 := ⟨_, rfl⟩
  obtain ⟨t, ht⟩ : ∃ t, t = 256 * x3 + x4 := ⟨_, rfl⟩
  have t0 : 0 ≤ t ∧ t < 65536 := by omega
  obtain ⟨T, hT⟩ : ∃ T, T = (c.time + t) % 16777216 := ⟨_, rfl⟩
  have wi2 : IntKind.i64.wrap (c.ident + x2) = c.ident + x2 := IntWalk.i64_in _ (by omega)
  have ti2 : (c.ident + x2).tmod 65536 = I := by rw [hI]; exact Int.tmod_eq_emod_of_nonneg (by omega)
  have wi3 : IntKind.i64.wrap I = I := IntWalk.i64_in _ (by omega)
  have wm3 : IntKind.i64.wrap (256 * x3) = 256 * x3 := IntWalk.i64_in _ (by omega)
  have wa3 : IntKind.i64.wrap (256 * x3 + x4) = t := by rw [← ht]; exact IntWalk.i64_in _ (by omega)
  have wx3 : IntKind.i64.wrap x3 = x3 := IntWalk.i64_in _ (by omega)
  have wx4 : IntKind.i64.wrap x4 = x4 := IntWalk.i64_in _ (by omega)
  have wx5 : IntKind.i64.wrap x5 = x5 := IntWalk.i64_in _ (by omega)
  have wt2 : IntKind.i64.wrap (c.time + t) = c.time + t := IntWalk.i64_in _ (by omega)
  have tt2 : (c.time + t).tmod 16777216 = T := by rw [hT]; exact Int.tmod_eq_emod_of_nonneg (by omega)
  have wt3 : IntKind.i64.wrap T = T := IntWalk.i64_in _ (by omega)
  have q0' : 0 ≤ t / x2 := Int.ediv_nonneg t0.1 (by omega)
  have q1' : t / x2 ≤ t := Int.ediv_le_self _ t0.1
  have tq : t.tdiv x2 = t / x2 := Int.tdiv_eq_ediv_of_nonneg t0.1
  have twq : IntKind.i64.wrap (t / x2) = t / x2 := IntWalk.i64_in _ (by omega)
  have i3' : (3 : Int) < (n : Int) := by omega
  have i4' : (4 : Int) < (n : Int) := by omega
  have i5' : (5 : Int) < (n : Int) := by omega
  have bI : 0 ≤ I ∧ I < 65536 := by omega
  have bT : 0 ≤ T ∧ T < 16777216 := by omega
  have HI' := Lib.hid hI
  have HT' := Lib.hid ht
  have HTT := Lib.hid hT
  clear hx3 hx4 hx5 hI ht hT
  go_upto_region 36 with (fail)
  obtain ⟨H6, hH6⟩ : ∃ H6, H6 = W4.heap.size := ⟨_, rfl⟩
  refine wp_world (fun W => Blk W H6 36 #[.int .i64 c.f0, .int .i64 c.f1, .int .i64 c.f2, .int .i64 c.f3, .int .i64 c.f4, .int .i64 c.hops, .int .i64 I, .int .i64 c.time, .int .i64 0] ∧ XB W X S ∧ Blk W (X + 1) 41 Z ∧ Below w.heap.size w W) ⟨by rw [hH6]; exact Blk.new W4 _ _, Blk.alloc L4.out _, Z4.out.alloc _, below_new B4.out _⟩ ?_
  rw [← hH6]
  rintro W5 ⟨h5x, l5, z5, b5⟩
  have H5 := Lib.hid h5x
  have L5 := Lib.hid l5
  have Z5 := Lib.hid z5
  have B5 := Lib.hid b5
  have HR5 := Lib.hid (HR.out.next b5)
  have hne6 : H6 ≠ X + 1 := by omega
  have hne7 : H6 ≠ X := by omega
  have hge6 : X + 1 < H6 := by omega
  have y7 : W5.cell? ⟨H6, 7, none⟩ = some (.int .i64 c.time) := h5x.cell 7
  have y5 : W5.cell? ⟨H6, 5, none⟩ = some (.int .i64 c.hops) := h5x.cell 5
  have yf7 := h5x.frozen 7
  have yf5 := h5x.frozen 5
  have g3 : W5.cell? ⟨lb, lo + 3, none⟩ = some (.int .u8 x3) := by rw [HX3.out]; exact HR5.out.at_ 3 (by omega)
  have g4 : W5.cell? ⟨lb, lo + 4, none⟩ = some (.int .u8 x4) := by rw [HX4.out]; exact HR5.out.at_ 4 (by omega)
  have g5 : W5.cell? ⟨lb, lo + 5, none⟩ = some (.int .u8 x5) := by rw [HX5.out]; exact HR5.out.at_ 5 (by omega)
  have hlh : ¬ lb = H6 := by have := HXW.out; omega
  have hlh' : ¬ H6 = lb := fun e => hlh e.symm
  clear h5x l5 z5 b5 g2 q0 q1 q2 q3 q4' q5 q6 q7 q8 q9 q10 q11 hH6
  go_quiet (fail)
  go_upto_region 39 with (fail)
  refine wp_world (fun W => Blk W H6 36 #[.int .i64 c.f0, .int .i64 c.f1, .int .i64 c.f2, .int .i64 c.f3, .int .i64 c.f4, .int .i64 x5, .int .i64 I, .int .i64 T, .int .i64 0] ∧ XB W X S ∧ Blk W (X + 1) 41 Z ∧ Below w.heap.size w W) ⟨?_, ?_, ?_, ?_⟩ ?_
  · exact Blk.set_ (Blk.set_ (Blk.drewN H5.out _) 7 _) 5 _
  · exact Blk.far (Blk.far (Blk.drewN L5.out _) (by show X ≠ H6; omega) _) (by show X ≠ H6; omega) _
  · exact ((Z5.out.drewN _).far (by show X + 1 ≠ H6; omega) _).far (by show X + 1 ≠ H6; omega) _
  · exact ((below_drewN B5.out _).setCell (by show w.heap.size ≤ H6; have := HBX.out; omega) _).setCell (by show w.heap.size ≤ H6; have := HBX.out; omega) _
  rintro W5b ⟨h5y, l5, z5, b5⟩
  have H5b := Lib.hid h5y
  have L5b := Lib.hid l5
  have Z5b := Lib.hid z5
  have B5b := Lib.hid b5
  clear h5y l5 z5 b5 y5 y7 yf5 yf7 g3 g4 g5
  obtain ⟨d', hd'⟩ : ∃ d' : Ec, d' = ⟨x5, I, T, true, c.f0, c.f1, c.f2, c.f3, c.f4, x1, t / x2⟩ := ⟨_, rfl⟩
  have HD' := Lib.hid hd'
  clear hd'
  have hi9x : (Try.prog.info? 36).map (·.size) = some ([.int .i64 c.f0, .int .i64 c.f1, .int .i64 c.f2, .int .i64 c.f3, .int .i64 c.f4, .int .i64 x5, .int .i64 I, .int .i64 T, .int .i64 0] : List Value).length := sizePH
  have hu9x := Try.underlying36
  obtain ⟨w0, hw0⟩ : ∃ w0, w0 = W5b.drew := ⟨_, rfl⟩
  have L0 := Lib.hid (show XB w0 X S from by rw [hw0]; exact Blk.drew L5b.out)
  have Z0 := Lib.hid (show Blk w0 (X + 1) 41 Z from by rw [hw0]; exact Z5b.out.drew)
  have B0 := Lib.hid (show Below w.heap.size w w0 from by rw [hw0]; exact B5b.out.drew)
  have H0 := Lib.hid (show Blk w0 H6 36 ([.int .i64 c.f0, .int .i64 c.f1, .int .i64 c.f2, .int .i64 c.f3, .int .i64 c.f4, .int .i64 x5, .int .i64 I, .int .i64 T, .int .i64 0] : List Value).toArray from by rw [hw0]; exact H5b.out.drew)
  have hrh : w0.rangeAt H6 0 ([.int .i64 c.f0, .int .i64 c.f1, .int .i64 c.f2, .int .i64 c.f3, .int .i64 c.f4, .int .i64 x5, .int .i64 I, .int .i64 T, .int .i64 0] : List Value) := H0.out.range ([.int .i64 c.f0, .int .i64 c.f1, .int .i64 c.f2, .int .i64 c.f3, .int .i64 c.f4, .int .i64 x5, .int .i64 I, .int .i64 T, .int .i64 0] : List Value) rfl
  have hth : w0.there X (i * 12) 12 := XB.midThere L0.out hi16
  refine wp_region_held_drew (S := fun w' => w'.rangeAt H6 0 ([.int .i64 c.f0, .int .i64 c.f1, .int .i64 c.f2, .int .i64 c.f3, .int .i64 c.f4, .int .i64 x5, .int .i64 I, .int .i64 T, .int .i64 0] : List Value) ∧ w'.there X (i * 12) 12) (by kernel_rfl) (by rw [← hw0]; exact ⟨hrh, hth⟩) (fun hHeld => ?_)
  rw [← hw0]
  clear hw0 hHeld
  have hHeld : w0.rangeAt H6 0 ([.int .i64 c.f0, .int .i64 c.f1, .int .i64 c.f2, .int .i64 c.f3, .int .i64 c.f4, .int .i64 x5, .int .i64 I, .int .i64 T, .int .i64 0] : List Value) ∧ w0.there X (i * 12) 12 := ⟨hrh, hth⟩
  refine wpAnyH_take (i := 0) (oi := ⟨some 221, _, _, _, _, _⟩) (v := .int .i64 (i : Int)) rfl (by kernel_rfl) (by kernel_rfl) (by kernel_rfl) (fun _ _ _ h => h) (Or.inl ⟨by rfl, fun W hW => (by rfl)⟩) (by assumption) ?_
  try simp only [Act.put, List.setIfInBounds_toArray, List.set_cons_zero, List.set_cons_succ]
  refine' wpAnyH_take (i := 1) (oi := ⟨some 222, _, _, _, _, _⟩) (v := _) rfl (by kernel_rfl) (by kernel_rfl) (by kernel_rfl) (fun _ _ _ h => h) (yieldsIf_load_mid (by rfl) _ _ rfl H6 0 rfl ([.int .i64 c.f0, .int .i64 c.f1, .int .i64 c.f2, .int .i64 c.f3, .int .i64 c.f4, .int .i64 x5, .int .i64 I, .int .i64 T, .int .i64 0] : List Value) _ (fun w h => h.1) hu9x rfl hi9x) (by assumption) ?_
  try simp only [Act.put, List.setIfInBounds_toArray, List.set_cons_zero, List.set_cons_succ]
  refine wpAnyH_take (i := 2) (oi := ⟨some 223, _, _, _, _, _⟩) (v := .int .i64 x1) rfl (by kernel_rfl) (by kernel_rfl) (by kernel_rfl) (fun _ _ _ h => h) (Or.inl ⟨by rfl, fun W hW => (by rfl)⟩) (by assumption) ?_
  try simp only [Act.put, List.setIfInBounds_toArray, List.set_cons_zero, List.set_cons_succ]
  refine wpAnyH_take (i := 3) (oi := ⟨some 224, _, _, _, _, _⟩) (v := .int .i64 t) rfl (by kernel_rfl) (by kernel_rfl) (by kernel_rfl) (fun _ _ _ h => h) (Or.inl ⟨by rfl, fun W hW => (by rfl)⟩) (by assumption) ?_
  try simp only [Act.put, List.setIfInBounds_toArray, List.set_cons_zero, List.set_cons_succ]
  refine wpAnyH_take (i := 4) (oi := ⟨some 225, _, _, _, _, _⟩) (v := .int .i64 x2) rfl (by kernel_rfl) (by kernel_rfl) (by kernel_rfl) (fun _ _ _ h => h) (Or.inl ⟨by rfl, fun W hW => (by rfl)⟩) (by assumption) ?_
  try simp only [Act.put, List.setIfInBounds_toArray, List.set_cons_zero, List.set_cons_succ]
  refine wpAnyH_take (i := 5) (oi := ⟨some 226, _, _, _, _, _⟩) (v := .int .i64 (t / x2)) rfl (by kernel_rfl) (by kernel_rfl) (by kernel_rfl) (fun _ _ _ h => h) (Or.inl ⟨by rfl, fun W hW => (by go_simp)⟩) (by assumption) ?_
  try simp only [Act.put, List.setIfInBounds_toArray, List.set_cons_zero, List.set_cons_succ]
  refine wpAnyH_take (i := 6) (oi := ⟨some 227, _, _, _, _, _⟩) (v := .agg #[.bool true, .int .i64 c.f0, .int .i64 c.f1, .int .i64 c.f2, .int .i64 c.f3, .int .i64 c.f4, .int .i64 x5, .int .i64 I, .int .i64 T, .int .i64 0, .int .i64 x1, .int .i64 (t / x2)]) rfl (by kernel_rfl) (by kernel_rfl) (by kernel_rfl) (fun _ _ _ h => h) (Or.inl ⟨by rfl, fun W hW => (by go_simp)⟩) (by assumption) ?_
  try simp only [Act.put, List.setIfInBounds_toArray, List.set_cons_zero, List.set_cons_succ]
  refine wpAnyH_take (i := 7) (oi := ⟨some 228, _, _, _, _, _⟩) (v := .pointer (some ⟨X, 0, none⟩)) rfl (by kernel_rfl) (by kernel_rfl) (by kernel_rfl) (fun _ _ _ h => h) (Or.inl ⟨by rfl, fun W hW => (by go_simp)⟩) (by assumption) ?_
  try simp only [Act.put, List.setIfInBounds_toArray, List.set_cons_zero, List.set_cons_succ]
  refine wpAnyH_take (i := 8) (oi := ⟨some 229, _, _, _, _, _⟩) (v := .pointer (some ⟨X, i * 12, none⟩)) rfl (by kernel_rfl) (by kernel_rfl) (by kernel_rfl) (fun _ _ _ h => h) (Or.inl ⟨by rfl, fun W hW => (by go_simp)⟩) (by assumption) ?_
  try simp only [Act.put, List.setIfInBounds_toArray, List.set_cons_zero, List.set_cons_succ]
  refine wpAnyH_ready (rs := [9]) (by kernel_rfl) (by simp) ?_
  refine AllReadyH.cons (o := ⟨none, _, _, _, _, _⟩) rfl (fun K hK => ?_) AllReadyH.nil
  rw [if_pos (by rfl)]
  refine wp_store_mid _ _ _ rfl X (i * 12) #[.bool true, .int .i64 c.f0, .int .i64 c.f1, .int .i64 c.f2, .int .i64 c.f3, .int .i64 c.f4, .int .i64 x5, .int .i64 I, .int .i64 T, .int .i64 0, .int .i64 x1, .int .i64 (t / x2)] rfl rfl hth sizeXc (rcells_one ⟨x5, I, T, true, c.f0, c.f1, c.f2, c.f3, c.f4, x1, t / x2⟩) ?_
  refine hK.out _ _ ⟨World.rangeAt_setCells_apart hrh _ _ _ (by omega), World.there_setCells hth _ _ _⟩ (fun hHeld => ?_)
  clear hK K
  simp only [Act.put]
  refine wpAnyH_done (by kernel_rfl) ?_ _
  refine then_world (fun W => Blk W H6 36 #[.int .i64 c.f0, .int .i64 c.f1, .int .i64 c.f2, .int .i64 c.f3, .int .i64 c.f4, .int .i64 x5, .int .i64 I, .int .i64 T, .int .i64 0] ∧ XB W X (updE S i d') ∧ Blk W (X + 1) 41 Z ∧ Below w.heap.size w W) ⟨H0.out.farCells hne7 _ _, by rw [HD'.out]; exact XB.put L0.out hi16 ⟨x5, I, T, true, c.f0, c.f1, c.f2, c.f3, c.f4, x1, t / x2⟩, Z0.out.farCells (by omega) _ _, below_setCells B0.out HBX0.out B0.out.size _ _⟩ ?_
  rintro W6 ⟨h6, l6, z6, b6⟩
  obtain ⟨L9, hL9⟩ : ∃ L9, L9 = rxArr (updE S i d') := ⟨_, rfl⟩
  have L6 := Lib.hid (show Blk W6 X 41 L9 from by rw [hL9]; exact l6)
  have Z6 := Lib.hid z6
  have B6 := Lib.hid b6
  have H6B := Lib.hid h6
  have HL9 := Lib.hid hL9
  clear h6 l6 z6 b6 hL9 L0 Z0 B0 H0 hrh hth hHeld hi9x hu9x
  go_wp2
  have DOK := Lib.hid (deltaC_ok c z HCO.out (HZ.out 1 (by omega)) (by rw [← HX2.out]; omega) (HZ.out 3 (by omega)) (HZ.out 4 (by omega)) (HZ.out 5 (by omega)))
  have HDC : Hid (deltaC c z = d') := Lib.hid (by rw [HD'.out]; unfold deltaC deT; rw [← HX1.out, ← HX2.out, ← HX3.out, ← HX4.out, ← HX5.out, ← HT'.out, ← HTT.out, ← HI'.out]; rw [show c = { c with valid := true } from by rw [HVV.out]])
  rw [HDC.out] at DOK
  have HBT := Lib.hid (fun W hR => built_ok c.f0 c.f1 c.f2 c.f3 c.f4 x5 I T 0 (hj d' x5 I T) (by rw [HD'.out]; rfl) (some ⟨lb, lo2, none⟩) (n - 6) (cp - 6) (fun j => z (6 + j)) (by omega) (hj_valid d' x5 I T (n - 6) DOK.out d5 bI bT (by omega)) W hR)
  have HYY : Hid (xY S n z = deltaY c n z) := Lib.hid (by unfold xY; rw [if_neg (by rw [show xKind z = 1 from HKK.out]; decide), if_neg (by rw [show xKind z = 1 from HKK.out]; decide), if_pos (show xKind z = 1 from HKK.out), ← HI.out, ← HCC.out])
  have HYE : Hid (deltaY c n z = pktAt (withLen (hj d' x5 I T) (20 + ((n - 6 : Nat) : Int))) (fun j => z (6 + j))) := Lib.hid (by unfold deltaY; rw [HDC.out, HD'.out])
  unfold POut at HBT
  rw [← HYE.out] at HBT
  obtain ⟨Y9, hY9⟩ : ∃ Y, Y = deltaY c n z := ⟨_, rfl⟩
  rw [← hY9] at HBT HYY
  obtain ⟨N9, hN9⟩ : ∃ N, N = 20 + (n - 6) := ⟨_, rfl⟩
  rw [← hN9] at HBT
  have E1 : Hid (xLen S n z = N9) := Lib.hid (by unfold xLen; rw [HE0.out, if_neg (by decide), if_neg (by rw [show xKind z = 1 from HKK.out]; decide), if_neg (by rw [show xKind z = 1 from HKK.out]; decide), if_pos (show xKind z = 1 from HKK.out), hN9])
  have E3 : Hid (xS S n z = updE S i d') := Lib.hid (by unfold xS; rw [HE0.out, if_neg (by decide), if_neg (by decide), if_neg (by rw [show xKind z = 1 from HKK.out]; decide), if_pos (show xKind z = 1 from HKK.out), ← HI.out, ← HCC.out, HDC.out])
  clear hY9 hN9
  have hu := Try.underlying41
  have hu9 := Try.underlying36
  have hi9 : (Try.prog.info? 36).map (·.size) = some ([.int .i64 c.f0, .int .i64 c.f1, .int .i64 c.f2, .int .i64 c.f3, .int .i64 c.f4, .int .i64 x5, .int .i64 I, .int .i64 T, .int .i64 0] : List Value).length := sizePH
  have hl192 : L9.size = 192 := by rw [HL9.out, rxArr_size]
  have hiz : (Try.prog.info? 41).map (·.size) = some L9.toList.length := by rw [Array.length_toList, hl192]; exact sizeXp
  have hiz2 : (Try.prog.info? 41).map (·.size) = some L9.size := by rw [hl192]; exact sizeXp
  have ho1 : L9.all (·.oneCell') = true := by rw [HL9.out]; exact rxp_one _
  obtain ⟨w0, hw0⟩ : ∃ w0, w0 = W6.drew := ⟨_, rfl⟩
  have L0 := Lib.hid (show Blk w0 X 41 L9 from by rw [hw0]; exact L6.out.drew)
  have Z0 := Lib.hid (show Blk w0 (X + 1) 41 Z from by rw [hw0]; exact Z6.out.drew)
  have B0 := Lib.hid (show Below w.heap.size w w0 from by rw [hw0]; exact B6.out.drew)
  have H0 := Lib.hid (show Blk w0 H6 36 ([.int .i64 c.f0, .int .i64 c.f1, .int .i64 c.f2, .int .i64 c.f3, .int .i64 c.f4, .int .i64 x5, .int .i64 I, .int .i64 T, .int .i64 0] : List Value).toArray from by rw [hw0]; exact H6B.out.drew)
  have hra : w0.rangeAt X 0 L9.toList := L0.out.range L9.toList (by simp)
  have hrh : w0.rangeAt H6 0 ([.int .i64 c.f0, .int .i64 c.f1, .int .i64 c.f2, .int .i64 c.f3, .int .i64 c.f4, .int .i64 x5, .int .i64 I, .int .i64 T, .int .i64 0] : List Value) := H0.out.range ([.int .i64 c.f0, .int .i64 c.f1, .int .i64 c.f2, .int .i64 c.f3, .int .i64 c.f4, .int .i64 x5, .int .i64 I, .int .i64 T, .int .i64 0] : List Value) rfl
  have hth : w0.there (X + 1) 0 192 := Z0.out.there 192 (by rw [HS2.out, HLL.out, rxArr_size]; exact Nat.le_refl _)
  have R0 := Lib.hid (HR.out.next B0.out)
  refine wp_region_held_drew (S := fun w' => w'.rangeAt X 0 L9.toList ∧ w'.there (X + 1) 0 192 ∧ w'.rangeAt H6 0 ([.int .i64 c.f0, .int .i64 c.f1, .int .i64 c.f2, .int .i64 c.f3, .int .i64 c.f4, .int .i64 x5, .int .i64 I, .int .i64 T, .int .i64 0] : List Value)) (by kernel_rfl) (by rw [← hw0]; exact ⟨hra, hth, hrh⟩) (fun hHeld => ?_)
  rw [← hw0]
  clear hw0 hHeld
  have hHeld : w0.rangeAt X 0 L9.toList ∧ w0.there (X + 1) 0 192 ∧ w0.rangeAt H6 0 ([.int .i64 c.f0, .int .i64 c.f1, .int .i64 c.f2, .int .i64 c.f3, .int .i64 c.f4, .int .i64 x5, .int .i64 I, .int .i64 T, .int .i64 0] : List Value) := ⟨hra, hth, hrh⟩
  refine' wpAnyH_take (i := 0) (oi := ⟨some 230, _, _, _, _, _⟩) (v := _) rfl (by kernel_rfl) (by kernel_rfl) (by kernel_rfl) (fun _ _ _ h => h) (yieldsIf_load_mid (by rfl) _ _ rfl X 0 rfl L9.toList _ (fun w h => h.1) hu rfl hiz) (by assumption) ?_
  simp only [Act.put, List.setIfInBounds_toArray, List.set_cons_zero, List.set_cons_succ, Array.toArray_toList]
  refine' wpAnyH_take (i := 1) (oi := ⟨some 231, _, _, _, _, _⟩) (v := _) rfl (by kernel_rfl) (by kernel_rfl) (by kernel_rfl) (fun _ _ _ h => h) (yieldsIf_load_mid (by rfl) _ _ rfl H6 0 rfl ([.int .i64 c.f0, .int .i64 c.f1, .int .i64 c.f2, .int .i64 c.f3, .int .i64 c.f4, .int .i64 x5, .int .i64 I, .int .i64 T, .int .i64 0] : List Value) _ (fun w h => h.2.2) hu9 rfl hi9) (by assumption) ?_
  simp only [Act.put, List.setIfInBounds_toArray, List.set_cons_zero, List.set_cons_succ]
  refine wpAnyH_take (i := 2) (oi := ⟨some 232, _, _, _, _, _⟩) (v := .slice (some ⟨lb, lo2, none⟩) (n - 6) (cp - 6)) rfl (by kernel_rfl) (by kernel_rfl) (by kernel_rfl) (fun _ _ _ h => h) (Or.inl ⟨by rfl, fun W _ => by rfl⟩) (by assumption) ?_
  simp only [Act.put, List.setIfInBounds_toArray, List.set_cons_zero, List.set_cons_succ]
  refine wpAnyH_ready (rs := [3]) (by kernel_rfl) (by simp) ?_
  refine AllReadyH.cons (o := ⟨some 233, _, _, _, _, _⟩) rfl (fun K hK => ?_) AllReadyH.nil
  rw [if_pos (by rfl)]
  go_simp
  refine (HBT.out w0 (row_from R0.out HLO.out)).mono ?_
  rintro e w7 ⟨B, d, rfl, hd, _, hR7, b7⟩
  dsimp only
  have L7 := Lib.hid (L0.out.below b7 L0.out.lt)
  have Z7 := Lib.hid (Z0.out.below b7 Z0.out.lt)
  have H7 := Lib.hid (H0.out.below b7 H0.out.lt)
  have B7 := Lib.hid (below_step B0.out b7)
  have R7 := Lib.hid hR7
  have D7 := Lib.hid hd
  have F7 := Lib.hid (show ∀ a, B = some a → w0.heap.size ≤ a.block from by assumption)
  have hra7 : w7.rangeAt X 0 L9.toList := L7.out.range L9.toList (by simp)
  have hrh7 : w7.rangeAt H6 0 ([.int .i64 c.f0, .int .i64 c.f1, .int .i64 c.f2, .int .i64 c.f3, .int .i64 c.f4, .int .i64 x5, .int .i64 I, .int .i64 T, .int .i64 0] : List Value) := H7.out.range ([.int .i64 c.f0, .int .i64 c.f1, .int .i64 c.f2, .int .i64 c.f3, .int .i64 c.f4, .int .i64 x5, .int .i64 I, .int .i64 T, .int .i64 0] : List Value) rfl
  have hth7 : w7.there (X + 1) 0 192 := Z7.out.there 192 (by rw [HS2.out, HLL.out, rxArr_size]; exact Nat.le_refl _)
  refine hK.out _ _ ⟨hra7, hth7, hrh7⟩ (fun hHeld => ?_)
  clear hK K b7 hR7 hd
  try simp only [Act.put, List.setIfInBounds_toArray, List.set_cons_zero, List.set_cons_succ]
  refine wpAnyH_ready (rs := [4]) (by kernel_rfl) (by simp) ?_
  refine AllReadyH.cons (o := ⟨none, _, _, _, _, _⟩) rfl (fun K hK => ?_) AllReadyH.nil
  rw [if_pos (by rfl)]
  refine wp_store_mid _ _ _ rfl (X + 1) 0 L9 rfl rfl (by rw [hl192]; exact hth7) hiz2 ho1 ?_
  refine hK.out _ _ ⟨World.rangeAt_setCells_apart hra7 _ _ _ (by omega), World.there_setCells hth7 _ _ _, World.rangeAt_setCells_apart hrh7 _ _ _ (by omega)⟩ (fun hHeld => ?_)
  clear hK K
  simp only [Act.put]
  refine wpAnyH_take (i := 5) (oi := ⟨some 5, _, _, _, _, _⟩) (v := .slice B N9 d) rfl (by kernel_rfl) (by kernel_rfl) (by kernel_rfl) (fun _ _ _ h => h) (Or.inl ⟨by rfl, fun W _ => by rfl⟩) (by assumption) ?_
  simp only [Act.put, List.setIfInBounds_toArray, List.set_cons_zero, List.set_cons_succ]
  refine wpAnyH_take (i := 6) (oi := ⟨some 6, _, _, _, _, _⟩) (v := .slice none 0 0) rfl (by kernel_rfl) (by kernel_rfl) (by kernel_rfl) (fun _ _ _ h => h) (Or.inl ⟨by rfl, fun W _ => by rfl⟩) (by assumption) ?_
  simp only [Act.put, List.setIfInBounds_toArray, List.set_cons_zero, List.set_cons_succ]
  refine wpAnyH_take (i := 7) (oi := ⟨some 7, _, _, _, _, _⟩) (v := .int .i64 0) rfl (by kernel_rfl) (by kernel_rfl) (by kernel_rfl) (fun _ _ _ h => h) (Or.inl ⟨by rfl, fun W _ => by rfl⟩) (by assumption) ?_
  simp only [Act.put, List.setIfInBounds_toArray, List.set_cons_zero, List.set_cons_succ]
  refine wpAnyH_done (by kernel_rfl) ?_ _
  go_wp2
  have ZF := Lib.hid (show Blk (w7.setCells (X + 1) 0 L9.toList) (X + 1) 41 L9 from by have := Blk.setWhole Z7.out L9.toList (by rw [Array.length_toList, hl192, HS2.out, HLL.out, rxArr_size]); rwa [Array.toArray_toList] at this)
  have BF := Lib.hid (show Below w.heap.size w (w7.setCells (X + 1) 0 L9.toList) from below_setCells B7.out HBX.out B7.out.size _ _)
  have RWX := Lib.hid (show Row (w7.setCells (X + 1) 0 L9.toList) (w7.setCells (X + 1) 0 L9.toList).heap.size B N9 (fun j => .int .u8 (Y9 j)) from (Keep1.row (g := X + 1) (grownBy_setCells (X + 1) _ _ _) R7.out (Nat.le_refl _) (fun a e => by have := F7.out a e; have := Z0.out.lt; omega)).more (by rw [size_setCells]; exact Nat.le_refl _))
  obtain ⟨WF, hWF⟩ : ∃ WF, WF = w7.setCells (X + 1) 0 L9.toList := ⟨_, rfl⟩
  rw [← hWF] at ZF BF RWX ⊢
  have OUT : RXOut (some ⟨lb, lo, none⟩) S n z w (.returned (.tuple #[.agg L9, .slice B N9 d, .slice none 0 0, .int .i64 0])) WF := by
    rw [HL9.out]
    exact RXOut.good (m := N9) (y := Y9) (S' := updE S i d') HE0.out E1.out D7.out HYY.out RWX.out E3.out BF.out (fun a e => .inl (by have := F7.out a e; have := Z0.out.lt; have := HBX.out; omega))
  exact bodyPost_ret (results_cell_four (g := X + 1) (t := 41) (fr := (0, 0)) Try.results38 _ _ L9 _ rfl ZF.out Try.underlying41 rfl hiz2 _ _ _ rfl rfl rfl) rfl OUT


set_option maxRecDepth 100000 in
set_option maxHeartbeats 1600000 in
theorem rx_compact (S : Nat → Ec) (A : Option Addr) (n cp : Nat) (z : Nat → Int) (w : World) (hn : 0 < n) (hnc : n ≤ cp) (hm : n ≤ maxLen) (hz : ∀ j, j < n → 0 ≤ z j ∧ z j < 256) (hok : ∀ i, i < 16 → (S i).Ok) (hk : z 0 / 64 = 2) (hr : Row w w.heap.size A n (fun j => .int .u8 (z j))) :
    Calls Try.prog 38 #[.agg (rxArr S), .slice A n cp] w (RXOut A S n z w) := by
  have hz' := zeroXp
  obtain ⟨L, hL⟩ : ∃ L, L = rxArr S := ⟨_, rfl⟩
  obtain ⟨Z, hZ⟩ : ∃ Z, Z = rxArr (fun _ => Ec.zero) := ⟨_, rfl⟩
  have HSZ : Hid ((Try.prog.info? 41).map (·.size) = some L.size) := Lib.hid (by rw [hL, rxArr_size]; exact sizeXp)
  have HS2 : Hid (Z.size = L.size) := Lib.hid (by rw [hL, hZ, rxArr_size, rxArr_size])
  have HO1 : Hid (L.all (·.oneCell') = true) := Lib.hid (by rw [hL]; exact rxp_one S)
  have HLL := Lib.hid hL
  obtain ⟨X, hX⟩ : ∃ X, X = w.heap.size := ⟨_, rfl⟩
  have HXW := Lib.hid hX
  rw [← hZ] at hz'
  rw [← hL]
  unfold maxLen at hm
  obtain ⟨lb, lo, rfl, hlb, hc⟩ := hr (by omega)
  have c0 : w.cell? ⟨lb, lo, none⟩ = some (.int .u8 (z 0)) := hc 0 hn
  have b0 := hz 0 hn
  have hn0 : ((n : Int) == 0) = false := by simp; omega
  have hp0 : (0 : Int) < (n : Int) := by omega
  obtain ⟨i, hi⟩ : ∃ i, i = xAt z := ⟨_, rfl⟩
  have hi16 : i < 16 := by rw [hi]; unfold xAt; omega
  obtain ⟨r, hrr⟩ : ∃ r, r = z 0 % 4 := ⟨_, rfl⟩
  have HR := Lib.hid hr
  have HZ := Lib.hid hz
  have HOK := Lib.hid hok
  have hiz : (z 0 / 4) % 16 = (i : Int) := by rw [hi]; unfold xAt; omega
  have HI := Lib.hid hi
  have HRR := Lib.hid hrr
  have HKK := Lib.hid hk
  obtain ⟨x0, hx0⟩ : ∃ x, x = z 0 := ⟨_, rfl⟩
  rw [← hx0] at c0 b0 hiz hrr hk
  obtain ⟨y4, hy4⟩ : ∃ y, y = x0 / 4 := ⟨_, rfl⟩
  rw [← hy4] at hiz
  have xw : IntKind.i64.wrap x0 = x0 := IntWalk.i64_in _ (by omega)
  have q64 : x0.tdiv 64 = 2 := by rw [Int.tdiv_eq_ediv_of_nonneg b0.1, hk]
  have q4 : x0.tdiv 4 = y4 := by rw [Int.tdiv_eq_ediv_of_nonneg b0.1, hy4]
  have m16 : y4.tmod 16 = (i : Int) := by rw [Int.tmod_eq_emod_of_nonneg (by omega), hiz]
  have wy : IntKind.i64.wrap y4 = y4 := IntWalk.i64_in _ (by omega)
  have wi : IntKind.i64.wrap (i : Int) = (i : Int) := IntWalk.i64_in _ (by omega)
  have wk : IntKind.i64.wrap 2 = 2 := IntWalk.i64_in _ (by omega)
  have m4 : x0.tmod 4 = r := by rw [Int.tmod_eq_emod_of_nonneg b0.1, hrr]
  have wr : IntKind.u8.wrap r = r := by rw [IntKind.wrap_u8]; omega
  have i0 : (0 : Int) ≤ (i : Int) := by omega
  have i1 : (i : Int) < 16 := by omega
  have xu : IntKind.u8.wrap x0 = x0 := by rw [IntKind.wrap_u8]; omega
  have r0' : 0 ≤ r ∧ r < 4 := by omega
  clear hr hc hz hok hi hiz hrr hk hx0 hy4 b0
  clear hL hZ
  go_enter Try.func38, Try.ntmps38
  go_upto_region 1 with (fail)
  refine wp_world (fun W => Blk W X 41 L ∧ Blk W (X + 1) 41 Z ∧ Below w.heap.size w W ∧ W.heap.size = X + 2) ⟨by rw [hX]; exact (Blk.new _ _ _).alloc _, by rw [hX]; exact blk_new_at _ _ _ _ (by simp), ((Below.refl _ w).alloc (Nat.le_refl _) _).alloc (by simp) _, by rw [hX]; simp⟩ ?_
  rw [← hX]
  rintro W1 ⟨l1, z1, b1, s1⟩
  have L1 := Lib.hid l1
  have Z1 := Lib.hid z1
  have B1 := Lib.hid (show Below w.heap.size w W1 from by rw [← hX]; exact b1)
  clear l1 z1 b1 hX
  have c0' := (B1.out.cell (p := ⟨lb, lo, none⟩) hlb).trans c0
  clear c0
  go_wp2
  go_quiet (fail)
  refine then_world (fun W => Blk W X 41 L ∧ Blk W (X + 1) 41 Z ∧ Below w.heap.size w W ∧ W.heap.size = X + 2) ⟨Blk.drewN L1.out _, Blk.drewN Z1.out _, below_drewN B1.out _, s1⟩ ?_
  rintro W2 ⟨l2, z2, b2, s2⟩
  have L2 := Lib.hid l2
  have Z2 := Lib.hid z2
  have B2 := Lib.hid b2
  have c0'' := (B2.out.cell (p := ⟨lb, lo, none⟩) hlb).trans ((B1.out.cell (p := ⟨lb, lo, none⟩) hlb).symm.trans c0')
  clear l2 z2 b2 s1 c0'
  by_cases hr0 : r = 0
  rotate_left
  · have h1 : (r != 0) = true := by simpa using hr0
    have HE := Lib.hid (xErr_form S hn (n := n) (z := z) (.inl (by rw [← HRR.out]; exact hr0)))
    clear hr0
    go_wp2_with (first
      | (refine wpList_load_row rfl _ _ rfl X rfl 41 L (0, 0) _ L2.out Try.underlying41 rfl HSZ.out ?_)
      | (refine wpList_store_row rfl _ _ _ rfl (X + 1) L rfl rfl 41 Z Z2.out HSZ.out HS2.out HO1.out ?_))
    refine bodyPost_ret (v := .tuple #[.agg L, .slice none 0 0, .slice none 0 0, .int .i64 9]) (results_cell_four (g := X + 1) (t := 41) (fr := (0, 0)) Try.results38 _ _ L _ rfl (Blk.setRow (Z2.out)) Try.underlying41 rfl HSZ.out _ _ _ rfl rfl rfl) rfl (by rw [HLL.out]; exact RXOut.bad (belowRow B2.out (by have := HXW.out; omega) _) HE.out (by decide) (by decide))
  have HNF : Hid (¬ (z 0 % 4 ≠ 0 ∨ (xKind z = 3 ∧ xAt z ≠ 0))) := Lib.hid (by rw [← HRR.out]; simp [hr0, show xKind z = 2 from HKK.out])
  have h1 : (r != 0) = false := by simpa using hr0
  clear hr0
  by_cases hsh : n < 3
  · have h3 : (n : Int) < 3 := by omega
    have HE := Lib.hid (xErr_short S hn HNF.out (n := n) (z := z) (by rw [show xKind z = 2 from HKK.out]; exact hsh))
    clear hsh
    go_wp2_with (first
      | (refine wpList_load_row rfl _ _ rfl X rfl 41 L (0, 0) _ (L2.out.alloc _) Try.underlying41 rfl HSZ.out ?_)
      | (refine wpList_store_row rfl _ _ _ rfl (X + 1) L rfl rfl 41 Z (Z2.out.alloc _) HSZ.out HS2.out HO1.out ?_))
    refine bodyPost_ret (v := .tuple #[.agg L, .slice none 0 0, .slice none 0 0, .int .i64 5]) (results_cell_four (g := X + 1) (t := 41) (fr := (0, 0)) Try.results38 _ _ L _ rfl (Blk.setRow ((Z2.out.alloc _))) Try.underlying41 rfl HSZ.out _ _ _ rfl rfl rfl) rfl (by rw [HLL.out]; exact RXOut.bad (belowRow (below_new B2.out _) (by have := HXW.out; omega) _) HE.out (by decide) (by decide))
  have h3 : ¬ (n : Int) < 3 := by omega
  have HE := Lib.hid (xErr_rest S hn HNF.out (n := n) (z := z) (by rw [show xKind z = 2 from HKK.out]; exact hsh))
  rw [show xKind z = 2 from HKK.out] at HE
  have HRW := Lib.hid (show Row W2 W2.heap.size (some ⟨lb, lo, none⟩) n (fun j => .int .u8 (z j)) from HR.out.next B2.out)
  rw [if_neg (by decide), if_neg (by decide), ← HI.out] at HE
  obtain ⟨lo2, hsl, hlo⟩ := slice_from lb lo n cp 3 3 rfl (by omega) hnc
  have HLO := Lib.hid hlo
  clear hlo
  have HBX := Lib.hid (show w.heap.size ≤ X + 1 from (by have := HXW.out; omega))
  have HBX0 := Lib.hid (show w.heap.size ≤ X from (by have := HXW.out; omega))
  go_upto_region 13 with (fail)
  refine wp_world (fun W => Blk W X 41 L ∧ Blk W (X + 1) 41 Z ∧ Below w.heap.size w W) ⟨L2.out.alloc _, Z2.out.alloc _, below_new B2.out _⟩ ?_
  rintro W3 ⟨l3, z3, b3⟩
  have L3 := Lib.hid l3
  have Z3 := Lib.hid z3
  have B3 := Lib.hid b3
  have HR3 := Lib.hid (HR.out.next b3)
  obtain ⟨lb', lo', hab, hlb3, hcw⟩ := HR3.out (by omega)
  cases hab
  have g1 : W3.cell? ⟨lb, lo + 1, none⟩ = some (.int .u8 (z 1)) := hcw 1 (by omega)
  have g2 : W3.cell? ⟨lb, lo + 2, none⟩ = some (.int .u8 (z 2)) := hcw 2 (by omega)
  have d1 := HZ.out 1 (by omega)
  have d2 := HZ.out 2 (by omega)
  obtain ⟨x1, hx1⟩ : ∃ x, x = z 1 := ⟨_, rfl⟩
  obtain ⟨x2, hx2⟩ : ∃ x, x = z 2 := ⟨_, rfl⟩
  rw [← hx1] at g1 d1
  rw [← hx2] at g2 d2
  have HX1 := Lib.hid hx1
  have HX2 := Lib.hid hx2
  have i1' : (1 : Int) < (n : Int) := by omega
  have i2' : (2 : Int) < (n : Int) := by omega
  have w1' : IntKind.i64.wrap x1 = x1 := IntWalk.i64_in _ (by omega)
  have w2' : IntKind.i64.wrap x2 = x2 := IntWalk.i64_in _ (by omega)
  clear l3 z3 b3 hcw hx1 hx2 c0''
  obtain ⟨c, hcc⟩ : ∃ c, c = S i := ⟨_, rfl⟩
  have HCO := Lib.hid (show c.Ok from (by rw [hcc]; exact HOK.out i hi16))
  rw [← hcc] at HE
  have HCC := Lib.hid hcc
  clear hcc
  have HE' : Hid (xErr S n z = acErr c n z 3 (c.gen)) := Lib.hid HE.out
  by_cases h2 : x2 = 0
  · have h2' : (x2 == 0) = true := by simpa using h2
    have HE9 := Lib.hid (show xErr S n z = 9 from by rw [HE'.out]; unfold acErr; rw [← HX2.out, if_pos h2])
    clear h2
    go_wp2_with (first
      | (refine wpList_load_row rfl _ _ rfl X rfl 41 L (0, 0) _ L3.out Try.underlying41 rfl HSZ.out ?_)
      | (refine wpList_store_row rfl _ _ _ rfl (X + 1) L rfl rfl 41 Z Z3.out HSZ.out HS2.out HO1.out ?_))
    refine bodyPost_ret (v := .tuple #[.agg L, .slice none 0 0, .slice none 0 0, .int .i64 9]) (results_cell_four (g := X + 1) (t := 41) (fr := (0, 0)) Try.results38 _ _ L _ rfl (Blk.setRow (Z3.out)) Try.underlying41 rfl HSZ.out _ _ _ rfl rfl rfl) rfl (by rw [HLL.out]; exact RXOut.bad (belowRow B3.out HBX.out _) HE9.out (by decide) (by decide))
  have h2' : (x2 == 0) = false := by simpa using h2
  by_cases h9 : 8980 < (n : Int) - ((3 : Nat) : Int)
  · have h4 : (8980 : Int) < ((n - 3 : Nat) : Int) := by omega
    have HE4 := Lib.hid (show xErr S n z = 4 from by rw [HE'.out]; unfold acErr; rw [← HX2.out, if_neg h2, if_pos h9])
    clear h9 h2
    go_wp2_with (first
      | (refine wpList_load_row rfl _ _ rfl X rfl 41 L (0, 0) _ L3.out Try.underlying41 rfl HSZ.out ?_)
      | (refine wpList_store_row rfl _ _ _ rfl (X + 1) L rfl rfl 41 Z Z3.out HSZ.out HS2.out HO1.out ?_))
    refine bodyPost_ret (v := .tuple #[.agg L, .slice none 0 0, .slice none 0 0, .int .i64 4]) (results_cell_four (g := X + 1) (t := 41) (fr := (0, 0)) Try.results38 _ _ L _ rfl (Blk.setRow (Z3.out)) Try.underlying41 rfl HSZ.out _ _ _ rfl rfl rfl) rfl (by rw [HLL.out]; exact RXOut.bad (belowRow B3.out HBX.out _) HE4.out (by decide) (by decide))
  have h4 : ¬ (8980 : Int) < ((n - 3 : Nat) : Int) := by omega
  have HE3 := Lib.hid (show xErr S n z = if c.valid = true ∧ x1 = c.gen then 0 else 11 from by rw [HE'.out]; unfold acErr; rw [← HX2.out, if_neg h2, if_neg h9, ← HX1.out])
  have hn8 : n ≤ 8980 + 3 := by omega
  have hx2p : x2 ≠ 0 := h2
  clear h9 h2
  obtain ⟨v0, v1, v2, v3, v4, v5, v6, v7, v8, v9, v10, v11⟩ := (show XB W3 X S from (by have q := L3.out; rw [HLL.out] at q; exact q)).cells hi16
  rw [← HCC.out] at v0 v1 v2 v3 v4 v5 v6 v7 v8 v10 v11
  have og := HCO.out.gen
  have gt : (c.gen + 1).tmod 256 = (c.gen + 1) % 256 := Int.tmod_eq_emod_of_nonneg (by omega)
  have gw1 : IntKind.i64.wrap (c.gen + 1) = c.gen + 1 := IntWalk.i64_in _ (by omega)
  have gw2 : IntKind.i64.wrap ((c.gen + 1) % 256) = (c.gen + 1) % 256 := IntWalk.i64_in _ (by omega)
  obtain ⟨v, hv⟩ : ∃ v, v = c.valid := ⟨_, rfl⟩
  rw [← hv] at v0 HE3
  have HVV := Lib.hid hv
  clear hv
  go_upto_region 27 with (fail)
  obtain ⟨KB', hKB⟩ : ∃ k, k = W3.heap.size := ⟨_, rfl⟩
  refine wp_world (fun W => Blk W KB' 38 #[.bool v, .int .i64 c.f0, .int .i64 c.f1, .int .i64 c.f2, .int .i64 c.f3, .int .i64 c.f4, .int .i64 c.hops, .int .i64 c.ident, .int .i64 c.time, .int .i64 0, .int .i64 c.gen, .int .i64 c.step] ∧ XB W X S ∧ Blk W (X + 1) 41 Z ∧ Below w.heap.size w W) ⟨by rw [hKB]; exact Blk.new W3 _ _, by have q := L3.out.alloc (.cells #[.bool v, .int .i64 c.f0, .int .i64 c.f1, .int .i64 c.f2, .int .i64 c.f3, .int .i64 c.f4, .int .i64 c.hops, .int .i64 c.ident, .int .i64 c.time, .int .i64 0, .int .i64 c.gen, .int .i64 c.step] 38); rw [HLL.out] at q; exact q, Z3.out.alloc _, below_new B3.out _⟩ ?_
  rw [← hKB]
  rintro W4 ⟨k4, l4, z4, b4⟩
  have K4 := Lib.hid k4
  have L4 := Lib.hid l4
  have Z4 := Lib.hid z4
  have B4 := Lib.hid b4
  have HR4 := Lib.hid (HR.out.next b4)
  have xb1 : X + 1 < W4.heap.size := z4.lt
  have kb1 := k4.lt
  have q0 := k4.cell 0
  have q1 := k4.cell 1
  have q2 := k4.cell 2
  have q3 := k4.cell 3
  have q4' := k4.cell 4
  have q5 := k4.cell 5
  have q6 := k4.cell 6
  have q7 := k4.cell 7
  have q8 := k4.cell 8
  have q9 := k4.cell 9
  have q10 := k4.cell 10
  have q11 := k4.cell 11
  simp at q0 q1 q2 q3 q4' q5 q6 q7 q8 q9 q10 q11
  have HKB := Lib.hid hKB
  have hok3 : IntKind.i64.wrap (160 + (i : Int)) = 160 + (i : Int) := IntWalk.i64_in _ (by omega)
  have hok4 : IntKind.u8.wrap (160 + (i : Int)) = 160 + (i : Int) := by rw [IntKind.wrap_u8]; omega
  clear k4 l4 z4 b4 v0 v1 v2 v3 v4 v5 v6 v7 v8 v9 v10 v11 g1 g2 hKB
  by_cases hck : v = true ∧ x1 = c.gen
  rotate_left
  · have HE11 := Lib.hid (show xErr S n z = 11 from by rw [HE3.out, if_neg hck])
    have hxc : (v = false) ∨ (v = true ∧ (x1 != c.gen) = true) := by
      cases v
      · exact .inl rfl
      · exact .inr ⟨rfl, by simpa using hck⟩
    clear hck
    have hth4 := XB.midThere L4.out hi16
    have HXC := Lib.hid sizeXc
    have HON := Lib.hid (rcells_one Ec.zero)
    rcases hxc with hvf | ⟨hvt, hne⟩
    · subst hvf
      go_upto_region 28 with (fail)
      go_upto_region 29 with (refine wpList_store_mid rfl _ _ _ rfl X (i * 12) #[.bool false, .int .i64 0, .int .i64 0, .int .i64 0, .int .i64 0, .int .i64 0, .int .i64 0, .int .i64 0, .int .i64 0, .int .i64 0, .int .i64 0, .int .i64 0] rfl rfl hth4 HXC.out HON.out ?_)
      refine wp_world (fun W => XB W X (updE S i Ec.zero) ∧ Blk W (X + 1) 41 Z ∧ Below w.heap.size w W) ⟨XB.put L4.out hi16 Ec.zero, Z4.out.farCells (by omega) _ _, below_setCells B4.out HBX0.out B4.out.size _ _⟩ ?_
      rintro W9 ⟨l9, z9, b9⟩
      have L9x := Lib.hid l9
      have Z9 := Lib.hid z9
      have B9 := Lib.hid b9
      have xb9 : X + 1 < W9.heap.size := z9.lt
      obtain ⟨L9, hL9⟩ : ∃ L9, L9 = rxArr (updE S i Ec.zero) := ⟨_, rfl⟩
      unfold XB at L9x
      rw [← hL9] at L9x
      have HSZ9 : Hid ((Try.prog.info? 41).map (·.size) = some L9.size) := Lib.hid (by rw [hL9, rxArr_size]; exact sizeXp)
      have HS29 : Hid (Z.size = L9.size) := Lib.hid (by rw [HS2.out, HLL.out, hL9, rxArr_size, rxArr_size])
      have HO19 : Hid (L9.all (·.oneCell') = true) := Lib.hid (by rw [hL9]; exact rxp_one _)
      have HL9 := Lib.hid hL9
      clear l9 z9 b9 hL9
      go_wp2_with (first
        | (refine wpList_load_row rfl _ _ rfl X rfl 41 L9 (0, 0) _ L9x.out Try.underlying41 rfl HSZ9.out ?_)
        | (refine wpList_store_row rfl _ _ _ rfl (X + 1) L9 rfl rfl 41 Z (Z9.out.alloc _) HSZ9.out HS29.out HO19.out ?_))
      have OUT : RXOut (some ⟨lb, lo, none⟩) S n z w (.returned (.tuple #[.agg L9, .slice none 0 0, .slice (some ⟨W9.heap.size, 0, none⟩) 1 1, .int .i64 11])) ((W9.alloc (.cells #[.int .u8 (160 + (i : Int))] 5)).setRow (X + 1) L9) := by
        rw [HL9.out]
        exact RXOut.check HE11.out HI.out.symm (Nat.le_refl _) (Blk.one_row ((Blk.new W9 5 #[.int .u8 (160 + (i : Int))]).farRow (by omega)) (by rw [size_setRow]; simp)) (belowRow (below_new B9.out _) HBX.out _) (fresh_some B9.out.size)
      exact bodyPost_ret (results_cell_four (g := X + 1) (t := 41) (fr := (0, 0)) Try.results38 _ _ L9 _ rfl ((Z9.out.alloc _).setRow (ds := L9)) Try.underlying41 rfl HSZ9.out _ _ _ rfl rfl rfl) rfl OUT
    · subst hvt
      go_upto_region 28 with (fail)
      go_upto_region 29 with (refine wpList_store_mid rfl _ _ _ rfl X (i * 12) #[.bool false, .int .i64 0, .int .i64 0, .int .i64 0, .int .i64 0, .int .i64 0, .int .i64 0, .int .i64 0, .int .i64 0, .int .i64 0, .int .i64 0, .int .i64 0] rfl rfl hth4 HXC.out HON.out ?_)
      refine wp_world (fun W => XB W X (updE S i Ec.zero) ∧ Blk W (X + 1) 41 Z ∧ Below w.heap.size w W) ⟨XB.put L4.out hi16 Ec.zero, Z4.out.farCells (by omega) _ _, below_setCells B4.out HBX0.out B4.out.size _ _⟩ ?_
      rintro W9 ⟨l9, z9, b9⟩
      have L9x := Lib.hid l9
      have Z9 := Lib.hid z9
      have B9 := Lib.hid b9
      have xb9 : X + 1 < W9.heap.size := z9.lt
      obtain ⟨L9, hL9⟩ : ∃ L9, L9 = rxArr (updE S i Ec.zero) := ⟨_, rfl⟩
      unfold XB at L9x
      rw [← hL9] at L9x
      have HSZ9 : Hid ((Try.prog.info? 41).map (·.size) = some L9.size) := Lib.hid (by rw [hL9, rxArr_size]; exact sizeXp)
      have HS29 : Hid (Z.size = L9.size) := Lib.hid (by rw [HS2.out, HLL.out, hL9, rxArr_size, rxArr_size])
      have HO19 : Hid (L9.all (·.oneCell') = true) := Lib.hid (by rw [hL9]; exact rxp_one _)
      have HL9 := Lib.hid hL9
      clear l9 z9 b9 hL9
      go_wp2_with (first
        | (refine wpList_load_row rfl _ _ rfl X rfl 41 L9 (0, 0) _ L9x.out Try.underlying41 rfl HSZ9.out ?_)
        | (refine wpList_store_row rfl _ _ _ rfl (X + 1) L9 rfl rfl 41 Z (Z9.out.alloc _) HSZ9.out HS29.out HO19.out ?_))
      have OUT : RXOut (some ⟨lb, lo, none⟩) S n z w (.returned (.tuple #[.agg L9, .slice none 0 0, .slice (some ⟨W9.heap.size, 0, none⟩) 1 1, .int .i64 11])) ((W9.alloc (.cells #[.int .u8 (160 + (i : Int))] 5)).setRow (X + 1) L9) := by
        rw [HL9.out]
        exact RXOut.check HE11.out HI.out.symm (Nat.le_refl _) (Blk.one_row ((Blk.new W9 5 #[.int .u8 (160 + (i : Int))]).farRow (by omega)) (by rw [size_setRow]; simp)) (belowRow (below_new B9.out _) HBX.out _) (fresh_some B9.out.size)
      exact bodyPost_ret (results_cell_four (g := X + 1) (t := 41) (fr := (0, 0)) Try.results38 _ _ L9 _ rfl ((Z9.out.alloc _).setRow (ds := L9)) Try.underlying41 rfl HSZ9.out _ _ _ rfl rfl rfl) rfl OUT
  obtain ⟨hvt, hge⟩ := hck
  subst hvt
  have HE0 := Lib.hid (show xErr S n z = 0 from by rw [HE3.out, if_pos ⟨rfl, hge⟩])
  have hge1 : (x1 != c.gen) = false := by simpa using hge
  clear hge
  have ot := HCO.out.time
  have oi := HCO.out.ident
  have os := HCO.out.step
  have p0 : 0 ≤ c.step * x2 := Int.mul_nonneg os.1 d2.1
  have p1 : c.step * x2 ≤ 65536 * 256 := Int.mul_le_mul (by omega) (by omega) d2.1 (by decide)
  obtain ⟨p, hp⟩ : ∃ p, p = c.step * x2 := ⟨_, rfl⟩
  rw [← hp] at p0 p1
  have kw : IntKind.i64.wrap (c.step * x2) = p := by rw [← hp]; exact IntWalk.i64_in _ (by omega)
  have wi2 : IntKind.i64.wrap (c.ident + x2) = c.ident + x2 := IntWalk.i64_in _ (by omega)
  have ti2 : (c.ident + x2).tmod 65536 = (c.ident + x2) % 65536 := Int.tmod_eq_emod_of_nonneg (by omega)
  have wi3 : IntKind.i64.wrap ((c.ident + x2) % 65536) = (c.ident + x2) % 65536 := IntWalk.i64_in _ (by omega)
  have wt2 : IntKind.i64.wrap (c.time + p) = c.time + p := IntWalk.i64_in _ (by omega)
  have tt2 : (c.time + p).tmod 16777216 = (c.time + p) % 16777216 := Int.tmod_eq_emod_of_nonneg (by omega)
  have wt3 : IntKind.i64.wrap ((c.time + p) % 16777216) = (c.time + p) % 16777216 := IntWalk.i64_in _ (by omega)
  have g2 : W4.cell? ⟨lb, lo + 2, none⟩ = some (.int .u8 x2) := by rw [HX2.out]; exact HR4.out.at_ 2 (by omega)
  have HP := Lib.hid hp
  clear hp
  go_upto_region 35 with (fail)
  refine wp_world (fun W => Blk W W4.heap.size 36 #[.int .i64 c.f0, .int .i64 c.f1, .int .i64 c.f2, .int .i64 c.f3, .int .i64 c.f4, .int .i64 c.hops, .int .i64 ((c.ident + x2) % 65536), .int .i64 ((c.time + p) % 16777216), .int .i64 0] ∧ XB W X S ∧ Blk W (X + 1) 41 Z ∧ Below w.heap.size w W) ⟨Blk.new W4 _ _, Blk.alloc L4.out _, Z4.out.alloc _, below_new B4.out _⟩ ?_
  obtain ⟨H6, hH6⟩ : ∃ H6, H6 = W4.heap.size := ⟨_, rfl⟩
  rw [← hH6]
  rintro W6 ⟨h6, l6, z6, b6⟩
  have L6 := Lib.hid (show Blk W6 X 41 L from by rw [HLL.out]; exact l6)
  have Z6 := Lib.hid z6
  have B6 := Lib.hid b6
  have H6B := Lib.hid h6
  have hne6 : H6 ≠ X + 1 := by omega
  have HLL2 := HLL
  have HBT := Lib.hid (fun W hR => built_ok c.f0 c.f1 c.f2 c.f3 c.f4 c.hops ((c.ident + x2) % 65536) ((c.time + p) % 16777216) 0 (hj c c.hops ((c.ident + x2) % 65536) ((c.time + p) % 16777216)) rfl (some ⟨lb, lo2, none⟩) (n - 3) (cp - 3) (fun j => z (3 + j)) (by omega) (hj_valid c c.hops ((c.ident + x2) % 65536) ((c.time + p) % 16777216) (n - 3) HCO.out HCO.out.hops (by omega) (by omega) (by omega)) W hR)
  have HYY : Hid (xY S n z = compactY c n z) := Lib.hid (by unfold xY; rw [if_neg (by rw [show xKind z = 2 from HKK.out]; decide), if_neg (by rw [show xKind z = 2 from HKK.out]; decide), if_neg (by rw [show xKind z = 2 from HKK.out]; decide), ← HI.out, ← HCC.out])
  have HYE : Hid (compactY c n z = pktAt (withLen (hj c c.hops ((c.ident + x2) % 65536) ((c.time + p) % 16777216)) (20 + ((n - 3 : Nat) : Int))) (fun j => z (3 + j))) := Lib.hid (by unfold compactY coI' coT'; rw [← HX2.out, HP.out, Int.mul_comm c.step x2])
  unfold POut at HBT
  rw [← HYE.out] at HBT
  obtain ⟨Y9, hY9⟩ : ∃ Y, Y = compactY c n z := ⟨_, rfl⟩
  rw [← hY9] at HBT HYY
  obtain ⟨N9, hN9⟩ : ∃ N, N = 20 + (n - 3) := ⟨_, rfl⟩
  rw [← hN9] at HBT
  have E1 : Hid (xLen S n z = N9) := Lib.hid (by unfold xLen; rw [HE0.out, if_neg (by decide), if_neg (by rw [show xKind z = 2 from HKK.out]; decide), if_neg (by rw [show xKind z = 2 from HKK.out]; decide), if_neg (by rw [show xKind z = 2 from HKK.out]; decide), hN9])
  have E3 : Hid (xS S n z = S) := Lib.hid (by unfold xS; rw [HE0.out, if_neg (by decide), if_neg (by decide), if_neg (by rw [show xKind z = 2 from HKK.out]; decide), if_neg (by rw [show xKind z = 2 from HKK.out]; decide)])
  clear h6 l6 z6 b6 hY9 hN9 hH6 g2 q0 q1 q2 q3 q4' q5 q6 q7 q8 q9 q10 q11
  have hu := Try.underlying41
  have hu9 := Try.underlying36
  have hi9 : (Try.prog.info? 36).map (·.size) = some ([.int .i64 c.f0, .int .i64 c.f1, .int .i64 c.f2, .int .i64 c.f3, .int .i64 c.f4, .int .i64 c.hops, .int .i64 ((c.ident + x2) % 65536), .int .i64 ((c.time + p) % 16777216), .int .i64 0] : List Value).length := sizePH
  have hl192 : L.size = 192 := by rw [HLL2.out, rxArr_size]
  have hiz : (Try.prog.info? 41).map (·.size) = some L.toList.length := by rw [Array.length_toList, hl192]; exact sizeXp
  have hiz2 : (Try.prog.info? 41).map (·.size) = some L.size := by rw [hl192]; exact sizeXp
  have ho1 : L.all (·.oneCell') = true := by rw [HLL2.out]; exact rxp_one _
  obtain ⟨w0, hw0⟩ : ∃ w0, w0 = W6.drew := ⟨_, rfl⟩
  have L0 := Lib.hid (show Blk w0 X 41 L from by rw [hw0]; exact L6.out.drew)
  have Z0 := Lib.hid (show Blk w0 (X + 1) 41 Z from by rw [hw0]; exact Z6.out.drew)
  have B0 := Lib.hid (show Below w.heap.size w w0 from by rw [hw0]; exact B6.out.drew)
  have H0 := Lib.hid (show Blk w0 H6 36 ([.int .i64 c.f0, .int .i64 c.f1, .int .i64 c.f2, .int .i64 c.f3, .int .i64 c.f4, .int .i64 c.hops, .int .i64 ((c.ident + x2) % 65536), .int .i64 ((c.time + p) % 16777216), .int .i64 0] : List Value).toArray from by rw [hw0]; exact H6B.out.drew)
  have hra : w0.rangeAt X 0 L.toList := L0.out.range L.toList (by simp)
  have hrh : w0.rangeAt H6 0 ([.int .i64 c.f0, .int .i64 c.f1, .int .i64 c.f2, .int .i64 c.f3, .int .i64 c.f4, .int .i64 c.hops, .int .i64 ((c.ident + x2) % 65536), .int .i64 ((c.time + p) % 16777216), .int .i64 0] : List Value) := H0.out.range ([.int .i64 c.f0, .int .i64 c.f1, .int .i64 c.f2, .int .i64 c.f3, .int .i64 c.f4, .int .i64 c.hops, .int .i64 ((c.ident + x2) % 65536), .int .i64 ((c.time + p) % 16777216), .int .i64 0] : List Value) rfl
  have hth : w0.there (X + 1) 0 192 := Z0.out.there 192 (by rw [HS2.out, HLL.out, rxArr_size]; exact Nat.le_refl _)
  have R0 := Lib.hid (HR.out.next B0.out)
  refine wp_region_held_drew (S := fun w' => w'.rangeAt X 0 L.toList ∧ w'.there (X + 1) 0 192 ∧ w'.rangeAt H6 0 ([.int .i64 c.f0, .int .i64 c.f1, .int .i64 c.f2, .int .i64 c.f3, .int .i64 c.f4, .int .i64 c.hops, .int .i64 ((c.ident + x2) % 65536), .int .i64 ((c.time + p) % 16777216), .int .i64 0] : List Value)) (by kernel_rfl) (by rw [← hw0]; exact ⟨hra, hth, hrh⟩) (fun hHeld => ?_)
  rw [← hw0]
  clear hw0 hHeld
  have hHeld : w0.rangeAt X 0 L.toList ∧ w0.there (X + 1) 0 192 ∧ w0.rangeAt H6 0 ([.int .i64 c.f0, .int .i64 c.f1, .int .i64 c.f2, .int .i64 c.f3, .int .i64 c.f4, .int .i64 c.hops, .int .i64 ((c.ident + x2) % 65536), .int .i64 ((c.time + p) % 16777216), .int .i64 0] : List Value) := ⟨hra, hth, hrh⟩
  refine' wpAnyH_take (i := 0) (oi := ⟨some 196, _, _, _, _, _⟩) (v := _) rfl (by kernel_rfl) (by kernel_rfl) (by kernel_rfl) (fun _ _ _ h => h) (yieldsIf_load_mid (by rfl) _ _ rfl X 0 rfl L.toList _ (fun w h => h.1) hu rfl hiz) (by assumption) ?_
  simp only [Act.put, List.setIfInBounds_toArray, List.set_cons_zero, List.set_cons_succ, Array.toArray_toList]
  refine' wpAnyH_take (i := 1) (oi := ⟨some 197, _, _, _, _, _⟩) (v := _) rfl (by kernel_rfl) (by kernel_rfl) (by kernel_rfl) (fun _ _ _ h => h) (yieldsIf_load_mid (by rfl) _ _ rfl H6 0 rfl ([.int .i64 c.f0, .int .i64 c.f1, .int .i64 c.f2, .int .i64 c.f3, .int .i64 c.f4, .int .i64 c.hops, .int .i64 ((c.ident + x2) % 65536), .int .i64 ((c.time + p) % 16777216), .int .i64 0] : List Value) _ (fun w h => h.2.2) hu9 rfl hi9) (by assumption) ?_
  simp only [Act.put, List.setIfInBounds_toArray, List.set_cons_zero, List.set_cons_succ]
  refine wpAnyH_take (i := 2) (oi := ⟨some 198, _, _, _, _, _⟩) (v := .slice (some ⟨lb, lo2, none⟩) (n - 3) (cp - 3)) rfl (by kernel_rfl) (by kernel_rfl) (by kernel_rfl) (fun _ _ _ h => h) (Or.inl ⟨by rfl, fun W _ => by rfl⟩) (by assumption) ?_
  simp only [Act.put, List.setIfInBounds_toArray, List.set_cons_zero, List.set_cons_succ]
  refine wpAnyH_ready (rs := [3]) (by kernel_rfl) (by simp) ?_
  refine AllReadyH.cons (o := ⟨some 199, _, _, _, _, _⟩) rfl (fun K hK => ?_) AllReadyH.nil
  rw [if_pos (by rfl)]
  go_simp
  refine (HBT.out w0 (row_from R0.out HLO.out)).mono ?_
  rintro e w7 ⟨B, d, rfl, hd, _, hR7, b7⟩
  dsimp only
  have L7 := Lib.hid (L0.out.below b7 L0.out.lt)
  have Z7 := Lib.hid (Z0.out.below b7 Z0.out.lt)
  have H7 := Lib.hid (H0.out.below b7 H0.out.lt)
  have B7 := Lib.hid (below_step B0.out b7)
  have R7 := Lib.hid hR7
  have D7 := Lib.hid hd
  have F7 := Lib.hid (show ∀ a, B = some a → w0.heap.size ≤ a.block from by assumption)
  have hra7 : w7.rangeAt X 0 L.toList := L7.out.range L.toList (by simp)
  have hrh7 : w7.rangeAt H6 0 ([.int .i64 c.f0, .int .i64 c.f1, .int .i64 c.f2, .int .i64 c.f3, .int .i64 c.f4, .int .i64 c.hops, .int .i64 ((c.ident + x2) % 65536), .int .i64 ((c.time + p) % 16777216), .int .i64 0] : List Value) := H7.out.range ([.int .i64 c.f0, .int .i64 c.f1, .int .i64 c.f2, .int .i64 c.f3, .int .i64 c.f4, .int .i64 c.hops, .int .i64 ((c.ident + x2) % 65536), .int .i64 ((c.time + p) % 16777216), .int .i64 0] : List Value) rfl
  have hth7 : w7.there (X + 1) 0 192 := Z7.out.there 192 (by rw [HS2.out, HLL.out, rxArr_size]; exact Nat.le_refl _)
  refine hK.out _ _ ⟨hra7, hth7, hrh7⟩ (fun hHeld => ?_)
  clear hK K b7 hR7 hd
  try simp only [Act.put, List.setIfInBounds_toArray, List.set_cons_zero, List.set_cons_succ]
  refine wpAnyH_ready (rs := [4]) (by kernel_rfl) (by simp) ?_
  refine AllReadyH.cons (o := ⟨none, _, _, _, _, _⟩) rfl (fun K hK => ?_) AllReadyH.nil
  rw [if_pos (by rfl)]
  refine wp_store_mid _ _ _ rfl (X + 1) 0 L rfl rfl (by rw [hl192]; exact hth7) hiz2 ho1 ?_
  refine hK.out _ _ ⟨World.rangeAt_setCells_apart hra7 _ _ _ (by omega), World.there_setCells hth7 _ _ _, World.rangeAt_setCells_apart hrh7 _ _ _ (by omega)⟩ (fun hHeld => ?_)
  clear hK K
  simp only [Act.put]
  refine wpAnyH_take (i := 5) (oi := ⟨some 5, _, _, _, _, _⟩) (v := .slice B N9 d) rfl (by kernel_rfl) (by kernel_rfl) (by kernel_rfl) (fun _ _ _ h => h) (Or.inl ⟨by rfl, fun W _ => by rfl⟩) (by assumption) ?_
  simp only [Act.put, List.setIfInBounds_toArray, List.set_cons_zero, List.set_cons_succ]
  refine wpAnyH_take (i := 6) (oi := ⟨some 6, _, _, _, _, _⟩) (v := .slice none 0 0) rfl (by kernel_rfl) (by kernel_rfl) (by kernel_rfl) (fun _ _ _ h => h) (Or.inl ⟨by rfl, fun W _ => by rfl⟩) (by assumption) ?_
  simp only [Act.put, List.setIfInBounds_toArray, List.set_cons_zero, List.set_cons_succ]
  refine wpAnyH_take (i := 7) (oi := ⟨some 7, _, _, _, _, _⟩) (v := .int .i64 0) rfl (by kernel_rfl) (by kernel_rfl) (by kernel_rfl) (fun _ _ _ h => h) (Or.inl ⟨by rfl, fun W _ => by rfl⟩) (by assumption) ?_
  simp only [Act.put, List.setIfInBounds_toArray, List.set_cons_zero, List.set_cons_succ]
  refine wpAnyH_done (by kernel_rfl) ?_ _
  go_wp2
  have ZF := Lib.hid (show Blk (w7.setCells (X + 1) 0 L.toList) (X + 1) 41 L from by have := Blk.setWhole Z7.out L.toList (by rw [Array.length_toList, hl192, HS2.out, HLL.out, rxArr_size]); rwa [Array.toArray_toList] at this)
  have BF := Lib.hid (show Below w.heap.size w (w7.setCells (X + 1) 0 L.toList) from below_setCells B7.out HBX.out B7.out.size _ _)
  have RWX := Lib.hid (show Row (w7.setCells (X + 1) 0 L.toList) (w7.setCells (X + 1) 0 L.toList).heap.size B N9 (fun j => .int .u8 (Y9 j)) from (Keep1.row (g := X + 1) (grownBy_setCells (X + 1) _ _ _) R7.out (Nat.le_refl _) (fun a e => by have := F7.out a e; have := Z0.out.lt; omega)).more (by rw [size_setCells]; exact Nat.le_refl _))
  obtain ⟨WF, hWF⟩ : ∃ WF, WF = w7.setCells (X + 1) 0 L.toList := ⟨_, rfl⟩
  rw [← hWF] at ZF BF RWX ⊢
  have OUT : RXOut (some ⟨lb, lo, none⟩) S n z w (.returned (.tuple #[.agg L, .slice B N9 d, .slice none 0 0, .int .i64 0])) WF := by
    rw [HLL2.out]
    exact RXOut.good (m := N9) (y := Y9) (S' := S) HE0.out E1.out D7.out HYY.out RWX.out E3.out BF.out (fun a e => .inl (by have := F7.out a e; have := Z0.out.lt; have := HBX.out; omega))
  exact bodyPost_ret (results_cell_four (g := X + 1) (t := 41) (fr := (0, 0)) Try.results38 _ _ L _ rfl ZF.out Try.underlying41 rfl hiz2 _ _ _ rfl rfl rfl) rfl OUT


end Go.Proofs.Ytofaghpflmeblaa
