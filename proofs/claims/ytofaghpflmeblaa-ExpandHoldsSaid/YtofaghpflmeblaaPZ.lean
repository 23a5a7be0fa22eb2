/- ExpandHolds: the walk. -/
import Derived.Test.YtofaghpflmeblaaPQ
namespace Go.Proofs.Ytofaghpflmeblaa
open Go.RowKit Go.WideShapes
set_option linter.unusedVariables false
attribute [local go_sem ↓] Go.wp_at_zero Go.wp_at_succ

def askArr (q : Nat → Int) : Array Value := Array.ofFn (n := 16) fun j => .int .i64 (q j.1)
theorem askArr_at (q : Nat → Int) (j : Nat) (hj : j < 16) : (askArr q)[j]? = some (.int .i64 (q j)) := by
  unfold askArr; simp [hj]
theorem askArr_set (q : Nat → Int) (p : Nat) (v : Int) : (askArr q).setIfInBounds p (.int .i64 v) = askArr (fun i => if i = p then v else q i) := by
  apply Array.ext
  · simp [askArr]
  · intro i h1 h2
    have hi : i < 16 := by simpa [askArr] using h2
    rw [Array.getElem_setIfInBounds (by simpa [askArr] using hi)]
    simp only [askArr, Array.getElem_ofFn]
    by_cases e : p = i
    · rw [if_pos e, if_pos e.symm]
    · rw [if_neg e, if_neg (fun h => e h.symm)]
theorem holds_good (gx : Nat) (E : Nat → Ec) (S : Nat → Rx) (T : Int) (n k : Nat) (z : Nat → Int) (A : Option Addr) (cp : Nat) (W : World) (h1 : 1 ≤ n) (h9 : n ≤ 9000) (hz : ∀ j, j < n → 0 ≤ z j ∧ z j < 256) (hok : ∀ i, i < 16 → (S i).Ok) (hoe : ∀ i, i < 16 → (E i).Ok)
    (s1 : xErr E (coLen S T n z) (coY S T n z) = 0) (s2 : xLen E (coLen S T n z) (coY S T n z) = n) (s3 : ∀ j, j < n → xY E (coLen S T n z) (coY S T n z) j = z j)
    (hx : EB W gx true E) (hc : coLen S T n z ≤ cp) (hr : Row W W.heap.size A (coLen S T n z) (fun j => .int .u8 (coY S T n z j))) (hne : ∀ a, A = some a → a.block ≠ gx) :
    Calls Try.prog 14 #[.pointer (some ⟨gx, 0, none⟩), .slice A (coLen S T n z) cp] W fun e w' => ∃ B d C f, e = .returned (.tuple #[.slice B n d, .slice C (0 : Nat) f, .int .i64 0]) ∧ Row w' w'.heap.size B n (fun j => .int .u8 (z j)) ∧ EB w' gx true (xS E (coLen S T n z) (coY S T n z)) ∧ Keep1 gx W w' := by
  have hM := coLen_in S T n z h1 h9
  have hby := coY_byte S T n z h1 h9 hz hok
  refine (expand_any gx E A (coLen S T n z) cp (coY S T n z) W hx hoe hc (by unfold maxLen; omega) hby hr hne).mono ?_
  rintro e w' ⟨B, d, C, f, he, _, _, _, _, hB, _, hE, hK⟩
  rw [s1, s2, xFb_zero s1] at he
  rw [s2] at hB
  exact ⟨B, d, C, f, he, hB.congr fun j hj => by rw [s3 j hj], hE, hK⟩
theorem holds_off (gx : Nat) (E : Nat → Ec) (S : Nat → Rx) (T : Int) (n k : Nat) (z : Nat → Int) (A : Option Addr) (cp : Nat) (W : World) (h1 : 1 ≤ n) (h9 : n ≤ 9000) (hz : ∀ j, j < n → 0 ≤ z j ∧ z j < 256) (hok : ∀ i, i < 16 → (S i).Ok) (hoe : ∀ i, i < 16 → (E i).Ok)
    (s1 : xErr E (coLen S T n z) (coY S T n z) = 11)
    (hx : EB W gx true E) (hc : coLen S T n z ≤ cp) (hr : Row W W.heap.size A (coLen S T n z) (fun j => .int .u8 (coY S T n z j))) (hne : ∀ a, A = some a → a.block ≠ gx) :
    Calls Try.prog 14 #[.pointer (some ⟨gx, 0, none⟩), .slice A (coLen S T n z) cp] W fun e w' => ∃ B d C f, e = .returned (.tuple #[.slice B (0 : Nat) d, .slice C (1 : Nat) f, .int .i64 11]) ∧ 1 ≤ f ∧ Fresh W.heap.size C ∧ Row w' w'.heap.size C 1 (fun _ => .int .u8 (160 + (xAt (coY S T n z) : Int))) ∧ EB w' gx true (xS E (coLen S T n z) (coY S T n z)) ∧ Keep1 gx W w' := by
  have hM := coLen_in S T n z h1 h9
  have hby := coY_byte S T n z h1 h9 hz hok
  refine (expand_any gx E A (coLen S T n z) cp (coY S T n z) W hx hoe hc (by unfold maxLen; omega) hby hr hne).mono ?_
  rintro e w' ⟨B, d, C, f, he, _, hf, _, hF, _, hC, hE, hK⟩
  have l0 : xLen E (coLen S T n z) (coY S T n z) = 0 := by unfold xLen; rw [s1, if_pos (by decide)]
  have f1 : xFb E (coLen S T n z) (coY S T n z) = 1 := by unfold xFb; rw [s1, if_pos rfl]
  rw [s1, l0, f1] at he
  rw [f1] at hC hf
  exact ⟨B, d, C, f, he, hf, hF, hC, hE, hK⟩
/-- what holds ahead of round k -/
structure HoldI (w : World) (gc gx ga k : Nat) (S : Nat → Rx) (T : Int) (E : Nat → Ec) (q : Nat → Int) (W : World) : Prop where
  c : CB W gc true S T
  x : EB W gx true E
  a : Blk W ga 69 (askArr q)
  ok : ∀ i, i < 16 → (S i).Ok
  oe : ∀ i, i < 16 → (E i).Ok
  ub : Ub S
  hd : Hd S E k
  ask : Ask q S
  t : 0 ≤ T ∧ T ≤ (k : Int)
  b : Below w.heap.size w W
theorem hd_more {S : Nat → Rx} {E : Nat → Ec} {k l : Nat} (h : Hd S E k) (hl : k ≤ l) : Hd S E l := fun i hi hv => by
  obtain ⟨a, d, b, c⟩ := h i hi hv
  exact ⟨a, d, by omega, c⟩
theorem HoldI.next {w : World} {gc gx ga k : Nat} {S : Nat → Rx} {T : Int} {E : Nat → Ec} {q : Nat → Int} {W W' : World} (h : HoldI w gc gx ga k S T E q W) (hb : Below W.heap.size W W') : HoldI w gc gx ga (k + 1) S T E q W' :=
  ⟨Blk.below h.c hb h.c.lt, h.x.below hb h.x.lt, h.a.below hb h.a.lt, h.ok, h.oe, h.ub, hd_more h.hd (by omega), h.ask, ⟨h.t.1, by have := h.t.2; omega⟩, below_step h.b hb⟩
/-- what holds behind the compressed packet's first byte -/
structure HoldM (w : World) (gc gx ga : Nat) (S' : Nat → Rx) (T' : Int) (E : Nat → Ec) (q : Nat → Int) (B : Option Addr) (M : Nat) (Y : Nat → Int) (A : Option Addr) (n : Nat) (z : Nat → Int) (W : World) : Prop where
  c : CB W gc true S' T'
  x : EB W gx true E
  a : Blk W ga 69 (askArr q)
  row : Row W W.heap.size B M (fun j => .int .u8 (Y j))
  arg : Row W W.heap.size A n (fun j => .int .u8 (z j))
  b : Below w.heap.size w W
theorem HoldM.below {w : World} {gc gx ga : Nat} {S' : Nat → Rx} {T' : Int} {E : Nat → Ec} {q : Nat → Int} {B : Option Addr} {M : Nat} {Y : Nat → Int} {A : Option Addr} {n : Nat} {z : Nat → Int} {W W' : World} (h : HoldM w gc gx ga S' T' E q B M Y A n z W) (hb : Below W.heap.size W W') : HoldM w gc gx ga S' T' E q B M Y A n z W' :=
  ⟨Blk.below h.c hb h.c.lt, h.x.below hb h.x.lt, h.a.below hb h.a.lt, h.row.next hb, h.arg.next hb, below_step h.b hb⟩
theorem HoldM.put {w : World} {gc gx ga : Nat} {S' : Nat → Rx} {T' : Int} {E : Nat → Ec} {q : Nat → Int} {B : Option Addr} {M : Nat} {Y : Nat → Int} {A : Option Addr} {n : Nat} {z : Nat → Int} {W : World} (h : HoldM w gc gx ga S' T' E q B M Y A n z W) (hg : w.heap.size ≤ ga) (h1 : gc ≠ ga) (h2 : gx ≠ ga) (h3 : ∀ a, B = some a → a.block ≠ ga) (h4 : ∀ a, A = some a → a.block ≠ ga) (p : Nat) (v : Int) :
    HoldM w gc gx ga S' T' E (fun i => if i = p then v else q i) B M Y A n z (W.setCell ⟨ga, p, none⟩ (.int .i64 v)) := by
  have hk : Keep1 ga W (W.setCell ⟨ga, p, none⟩ (.int .i64 v)) := grownBy_set (World.grownBy_refl W _) p _
  refine ⟨Blk.far h.c (p := ⟨ga, p, none⟩) h1 _, Blk.far h.x (p := ⟨ga, p, none⟩) h2 _, ?_, (hk.row h.row (Nat.le_refl _) h3).more hk.size, (hk.row h.arg (Nat.le_refl _) h4).more hk.size, below_keep h.b hk hg h.b.size⟩
  rw [← askArr_set]
  exact h.a.set_ p _

set_option maxRecDepth 100000 in
set_option maxHeartbeats 12800000 in
theorem holds44_walk (A : Option Addr) (m c : Nat) (PA : Nat → Option Addr) (pn pc : Nat → Nat) (z : Nat → Nat → Int) (A1 : Option Addr) (m1 c1 : Nat) (lo1 : Nat → Bool) (A2 : Option Addr) (m2 c2 : Nat) (si : Nat → Bool) (w : World) (hA : Rows2 w A m PA pn pc z) (hmx : m ≤ maxLen) (hmx1 : m1 ≤ maxLen) (hmx2 : m2 ≤ maxLen)
    (hL : Row w w.heap.size A1 m1 (fun j => .bool (lo1 j))) (hS : Row w w.heap.size A2 m2 (fun j => .bool (si j))) :
    Calls Try.prog 9 #[.slice A m c, .slice A1 m1 c1, .slice A2 m2 c2] w fun e w' => e = .returned (.bool true) ∧ Below w.heap.size w w' := by
  unfold maxLen at hmx1 hmx2
  by_cases hfew : (m : Int) ≤ 80 ∧ ∀ k, k < m → pn k ≤ 100
  rotate_left
  · have HF := Lib.hid (few44_no A m c 80 PA pn pc z w hA hfew hmx)
    clear hA hfew hL hS
    go_enter Try.func9, Try.ntmps9
    go_wp2_with (first
      | (go_at_call 16; refine (HF.out).mono ?_; rintro e w1 ⟨rfl, rfl⟩)
      | (go_at_call 13; refine (works44_true _).mono ?_; rintro e w1 ⟨rfl, hB1⟩))
    go_ret
    exact ⟨rfl, hB1⟩
  obtain ⟨hm80, hall⟩ := hfew
  have HF := Lib.hid (few44_yes A m c 80 PA pn pc z w hA hm80 hall hmx)
  by_cases hl1 : (m1 : Int) < (m : Int)
  · clear hA hL hS hall
    go_enter Try.func9, Try.ntmps9
    go_wp2_with (first
      | (go_at_call 16; refine (HF.out).mono ?_; rintro e w1 ⟨rfl, rfl⟩)
      | (go_at_call 13; refine (works44_true _).mono ?_; rintro e w1 ⟨rfl, hB1⟩))
    go_ret
    exact ⟨rfl, hB1⟩
  by_cases hl2 : (m2 : Int) < (m : Int)
  · clear hA hL hS hall
    go_enter Try.func9, Try.ntmps9
    go_wp2_with (first
      | (go_at_call 16; refine (HF.out).mono ?_; rintro e w1 ⟨rfl, rfl⟩)
      | (go_at_call 13; refine (works44_true _).mono ?_; rintro e w1 ⟨rfl, hB1⟩))
    go_ret
    exact ⟨rfl, hB1⟩
  have HR := Lib.hid hA
  have HALL := Lib.hid hall
  have M80 := Lib.hid hm80
  have HLO := Lib.hid hL
  have HSI := Lib.hid hS
  obtain ⟨gc, hgc⟩ : ∃ gc, gc = w.heap.size := ⟨_, rfl⟩
  have HGC := Lib.hid hgc
  clear hA hall hmx hm80 hL hS
  go_enter Try.func9, Try.ntmps9
  go_upto_region 5 with (first
    | (go_at_call 16; refine (HF.out).mono ?_; rintro e w1 ⟨rfl, rfl⟩)
    | (go_at_call 24; refine (new_ok2 _).mono ?_; rintro e w1 ⟨rfl, hK1, hB1⟩; have K1 := Lib.hid hK1; have B1 := Lib.hid hB1; clear hK1 hB1)
    | (go_at_call 10; refine (enew_ok2 _).mono ?_; rintro e w2 ⟨rfl, hK2, hB2⟩; have C2 := Lib.hid (K1.out.below hB2 K1.out.lt); have E2 := Lib.hid hK2; have B2 := Lib.hid (below_step B1.out hB2); clear hK2 hB2))
  obtain ⟨gx, hgx⟩ : ∃ gx, gx = w1.heap.size := ⟨_, rfl⟩
  obtain ⟨ga, hga⟩ : ∃ ga, ga = w2.heap.size := ⟨_, rfl⟩
  have hcx : gc < gx := by rw [hgx, hgc]; exact K1.out.lt
  have hxa : gx < ga := by rw [hga, hgx]; exact E2.out.lt
  rw [← hgx, ← hgc, ← hga]
  refine wp_world (fun W => HoldI w gc gx ga 0 S0 0 (fun _ => Ec.zero) (fun _ => 0) W) ⟨by rw [hgc]; exact Blk.alloc C2.out _, by rw [hgx]; exact E2.out.alloc _, ?_, rx0_ok, zero_all, ub0, fun i _ h => (by cases h), fun i _ h => (by cases h), ⟨Int.le_refl _, Int.le_refl _⟩, below_new B2.out _⟩ ?_
  · rw [hga]
    exact Blk.new w2 _ _
  rintro W5 i5
  have SD := Lib.hid i5
  clear i5 hgx hga E2 C2 K1 B1 B2 HF hgc
  go_wp2
  go_loopw [10] (fun v10 wr => ∃ k : Nat, k ≤ m ∧ v10 = .int .i64 k ∧ ∃ S T E q, HoldI w gc gx ga k S T E q wr) (fun v10 _ => m - (intOf v10).toNat)
  case atStart => exact ⟨0, by omega, rfl, _, _, _, _, SD.out⟩
  case round =>
    obtain ⟨k, hk, rfl, S, T, E, q, hI⟩ := hrel
    have I := Lib.hid hI
    clear hI SD
    by_cases hlt : k < m
    · obtain ⟨lb, lo, rfl, hlb, hcl⟩ := HR.out.at_ (by omega)
      have q1 : wr.cell? ⟨lb, lo + k, none⟩ = some (.slice (PA k) (pn k) (pc k)) := (I.out.b.cell (p := ⟨lb, lo + k, none⟩) hlb).trans (hcl k hlt)
      obtain ⟨b1, o1, rfl, hb1, hc1⟩ := HLO.out (by omega)
      obtain ⟨b2, o2, rfl, hb2, hc2⟩ := HSI.out (by omega)
      have HL1 := Lib.hid (hc1 k (by omega))
      have HS1 := Lib.hid (hc2 k (by omega))
      have k0 : (0 : Int) ≤ (k : Int) := by omega
      have k1 : (k : Int) < (m : Int) := by omega
      have hwr : w.heap.size ≤ wr.heap.size := I.out.b.size
      have RW := Lib.hid (show Row wr wr.heap.size (PA k) (pn k) (fun j => .int .u8 (z k j)) from (HR.out.row k hlt).next I.out.b)
      have HZ := Lib.hid (HR.out.byte k hlt)
      have hnc := HR.out.cap k hlt
      have hn1 := HALL.out k hlt
      have hk80 := M80.out
      have hgw : w.heap.size ≤ gc := Nat.le_of_eq HGC.out.symm
      clear hcl hc1 hc2
      by_cases hp0 : pn k = 0
      · have HB := Lib.hid (compress_bad gc S T (PA k) (pn k) (pc k) wr I.out.c (by rw [hp0]; decide))
        have hck : ckErr (pn k) = 2 := by rw [hp0]; rfl
        rw [hck] at HB
        rw [hp0] at HB q1
        clear hgw
        go_upto_region 9 with (go_at_call 25; refine HB.out.mono ?_; rintro e w3 ⟨rfl, hB3⟩; have B3 := Lib.hid hB3; have q3 := (hB3.cell (p := ⟨lb, lo + k, none⟩) (by show lb < _; omega)).trans q1; clear hB3)
        go_wp2
        go_round
        case rel => exact ⟨k + 1, by omega, by go_num, S, T, E, q, I.out.next B3.out⟩
        case measure => simp [intOf]; omega
      · obtain ⟨n, hn⟩ : ∃ n, n = pn k := ⟨_, rfl⟩
        have hlg : ∀ a, PA k = some a → a.block < w.heap.size := fun a e => by
          obtain ⟨b, off, e2, hb, _⟩ := HR.out.row k hlt (by omega)
          rw [e] at e2; cases e2
          exact hb
        rw [← hn] at q1 RW hnc hn1 HZ hp0
        have h1n : 1 ≤ n := by omega
        have h9n : n ≤ 9000 := by omega
        have hglt : ga < wr.heap.size := I.out.a.lt
        have HB := Lib.hid (back_compress gc S T (PA k) n (pc k) (z k) wr h1n h9n I.out.c I.out.ok ⟨I.out.t.1, by have := I.out.t.2; omega⟩ hnc HZ.out RW.out (fun a e => by have := hlg a e; omega))
        have HX := Lib.hid (fun (A' : Option Addr) (cp : Nat) (W : World) s1 s2 s3 => holds_good gx E S T n k (z k) A' cp W h1n h9n HZ.out I.out.ok I.out.oe s1 s2 s3)
        have HO := Lib.hid (fun (A' : Option Addr) (cp : Nat) (W : World) s1 => holds_off gx E S T n k (z k) A' cp W h1n h9n HZ.out I.out.ok I.out.oe s1)
        have HST := Lib.hid (holds_step E S T n (z k) k h1n h9n HZ.out I.out.ok I.out.oe I.out.ub (by omega) I.out.hd)
        have HSE := Lib.hid (holds_sent E S T n (z k) k I.out.ub I.out.hd)
        have HTN := Lib.hid (coT_in T n (z k) k I.out.t)
        have OKN := Lib.hid (co_ok S T n (z k) I.out.ok)
        have UBN := Lib.hid (ub_step S T n (z k) I.out.ub)
        have AKN := Lib.hid (ask_step q S T n (z k) h1n h9n I.out.ask)
        have AKK := Lib.hid (ask_kind q S T n (z k) h1n h9n I.out.ask)
        have OEX := Lib.hid (xS_ok E (coLen S T n (z k)) (coY S T n (z k)) I.out.oe (coY_byte S T n (z k) h1n h9n HZ.out I.out.ok))
        have hMin := coLen_in S T n (z k) h1n h9n
        have hy0 := coY_zero S T n (z k)
        unfold HoldsEnd at HST
        obtain ⟨M, hM⟩ : ∃ M, M = coLen S T n (z k) := ⟨_, rfl⟩
        obtain ⟨Y, hY⟩ : ∃ Y, Y = coY S T n (z k) := ⟨_, rfl⟩
        obtain ⟨S', hS'⟩ : ∃ S', S' = coS S T n (z k) := ⟨_, rfl⟩
        obtain ⟨T', hT'⟩ : ∃ T', T' = coT T n (z k) := ⟨_, rfl⟩
        rw [← hM, ← hY] at HB HX HO
        rw [← hM, ← hY, ← hS'] at HST
        rw [← hS', ← hT'] at HB
        rw [← hS'] at HSE OKN UBN
        rw [← hY, ← hS'] at AKN
        rw [← hY] at AKK hy0
        rw [← hT'] at HTN
        rw [← hM] at hMin
        rw [← hM, ← hY] at OEX
        obtain ⟨p, hpp⟩ : ∃ p, p = xAt Y := ⟨_, rfl⟩
        obtain ⟨kd, hkd⟩ : ∃ kd, kd = xKind Y := ⟨_, rfl⟩
        have hp16 : p < 16 := by rw [hpp]; unfold xAt; omega
        have hpi : Y 0 / 4 % 16 = (p : Int) := by rw [hpp]; unfold xAt; omega
        have hki : Y 0 / 64 = kd := by rw [hkd]; rfl
        have HPP := Lib.hid hpp
        have HKD := Lib.hid hkd
        have HLG := Lib.hid hlg
        have hMz : ((M : Int) == 0) = false := by simp; omega
        have hM0 : (0 : Int) < (M : Int) := by omega
        have HM1 := Lib.hid hMin.1
        have HNN := Lib.hid hn
        clear hlg hM hY hS' hT' hnc hn1 hpp hkd hMin hn
        go_upto_region 12 with (first
          | (go_at_call 25; refine HB.out.mono ?_; rintro e w3 ⟨B, d, rfl, hMd, hFB, hRB, hC3, hK3⟩; have K3 := Lib.hid hK3; have C3 := Lib.hid hC3; have RB := Lib.hid hRB; have FB := Lib.hid hFB; have MD := Lib.hid hMd; have q3 : w3.cell? ⟨lb, lo + k, none⟩ = some (.slice (PA k) n (pc k)) := (World.cell?_of_block (hK3.block lb (by omega) (by simp; omega))).trans q1; have hnz : ((n : Int) == 0) = false := (by simp; omega); clear hK3 hC3 hRB hFB hMd)
          | (go_at_call 15; refine (num44_ok _ _).mono ?_; rintro e w9 ⟨rfl, rfl⟩))
        have MM := Lib.hid (show HoldM w gc gx ga S' T' E q B M Y (PA k) n (z k) w3 from ⟨C3.out, K3.out.blk I.out.x (by omega), K3.out.blk I.out.a (by omega), RB.out, (K3.out.rown RW.out (Nat.le_refl _) (fun a e _ => by have := HLG.out a e; omega)).more K3.out.size, below_keep I.out.b K3.out (by omega) hwr⟩)
        have hBG := Lib.hid (fun a (e : B = some a) => (show a.block ≠ ga ∧ a.block ≠ gx ∧ a.block ≠ gc from by have := FB.out a e; omega))
        have hPG := Lib.hid (fun a (e : PA k = some a) => (show a.block ≠ ga ∧ a.block ≠ gx ∧ a.block ≠ gc from by have := HLG.out a e; omega))
        clear q1 q3
        obtain ⟨bb, bo, rfl, _, hcY⟩ := MM.out.row (by have := HM1.out; omega)
        have c0 : w3.cell? ⟨bb, bo, none⟩ = some (.int .u8 (Y 0)) := hcY 0 (by have := HM1.out; omega)
        obtain ⟨x0, hx0⟩ : ∃ x, x = Y 0 := ⟨_, rfl⟩
        rw [← hx0] at c0 hpi hki hy0
        obtain ⟨y4, hy4⟩ : ∃ y, y = x0 / 4 := ⟨_, rfl⟩
        rw [← hy4] at hpi
        have xw : IntKind.i64.wrap x0 = x0 := IntWalk.i64_in _ (by omega)
        have q64 : x0.tdiv 64 = kd := by rw [Int.tdiv_eq_ediv_of_nonneg hy0.1, hki]
        have q4 : x0.tdiv 4 = y4 := by rw [Int.tdiv_eq_ediv_of_nonneg hy0.1, hy4]
        have m16 : y4.tmod 16 = (p : Int) := by rw [Int.tmod_eq_emod_of_nonneg (by omega), hpi]
        have wy : IntKind.i64.wrap y4 = y4 := IntWalk.i64_in _ (by omega)
        have wi : IntKind.i64.wrap (p : Int) = (p : Int) := IntWalk.i64_in _ (by omega)
        have wk : IntKind.i64.wrap kd = kd := IntWalk.i64_in _ (by omega)
        have i0 : (0 : Int) ≤ (p : Int) := by omega
        have i1 : (p : Int) < 16 := by omega
        have hkr : kd = 0 ∨ kd = 1 ∨ kd = 2 ∨ kd = 3 := by omega
        have HKR := Lib.hid hkr
        clear hcY hx0 hy4 hpi hki hy0 hkr
        go_wp2
        go_quiet (fail)
        refine then_world (fun W => HoldM w gc gx ga S' T' E q (some ⟨bb, bo, none⟩) M Y (PA k) n (z k) W) (MM.out.below (below_drewN (Below.refl _ _) _)) ?_
        rintro W4 m4
        have M4 := Lib.hid m4
        have cq : W4.cell? ⟨ga, p, none⟩ = some (.int .i64 (q p)) := (m4.a.cell p).trans (askArr_at q p hp16)
        have fq : W4.frozen? ⟨ga, p, none⟩ = false := m4.a.frozen p
        have hak : ¬ (kd < 3 ∧ q p = 1 ∧ kd ≠ 0) := by rw [HKD.out, HPP.out]; exact AKK.out
        have HAK := Lib.hid hak
        clear m4 c0 hak MM
        go_upto_region 13 with (fail)
        go_cut [89] from 78 to 89 (fun v89 wx => v89 = .bool false ∧ wx = W4)
        case first =>
          by_cases h3 : kd < 3
          rotate_left
          · go_wp2
            go_meet
            exact ⟨rfl, rfl⟩
          by_cases hq1 : q p = 1
          · have hq2 : (q p == 1) = true := by simpa using hq1
            have hz : (kd != 0) = false := by
              have : ¬ kd ≠ 0 := fun e => HAK.out ⟨h3, hq1, e⟩
              simpa using this
            clear hq1
            go_wp2
            go_meet
            exact ⟨rfl, rfl⟩
          · have hq2 : (q p == 1) = false := by simpa using hq1
            clear hq1
            go_wp2
            go_meet
            exact ⟨rfl, rfl⟩
        case rest =>
        obtain ⟨rfl, rfl⟩ := hcut
        go_upto_if 91 with (fail)
        go_cut [] from 92 to 93 (fun wx => HoldM w gc gx ga S' T' E (askK q Y) (some ⟨bb, bo, none⟩) M Y (PA k) n (z k) wx)
        case first =>
          by_cases hk0 : kd = 0
          · have hz : (kd == 0) = true := by simpa using hk0
            have HPUT := Lib.hid (M4.out.put (by omega) (by omega) (by omega) (fun a e => (hBG.out a e).1) (fun a e => (hPG.out a e).1) p 0)
            have AE := Lib.hid (show askK q Y = fun i => if i = p then 0 else q i from by funext i; unfold askK; rw [← HKD.out, ← HPP.out, hk0]; simp)
            clear hk0
            go_wp2
            go_meet
            rw [AE.out]; exact HPUT.out
          · have hz : (kd == 0) = false := by simpa using hk0
            have AE := Lib.hid (show askK q Y = q from by funext i; unfold askK; rw [← HKD.out, if_neg (fun h => hk0 h.1)])
            clear hk0
            go_wp2
            go_meet
            rw [AE.out]; exact M4.out
        case rest =>
          have M5 := Lib.hid hcut
          clear hcut M4 cq fq
          have l5 : wc.cell? ⟨b1, o1 + k, none⟩ = some (.bool (lo1 k)) := (M5.out.b.cell (p := ⟨b1, o1 + k, none⟩) hb1).trans HL1.out
          have kk1 : (k : Int) < (m1 : Int) := by omega
          have kk2 : (k : Int) < (m2 : Int) := by omega
          by_cases hlost : lo1 k = true
          · rw [hlost] at l5
            go_wp2
            go_round
            case rel => exact ⟨k + 1, by omega, by go_num, S', T', E, askK q Y, M5.out.c, M5.out.x, M5.out.a, OKN.out, I.out.oe, UBN.out, HSE.out, AKN.out, HTN.out, M5.out.b⟩
            case measure => simp [intOf]; omega
          · have hl0 : lo1 k = false := by simpa using hlost
            rw [hl0] at l5
            clear hlost
            have hwc : w.heap.size ≤ wc.heap.size := M5.out.b.size
            have glc : gc < wc.heap.size := M5.out.c.lt
            have glx : gx < wc.heap.size := M5.out.x.lt
            have gla : ga < wc.heap.size := M5.out.a.lt
            rcases HST.out with ⟨x0, xl, xy, hdn⟩ | ⟨x11, hk12, hdn⟩
            · have HX3 := Lib.hid (HX.out (some ⟨bb, bo, none⟩) d wc x0 xl xy M5.out.x MD.out M5.out.row (fun a e => (hBG.out a e).2.1))
              have HDN := Lib.hid hdn
              clear x0 xl xy hdn
              go_upto_region 20 with (first
                | (go_at_call 14; refine HX3.out.mono ?_; rintro e w4 ⟨P, d2, C, f2, rfl, hRP, hE4, hK4⟩; have K4 := Lib.hid hK4; have E4 := Lib.hid hE4; have RP := Lib.hid hRP; clear hK4 hE4 hRP)
                | (go_at_call 15; refine (num44_ok _ _).mono ?_; rintro e w9 ⟨rfl, rfl⟩))
              have qc : wc.cell? ⟨lb, lo + k, none⟩ = some (.slice (PA k) n (pc k)) := by
                obtain ⟨lb', lo', e', hlb', hcl'⟩ := HR.out.at_ (by omega)
                cases e'
                rw [HNN.out]
                exact (M5.out.b.cell (p := ⟨lb, lo + k, none⟩) hlb).trans (hcl' k hlt)
              have q4 : w4.cell? ⟨lb, lo + k, none⟩ = some (.slice (PA k) n (pc k)) := (World.cell?_of_block (K4.out.block lb (by omega) (by simp; omega))).trans qc
              have C4 := Lib.hid (K4.out.blk M5.out.c (by omega))
              have A4 := Lib.hid (K4.out.blk M5.out.a (by omega))
              have R4 := Lib.hid ((K4.out.row M5.out.arg (Nat.le_refl _) (fun a e => (hPG.out a e).2.1)).more K4.out.size)
              have B4 := Lib.hid (below_keep M5.out.b K4.out (by omega) hwc)
              have y6 : ∀ e : ExtW w4, e.v.cell? ⟨lb, lo + k, none⟩ = some (.slice (PA k) n (pc k)) := fun e => e.cell q4 (World.block_lt_of_cell? _ _ q4)
              obtain ⟨SY, hSY⟩ : ∃ SY, SY = bytesOf n (z k) := ⟨_, rfl⟩
              have rs := fun (W : World) (A : Option Addr) (m c : Nat) (y : Nat → Int) (h : Row W W.heap.size A m (fun j => .int .u8 (y j))) => row_string 24 9 5 Try.underlying24 Try.underlying5 Try.underlying9 h c
              have s1 : ∀ e : ExtW w4, (convert 24 9 (.slice P n d2)).run Try.prog e.v = .ok (.string SY) e.v := fun e => by rw [hSY]; exact rs _ _ _ _ _ (RP.out.next e.h)
              have s2 : ∀ e : ExtW w4, (convert 24 9 (.slice (PA k) n (pc k))).run Try.prog e.v = .ok (.string SY) e.v := fun e => by rw [hSY]; exact rs _ _ _ _ _ (R4.out.next e.h)
              clear rs hSY q4 qc l5
              refine wp_region_ext (by kernel_rfl) (by kernel_rfl) ?_
              repeat (go_big_quiet_step (exact Calls.ext_of ((num44_ok _ _).mono fun e w' h => ⟨h.1, by rw [← h.2]; exact Below.refl _ _⟩)))
              refine wpQuiet_nil ?_
              rintro _ ⟨ex, rfl⟩
              go_wp2
              go_round
              case rel => exact ⟨k + 1, by omega, by go_num, S', T', _, askK q Y, Blk.below C4.out ex.h C4.out.lt, E4.out.below ex.h E4.out.lt, A4.out.below ex.h A4.out.lt, OKN.out, OEX.out, UBN.out, HDN.out, AKN.out, HTN.out, below_step B4.out ex.h⟩
              case measure => simp [intOf]; omega
            · have HX3 := Lib.hid (HO.out (some ⟨bb, bo, none⟩) d wc x11 M5.out.x MD.out M5.out.row (fun a e => (hBG.out a e).2.1))
              have HDN := Lib.hid hdn
              rw [← HPP.out] at HX3
              rw [← HKD.out] at hk12
              have kz : (kd == 0) = false := by simp; omega
              have k3 : (kd == 3) = false := by simp; omega
              have wp1 : IntKind.i64.wrap (160 + (p : Int)) = 160 + (p : Int) := IntWalk.i64_in _ (by omega)
              have wp2 : IntKind.u8.wrap (160 + (p : Int)) = 160 + (p : Int) := by rw [IntKind.wrap_u8]; omega
              have i0 : (0 : Int) ≤ (p : Int) := by omega
              have i1 : (p : Int) < 16 := by omega
              clear x11 hdn hk12
              go_upto_region 22 with (first
                | (go_at_call 14; refine HX3.out.mono ?_; rintro e w4 ⟨P, d2, C, f2, rfl, hf2, hFC, hRC, hE4, hK4⟩; have K4 := Lib.hid hK4; have E4 := Lib.hid hE4; have RC := Lib.hid hRC; have FC := Lib.hid hFC; have F2 := Lib.hid hf2; clear hK4 hE4 hRC hFC hf2)
                | (go_at_call 15; refine (num44_ok _ _).mono ?_; rintro e w9 ⟨rfl, rfl⟩))
              have C4 := Lib.hid (K4.out.blk M5.out.c (by omega))
              have A4 := Lib.hid (K4.out.blk M5.out.a (by omega))
              have B4 := Lib.hid (below_keep M5.out.b K4.out (by omega) hwc)
              obtain ⟨SF, hSF⟩ : ∃ SF, SF = bytesOf 1 (fun _ => 160 + (p : Int)) := ⟨_, rfl⟩
              have rs := fun (W : World) (A : Option Addr) (m c : Nat) (y : Nat → Int) (h : Row W W.heap.size A m (fun j => .int .u8 (y j))) => row_string 24 9 5 Try.underlying24 Try.underlying5 Try.underlying9 h c
              have s1 : (convert 24 9 (.slice C 1 f2)).run Try.prog w4 = .ok (.string SF) w4 := by rw [hSF]; exact rs _ _ _ _ _ RC.out
              have s2 : (convert 24 9 (.slice (some ⟨w4.heap.size, 0, none⟩) 1 1)).run Try.prog (w4.alloc (.cells #[.int .u8 (160 + (p : Int))] 5)) = .ok (.string SF) (w4.alloc (.cells #[.int .u8 (160 + (p : Int))] 5)) := by
                rw [hSF]
                exact rs _ _ _ _ _ (fun _ => ⟨w4.heap.size, 0, rfl, by simp, fun j hj => by
                  obtain rfl : j = 0 := by omega
                  exact (Blk.new w4 5 #[.int .u8 (160 + (p : Int))]).cell 0⟩)
              clear rs hSF l5
              go_upto_region 24 with (go_at_call 15; refine (num44_ok _ _).mono ?_; rintro e w9 ⟨rfl, rfl⟩)
              have hxc4 : w.heap.size ≤ w4.heap.size := B4.out.size
              refine wp_world (fun W => CB W gc true S' T' ∧ EB W gx true (xS E M Y) ∧ Blk W ga 69 (askArr (askK q Y)) ∧ Row W W.heap.size C 1 (fun _ => .int .u8 (160 + (p : Int))) ∧ Below w.heap.size w W) ⟨Blk.alloc C4.out _, E4.out.alloc _, A4.out.alloc _, RC.out.next ((Below.refl _ w4).alloc (Nat.le_refl _) _), B4.out.alloc hxc4 _⟩ ?_
              rintro W6 ⟨c6, e6, a6, r6, b6⟩
              have C6 := Lib.hid c6
              have E6 := Lib.hid e6
              have A6 := Lib.hid a6
              have R6 := Lib.hid r6
              have B6 := Lib.hid b6
              have l6 : W6.cell? ⟨b2, o2 + k, none⟩ = some (.bool (si k)) := (b6.cell (p := ⟨b2, o2 + k, none⟩) hb2).trans HS1.out
              have h6 : w.heap.size ≤ W6.heap.size := b6.size
              have hCg : ∀ a, C = some a → a.block ≠ gc ∧ a.block ≠ ga := fun a e => by have := FC.out a e; omega
              have HCG := Lib.hid hCg
              clear c6 e6 a6 r6 b6 s1 s2 hCg
              by_cases hsil : si k = true
              · rw [hsil] at l6
                go_wp2
                go_round
                case rel => exact ⟨k + 1, by omega, by go_num, S', T', _, askK q Y, C6.out, E6.out, A6.out, OKN.out, OEX.out, UBN.out, HDN.out, AKN.out, HTN.out, B6.out⟩
                case measure => simp [intOf]; omega
              · have hl2 : si k = false := by simpa using hsil
                rw [hl2] at l6
                clear hsil
                have hnf := need_feed S' (fun _ => 160 + (p : Int)) p hp16 rfl
                have HFD := Lib.hid (feedback_ok gc S' T' C 1 f2 (fun _ => 160 + (p : Int)) (by unfold maxLen; omega) (fun j _ => by show 0 ≤ 160 + (p : Int) ∧ 160 + (p : Int) < 256; omega) W6 C6.out R6.out (fun a e _ => (HCG.out a e).1))
                unfold FOut at HFD
                rw [hnf.1, hnf.2] at HFD
                have OK7 := Lib.hid (ok_need S' p OKN.out)
                have UB7 := Lib.hid (ub_need S' p UBN.out)
                have HD7 := Lib.hid (hd_need _ S' _ p HDN.out)
                have AK7 := Lib.hid (ask_need _ S' p AKN.out)
                have hga6 : ga < W6.heap.size := A6.out.lt
                clear hnf
                go_wp2_with (first
                  | (go_at_call 26; refine HFD.out.mono ?_; rintro e w7 ⟨rfl, hC7, hK7⟩; have C7 := Lib.hid hC7; have K7 := Lib.hid hK7; have f7 : w7.frozen? ⟨ga, p, none⟩ = false := (hK7.blk A6.out (by omega)).frozen p; have g7 : w7.cell? ⟨ga, p, none⟩ = some (.int .i64 (askK q Y p)) := ((hK7.blk A6.out (by omega)).cell p).trans (askArr_at _ p hp16); clear hC7 hK7)
                  | (go_at_call 15; refine (num44_ok _ _).mono ?_; rintro e w9 ⟨rfl, rfl⟩))
                have A7 := Lib.hid (K7.out.blk A6.out (by omega))
                have E7 := Lib.hid (show EB w7 gx true (xS E M Y) from K7.out.blk E6.out (by omega))
                have B7 := Lib.hid (below_keep B6.out K7.out (by omega) h6)
                have K8 := Lib.hid (show Keep1 ga w7 (w7.setCell ⟨ga, p, none⟩ (.int .i64 1)) from grownBy_set (World.grownBy_refl w7 _) p _)
                go_round
                case rel => exact ⟨k + 1, by omega, by go_num, needS S' p, T', _, _, Blk.far C7.out (p := ⟨ga, p, none⟩) (show gc ≠ ga by omega) _, Blk.far E7.out (p := ⟨ga, p, none⟩) (show gx ≠ ga by omega) _, by rw [← askArr_set]; exact A7.out.set_ p _, OK7.out, OEX.out, UB7.out, HD7.out, AK7.out, HTN.out, below_keep B7.out K8.out (by omega) (by have := B7.out.size; omega)⟩
                case measure => simp [intOf]; omega
    · obtain rfl : k = m := by omega
      go_wp2_with (go_at_call 13; refine (works44_true _).mono ?_; rintro e w9 ⟨rfl, hB9⟩)
      go_ret
      exact ⟨rfl, below_step I.out.b hB9⟩
end Go.Proofs.Ytofaghpflmeblaa
