/- header.Parse: the failing ends. -/
import Derived.Test.YtejadoadpgcpjaaER
namespace Go.Proofs.Ytejadoadpgcpjaa
open Go.RowKit Go.Shelf

attribute [local go_sem] Oper.semAt_some

def BadEnd (w : World) (n : Int) (e : Ending) (w' : World) : Prop :=
  e = .returned (.tuple #[.agg (hdr (fun _ => 0)), .slice none 0 0, .int .i64 n]) ∧ Below w.heap.size w w'

theorem Blk.to {w : World} {g : Nat} {t : TypeId} {cs ds : Array Value} (h : Blk w g t cs) (e : cs = ds) : Blk w g t ds := e ▸ h
theorem wiped_hdr {w : World} {hb pb : Nat} {h : Nat → Int} (hH : Blk w hb 25 (hdr h)) (hne : pb ≠ hb) : Blk (wiped w hb pb) hb 25 (hdr (fun _ => 0)) := by
  have := (((((((((hH.set_ 0 (.int .i64 0)).set_ 1 (.int .i64 0)).set_ 2 (.int .i64 0)).set_ 3 (.int .i64 0)).set_ 4 (.int .i64 0)).set_ 5 (.int .i64 0)).set_ 6 (.int .i64 0)).set_ 7 (.int .i64 0)).set_ 8 (.int .i64 0)).far (p := ⟨pb, 0, none⟩) (Ne.symm hne) (.slice none 0 0)
  exact this.to (by simp [hdr])
theorem wiped_far {w : World} {hb pb g : Nat} {t : TypeId} {cs : Array Value} (hB : Blk w g t cs) (h1 : g ≠ hb) (h2 : g ≠ pb) : Blk (wiped w hb pb) g t cs := by
  unfold wiped
  exact (((((((((hB.far (p := ⟨hb, 0, none⟩) h1 _).far (p := ⟨hb, 1, none⟩) h1 _).far (p := ⟨hb, 2, none⟩) h1 _).far (p := ⟨hb, 3, none⟩) h1 _).far (p := ⟨hb, 4, none⟩) h1 _).far (p := ⟨hb, 5, none⟩) h1 _).far (p := ⟨hb, 6, none⟩) h1 _).far (p := ⟨hb, 7, none⟩) h1 _).far (p := ⟨hb, 8, none⟩) h1 _).far (p := ⟨pb, 0, none⟩) h2 _
theorem wiped_pay {w : World} {hb pb : Nat} {v : Value} (hP : Blk w pb 22 #[v]) (hne : pb ≠ hb) : Blk (wiped w hb pb) pb 22 #[.slice none 0 0] := by
  unfold wiped
  exact ((((((((((hP.far (p := ⟨hb, 0, none⟩) hne _).far (p := ⟨hb, 1, none⟩) hne _).far (p := ⟨hb, 2, none⟩) hne _).far (p := ⟨hb, 3, none⟩) hne _).far (p := ⟨hb, 4, none⟩) hne _).far (p := ⟨hb, 5, none⟩) hne _).far (p := ⟨hb, 6, none⟩) hne _).far (p := ⟨hb, 7, none⟩) hne _).far (p := ⟨hb, 8, none⟩) hne _)).set_ 0 (.slice none 0 0)
theorem wiped_below {w w0 : World} {b hb pb : Nat} (h : Below b w0 w) (h1 : b ≤ hb) (h2 : b ≤ pb) : Below b w0 (wiped w hb pb) := by
  unfold wiped
  exact (((((((((h.setCell h1 _).setCell h1 _).setCell h1 _).setCell h1 _).setCell h1 _).setCell h1 _).setCell h1 _).setCell h1 _).setCell h1 _).setCell h2 _

set_option maxRecDepth 100000 in
set_option maxHeartbeats 1000000 in
theorem bad_leaves_to (R : Ending → World → Prop) (w0 W : World) (h : Nat → Int) (v : Value) (x e : Int) (H : Nat) (tmps : Array Value) (hs : w0.heap.size = H) (hH : Blk W H 25 (hdr h)) (hP : Blk W (H + 1) 22 #[v]) (hE : Blk W (H + 1 + 1) 26 #[.int .i64 x]) (hb : Below w0.heap.size w0 W) (hR : ∀ en w', BadEnd w0 e en w' → R en w')
    (h2 : tmps.getD 2 undef = .pointer (some ⟨H, 0, none⟩)) (h3 : tmps.getD 3 undef = .pointer (some ⟨H + 1, 0, none⟩)) (h4 : tmps.getD 4 undef = .pointer (some ⟨H + 1 + 1, 0, none⟩)) :
    bodyPostD Try.prog Try.f16 R (Exit.panic [{ v := .iface 26 (.int .i64 e), recovered := false }])
      { tmps := tmps, defers := [{ target := .fn (.func 47) #[], args := #[.pointer (some ⟨H + 1 + 1, 0, none⟩), .func (.func 48) #[] #[.pointer (some ⟨H, 0, none⟩), .pointer (some ⟨H + 1, 0, none⟩)]] }] } W := by
  have hne : H + 1 ≠ H := by omega
  have EW := wiped_far (hb := H) (pb := H + 1) hE (by omega) (by omega)
  have HW := wiped_hdr (pb := H + 1) hH hne
  have PW := wiped_pay hP hne
  refine leaves_cons (f := 47) (args := #[.pointer (some ⟨H + 1 + 1, 0, none⟩), .func (.func 48) #[] #[.pointer (some ⟨H, 0, none⟩), .pointer (some ⟨H + 1, 0, none⟩)]]) (by simp) (by simp [go_sem]) ?_
  refine (caught_panicking ⟨H + 1 + 1, 0, none⟩ H (H + 1) h v x e [] W hH hP hne (EW.cell 0) (EW.frozen 0)).mono ?_
  rintro en u' w'' ⟨rfl, rfl, hw⟩
  obtain ⟨W2, hW2⟩ : ∃ W2, W2 = w'' := ⟨_, rfl⟩
  rw [← hW2]
  rw [← hW2] at hw
  clear hW2
  have BE : Blk W2 (H + 1 + 1) 26 #[.int .i64 e] := by rw [hw]; exact EW.set_ 0 _
  have BH : Blk W2 H 25 (hdr (fun _ => 0)) := by rw [hw]; exact HW.far (by simp; omega) _
  have BP : Blk W2 (H + 1) 22 #[.slice none 0 0] := by rw [hw]; exact PW.far (by simp) _
  have hbl : Below w0.heap.size w0 W2 := by rw [hw]; exact (wiped_below hb (by omega) (by omega)).setCell (by simp; omega) _
  clear hw EW HW PW hH hP hE hb
  have y0 : W2.cell? ⟨H, 0, none⟩ = some (.int .i64 0) := BH.cell 0
  have y1 : W2.cell? ⟨H, 1, none⟩ = some (.int .i64 0) := BH.cell 1
  have y2 : W2.cell? ⟨H, 2, none⟩ = some (.int .i64 0) := BH.cell 2
  have y3 : W2.cell? ⟨H, 3, none⟩ = some (.int .i64 0) := BH.cell 3
  have y4 : W2.cell? ⟨H, 4, none⟩ = some (.int .i64 0) := BH.cell 4
  have y5 : W2.cell? ⟨H, 5, none⟩ = some (.int .i64 0) := BH.cell 5
  have y6 : W2.cell? ⟨H, 6, none⟩ = some (.int .i64 0) := BH.cell 6
  have y7 : W2.cell? ⟨H, 7, none⟩ = some (.int .i64 0) := BH.cell 7
  have y8 : W2.cell? ⟨H, 8, none⟩ = some (.int .i64 0) := BH.cell 8
  have yp : W2.cell? ⟨H + 1, 0, none⟩ = some (.slice none 0 0) := BP.cell 0
  have ye : W2.cell? ⟨H + 1 + 1, 0, none⟩ = some (.int .i64 e) := BE.cell 0
  have HB := Lib.hid hbl
  clear BE BH BP hbl
  simp at h2 h3 h4
  simp [Leaves, settle, results, Try.results16, go_sem, h2, h3, h4, y0, y1, y2, y3, y4, y5, y6, y7, y8, yp, ye]
  exact hR _ _ ⟨rfl, HB.out⟩

theorem bad_leaves (w0 W : World) (h : Nat → Int) (v : Value) (x e : Int) (H : Nat) (tmps : Array Value) (hs : w0.heap.size = H) (hH : Blk W H 25 (hdr h)) (hP : Blk W (H + 1) 22 #[v]) (hE : Blk W (H + 1 + 1) 26 #[.int .i64 x]) (hb : Below w0.heap.size w0 W)
    (h2 : tmps.getD 2 undef = .pointer (some ⟨H, 0, none⟩)) (h3 : tmps.getD 3 undef = .pointer (some ⟨H + 1, 0, none⟩)) (h4 : tmps.getD 4 undef = .pointer (some ⟨H + 1 + 1, 0, none⟩)) :
    bodyPostD Try.prog Try.f16 (BadEnd w0 e) (Exit.panic [{ v := .iface 26 (.int .i64 e), recovered := false }])
      { tmps := tmps, defers := [{ target := .fn (.func 47) #[], args := #[.pointer (some ⟨H + 1 + 1, 0, none⟩), .func (.func 48) #[] #[.pointer (some ⟨H, 0, none⟩), .pointer (some ⟨H + 1, 0, none⟩)]] }] } W :=
  bad_leaves_to _ w0 W h v x e H tmps hs hH hP hE hb (fun _ _ h => h) h2 h3 h4

set_option maxRecDepth 100000 in
set_option maxHeartbeats 1000000 in
theorem parse_short (A : Option Addr) (n c : Nat) (hn : n < 20) (w : World) :
    Calls Try.prog 16 #[.slice A n c] w (BadEnd w 5) := by
  have hmf : ∀ (fn : Fn) (first cap : Array Value) (w : World), (Instr.makeFunc fn first cap).run Try.prog w = .ok (.func fn first cap) w := fun _ _ _ _ => rfl
  have hn20 : ¬ (20 ≤ (n : Int)) := by omega
  go_enter_defers Try.func16, Try.ntmps16
  go_wp2_with (go_at_call 49; refine (must_false _ _).mono ?_; rintro e w1 ⟨rfl, rfl⟩)
  refine bad_leaves w _ (fun _ => 0) (.slice none 0 0) 0 5 w.heap.size _ rfl ?_ ?_ ?_ ?_ rfl rfl rfl
  · exact ((Blk.new w 25 (hdr (fun _ => 0))).alloc _).alloc _
  · have := (Blk.new (w.alloc (.cells (hdr (fun _ => 0)) 25)) 22 #[.slice none 0 0])
    rw [World.size_alloc] at this
    exact this.alloc _
  · have := (Blk.new ((w.alloc (.cells (hdr (fun _ => 0)) 25)).alloc (.cells #[.slice none 0 0] 22)) 26 #[.int .i64 0])
    rw [World.size_alloc, World.size_alloc] at this
    exact this
  · exact (((Below.refl _ w).alloc (Nat.le_refl _) _).alloc (by simp) _).alloc (by simp; omega) _
end Go.Proofs.Ytejadoadpgcpjaa
