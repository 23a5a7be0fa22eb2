/- header.caught, Parse$1, parser.all. -/
import Derived.Test.YtejadoadpgcpjaaEP
import Derived.Defers
import Derived.Recover
import Derived.Laws.Pointers
namespace Go.Proofs.Ytejadoadpgcpjaa
open Go.RowKit Go.Shelf

attribute [local go_sem] Oper.semAt_some

theorem post_S {P : Program} {fn : Func} {c₀ : Frame} {u' : FrameMode} {cs : List Frame} {X : World} {e : Exit} {a : Act} {w1 : World} (hq : bodyPost P fn (fun en w' => en = .returned (.tuple #[]) ∧ w' = X) e a w1) :
    bodyPostS P fn c₀ cs (fun en u w' => en = .returned (.tuple #[]) ∧ u = u' ∧ w' = X) e a ({ c₀ with mode := u' } :: cs) w1 := by
  cases e with
  | normal => obtain ⟨hd, v, hr, h1, h2⟩ := hq; exact ⟨hd, _, rfl, v, hr, h1, rfl, h2⟩
  | ret => obtain ⟨hd, v, hr, h1, h2⟩ := hq; exact ⟨hd, _, rfl, v, hr, h1, rfl, h2⟩
  | panic c => obtain ⟨hd, h1, h2⟩ := hq; cases h1
  | outgrown => obtain ⟨h1, h2⟩ := hq; cases h1
  | _ => exact hq.elim

def wiped (w : World) (hb pb : Nat) : World := (((((((((w.setCell ⟨hb, 0, none⟩ (.int .i64 0)).setCell ⟨hb, 1, none⟩ (.int .i64 0)).setCell ⟨hb, 2, none⟩ (.int .i64 0)).setCell ⟨hb, 3, none⟩ (.int .i64 0)).setCell ⟨hb, 4, none⟩ (.int .i64 0)).setCell ⟨hb, 5, none⟩ (.int .i64 0)).setCell ⟨hb, 6, none⟩ (.int .i64 0)).setCell ⟨hb, 7, none⟩ (.int .i64 0)).setCell ⟨hb, 8, none⟩ (.int .i64 0)).setCell ⟨pb, 0, none⟩ (.slice none 0 0)
theorem wipe_ok (hb pb : Nat) (h : Nat → Int) (v : Value) (w : World) (hH : Blk w hb 25 (hdr h)) (hP : Blk w pb 22 #[v]) (hne : pb ≠ hb) :
    Calls Try.prog 48 #[.pointer (some ⟨hb, 0, none⟩), .pointer (some ⟨pb, 0, none⟩)] w fun e w' => e = .returned (.tuple #[]) ∧ w' = wiped w hb pb := by
  have c0 : w.cell? ⟨hb, 0, none⟩ = some (.int .i64 (h 0)) := hH.cell 0
  have f0 := hH.frozen 0
  have c1 : w.cell? ⟨hb, 1, none⟩ = some (.int .i64 (h 1)) := hH.cell 1
  have f1 := hH.frozen 1
  have c2 : w.cell? ⟨hb, 2, none⟩ = some (.int .i64 (h 2)) := hH.cell 2
  have f2 := hH.frozen 2
  have c3 : w.cell? ⟨hb, 3, none⟩ = some (.int .i64 (h 3)) := hH.cell 3
  have f3 := hH.frozen 3
  have c4 : w.cell? ⟨hb, 4, none⟩ = some (.int .i64 (h 4)) := hH.cell 4
  have f4 := hH.frozen 4
  have c5 : w.cell? ⟨hb, 5, none⟩ = some (.int .i64 (h 5)) := hH.cell 5
  have f5 := hH.frozen 5
  have c6 : w.cell? ⟨hb, 6, none⟩ = some (.int .i64 (h 6)) := hH.cell 6
  have f6 := hH.frozen 6
  have c7 : w.cell? ⟨hb, 7, none⟩ = some (.int .i64 (h 7)) := hH.cell 7
  have f7 := hH.frozen 7
  have c8 : w.cell? ⟨hb, 8, none⟩ = some (.int .i64 (h 8)) := hH.cell 8
  have f8 := hH.frozen 8
  have cp : w.cell? ⟨pb, 0, none⟩ = some v := hP.cell 0
  have fp := hP.frozen 0
  have hne2 := Ne.symm hne
  clear hH hP
  go_enter Try.func48, Try.ntmps48
  go_wp2
  go_end0
  exact ⟨rfl, rfl⟩

set_option maxRecDepth 100000 in
set_option maxHeartbeats 400000 in
theorem caught_panicking (p : Addr) (hb pb : Nat) (h : Nat → Int) (v : Value) (x e : Int) (older : List PanicEntry) (w : World) (hH : Blk w hb 25 (hdr h)) (hP : Blk w pb 22 #[v]) (hne : pb ≠ hb) (hc : (wiped w hb pb).cell? p = some (.int .i64 x)) (hz : (wiped w hb pb).frozen? p = false) :
    CallsD Try.prog 47 #[.pointer (some p), .func (.func 48) #[] #[.pointer (some ⟨hb, 0, none⟩), .pointer (some ⟨pb, 0, none⟩)]] (.panicking ({ v := .iface 26 (.int .i64 e), recovered := false } :: older)) w fun en u' w' =>
      en = .returned (.tuple #[]) ∧ u' = .panicking ({ v := .iface 26 (.int .i64 e), recovered := true } :: older) ∧ w' = (wiped w hb pb).setCell p (.int .i64 e) := by
  have C := Lib.hid (wipe_ok hb pb h v w hH hP hne)
  have hta : ∀ X : World, (Instr.typeAssert (.iface 26 (.int .i64 e)) 20 26 true).run Try.prog X = .ok (.tuple #[.int .i64 e, .bool true]) X := fun X => by kernel_rfl
  have HC := Lib.hid hc
  have HZ := Lib.hid hz
  clear hc hz hH hP
  refine callsD_of_wpS Try.func47 rfl fun c₀ cs hu => ?_
  simp only [Try.ntmps47, List.size_toArray, List.length_cons, List.length_nil, Nat.reduceAdd, Nat.reduceSub, Array.replicate_succ, Array.replicate_zero, List.push_toArray, List.append_toArray, List.nil_append, List.cons_append]
  apply wpS_seq
  apply wpS_region
  simp [wpOpsS, go_sem, recoverD, hu, Exit.thenS]
  refine wpS_of_wp (wp_mono (Q := bodyPost Try.prog Try.f47 (fun en w' => en = .returned (.tuple #[]) ∧ w' = (wiped w hb pb).setCell p (.int .i64 e))) ?_ ?_)
  rotate_left
  · exact fun e a w1 hq => post_S hq
  have HU := Lib.hid hu
  clear hu
  go_wp2_with (go_at_call 48; refine (C.out).mono ?_; rintro e w1 ⟨rfl, rfl⟩; have c9 := HC.out; have z9 := HZ.out)
  go_end0
  exact ⟨rfl, rfl⟩

set_option maxRecDepth 100000 in
set_option maxHeartbeats 400000 in
theorem caught_idle (p : Addr) (F : Value) (w : World) :
    CallsD Try.prog 47 #[.pointer (some p), F] .returning w fun e u' w' => e = .returned (.tuple #[]) ∧ u' = .returning ∧ w' = w := by
  refine callsD_of_wpS Try.func47 rfl fun c₀ cs hu => ?_
  simp only [Try.ntmps47, List.size_toArray, List.length_cons, List.length_nil, Nat.reduceAdd, Nat.reduceSub, Array.replicate_succ, Array.replicate_zero, List.push_toArray, List.append_toArray, List.nil_append, List.cons_append]
  apply wpS_seq
  apply wpS_region
  simp [wpOpsS, go_sem, recoverD, hu, Exit.thenS]
  refine wpS_of_wp (wp_mono (Q := bodyPost Try.prog Try.f47 (fun en w' => en = .returned (.tuple #[]) ∧ w' = w)) ?_ ?_)
  rotate_left
  · have hu2 : ({ c₀ with mode := .returning } : Frame) = c₀ := by rw [← hu]
    intro e a w1 hq
    have := post_S (c₀ := c₀) (cs := cs) (u' := .returning) hq
    rwa [hu2] at this
  have HU := Lib.hid hu
  clear hu
  go_wp2
  go_end0
  exact ⟨rfl, rfl⟩

end Go.Proofs.Ytejadoadpgcpjaa
