import Derived.Test.YtmdpiajhfohagaaGreatMGD
import Derived.Deep.RegionHeld3
import Derived.Lib.SliceRun
import Derived.Deep.Upon
namespace Go.Proofs.YtmdpiajhfohagaaGreat
open Go.RowKit
set_option linter.unusedVariables false
attribute [local go_sem ↓] Go.wp_at_zero Go.wp_at_succ
end Go.Proofs.YtmdpiajhfohagaaGreat
namespace Go.Proofs.YtmdpiajhfohagaaGreat
open Go.RowKit
set_option linter.unusedVariables false
attribute [local go_sem ↓] Go.wp_at_zero Go.wp_at_succ
section
variable {P : Program}
theorem sl_append_room (w : World) (t tx ty e : TypeId) (i : TypeInfo) (sz : Nat) (ht : P.underlying t = some (.slice e)) (hi : P.info? e = some i) (hsize : i.size = sz)
  {b o n c : Nat} {xs : List Value} (h : SL w e sz (some ⟨b, o, none⟩) n c xs) (x : Value) (m : Nat) (news : List Value) (hs : Src P sz tx x m news w) (hroom : n + m ≤ c) :
  ∃ w', (Builtin.append_ #[t, tx] ty #[.slice (some ⟨b, o, none⟩) n c, x]).run P w = .ok (.slice (some ⟨b, o, none⟩) (n + m) c) w' ∧ SL w' e sz (some ⟨b, o, none⟩) (n + m) c (xs ++ news) ∧ KeepF (fun k => k = b) w w' := by
 subst hsize
 have hlen : (xs ++ news).length = (n + m) * i.size := by rw [List.length_append, h.len, hs.newsLen, Nat.add_mul]
 rcases h.at_ with ⟨hA, _⟩ | ⟨b', o', cur, hA, h2, h3, h4, h5, h6⟩
 ·cases hA
 cases hA
 rcases Nat.eq_zero_or_pos m with rfl | hm
 ·have hn0 : news = [] := List.eq_nil_of_length_eq_zero (by rw [hs.newsLen]; simp)
  subst hn0
  exact ⟨w, run_append_nothing w t tx ty e i ht hi _ n c h3 x hs, by simpa using h, KeepF.refl⟩
 have hB : Blk w b e cur := h2
 have hle : o + (n + m) * i.size ≤ cur.size := Nat.le_trans (Nat.add_le_add_left (Nat.mul_le_mul_right _ hroom) _) h5
 have hnl := hs.newsLen
 have hadd : (n + m) * i.size = n * i.size + news.length := by rw [Nat.add_mul, hnl]
 have hr := run_append_room_src (P := P) w t tx ty e i ht hi b o n c x m news hs hroom (fun j hj => by rw [hB.cell]; rw [Array.getElem?_eq_getElem (by omega)]; rfl) (fun j _ => hB.frozen _)
 refine ⟨_, hr, ⟨hlen, .inr ⟨b, o, _, rfl, ts_setCells news (o + n * i.size) w cur hB, hroom, h4, by rw [tsAll_size]; exact h5, fun j hj => ?_⟩⟩, ts_keep (F := fun k => k = b) (b := b) rfl news _ w⟩
 by_cases hjn : j < n * i.size
 ·rw [tsAll_out news _ cur _ (.inl (by omega)), h6 j hjn, List.getElem?_append_left (by rw [h.len]; exact hjn)]
 ·have := tsAll_in news (o + n * i.size) cur (j - n * i.size) (by omega) (by omega)
  rw [show o + n * i.size + (j - n * i.size) = o + j by omega] at this
  rw [this, List.getElem?_append_right (by rw [h.len]; omega), h.len]
end
theorem SL.take {w : World} {e : TypeId} {sz : Nat} {A : Option Addr} {n c : Nat} {xs : List Value} (h : SL w e sz A n c xs) (k : Nat) (hk : k ≤ n) : SL w e sz A k c (xs.take (k * sz)) := by
 have hm : k * sz ≤ n * sz := Nat.mul_le_mul_right _ hk
 refine ⟨by rw [List.length_take, h.len]; omega, ?_⟩
 rcases h.at_ with ⟨h1, h2, h3⟩ | ⟨b, o, cur, h1, h2, h3, h4, h5, h6⟩
 ·exact .inl ⟨h1, by omega, h3⟩
 ·exact .inr ⟨b, o, cur, h1, h2, by omega, h4, h5, fun j hj => by rw [h6 j (by omega), List.getElem?_take, if_pos hj]⟩
theorem SL.past {w : World} {e : TypeId} {sz : Nat} {b o n c : Nat} {xs : List Value} (h : SL w e sz (some ⟨b, o, none⟩) n c xs) (k : Nat) (hk : n * sz ≤ k) (cs : List Value) : SL (w.setCells b (o + k) cs) e sz (some ⟨b, o, none⟩) n c xs := by
 refine ⟨h.len, ?_⟩
 rcases h.at_ with ⟨h1, h2, h3⟩ | ⟨b', o', cur, h1, h2, h3, h4, h5, h6⟩
 ·cases h1
 ·cases h1
  exact .inr ⟨b, o, _, rfl, ts_setCells cs (o + k) w cur h2, h3, h4, by rw [tsAll_size]; exact h5, fun j hj => by rw [tsAll_out cs _ cur _ (.inl (by omega)), h6 j hj]⟩
theorem SL.room {w : World} {e : TypeId} {sz : Nat} {b o n c : Nat} {xs : List Value} (h : SL w e sz (some ⟨b, o, none⟩) n c xs) {j : Nat} (hj : j < c * sz) : (w.cell? ⟨b, o + j, none⟩).isSome = true := by
 rcases h.at_ with ⟨h1, h2, h3⟩ | ⟨b', o', cur, h1, h2, h3, h4, h5, h6⟩
 ·cases h1
 ·cases h1
  rw [(show Blk w b e cur from h2).cell, Array.getElem?_eq_getElem (by omega)]
  rfl
end Go.Proofs.YtmdpiajhfohagaaGreat
namespace Go.Proofs.YtmdpiajhfohagaaGreat
open Go.RowKit
set_option linter.unusedVariables false
attribute [local go_sem ↓] Go.wp_at_zero Go.wp_at_succ
theorem wp_sl_room {P : Program} {op : Oper} {a : Act} {K : Act → World → Prop} {Q : Exit → Act → World → Prop} (s x : Operand) (t tx : TypeId) (ho : op.op = .call { callee := .builtin .append, args := #[s, x], argTypes := #[t, tx] })
  (w : World) (e : TypeId) (i : TypeInfo) (sz : Nat) (ht : P.underlying t = some (.slice e)) (hi : P.info? e = some i) (hsize : i.size = sz) (b o n c : Nat) (xs : List Value) (hsv : a.eval s = .slice (some ⟨b, o, none⟩) n c) (h : SL w e sz (some ⟨b, o, none⟩) n c xs)
  (xv : Value) (hxv : a.eval x = xv) (m : Nat) (news : List Value) (hs : Src P sz tx xv m news w) (hroom : n + m ≤ c)
  (hK : ∀ w', SL w' e sz (some ⟨b, o, none⟩) (n + m) c (xs ++ news) → KeepF (fun k => k = b) w w' → K (a.put op.dst (.slice (some ⟨b, o, none⟩) (n + m) c)) w') : op.wp P a w K Q := by
 have hf := fun ty => @sl_append_room P w t tx ty e i sz ht hi hsize b o n c xs h xv m news hs hroom
 obtain ⟨w', hrun, h1, h2⟩ := hf op.type
 unfold Oper.wp execOp
 simp only [ho, resolve, invoke, builtin, Sem.run_bind, Sem.run_pure, Result.andThen_ok, List.map_toArray, List.map_cons, List.map_nil, hsv, hxv, hrun]
 exact hK w' h1 h2
end Go.Proofs.YtmdpiajhfohagaaGreat
