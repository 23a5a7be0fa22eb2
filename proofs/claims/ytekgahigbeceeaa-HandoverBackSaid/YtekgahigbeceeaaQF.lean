/- Contract of the reference's Params and At at a block size. -/
import Derived.Test.YtekgahigbeceeaaQE
namespace Go.Proofs.Ytekgahigbeceeaa
open Go.RowKit

def prod (l : List Nat) : Nat := l.foldl (· * ·) 1
theorem prod_snoc (l : List Nat) (p : Nat) : prod (l ++ [p]) = prod l * p := by simp [prod]
theorem prod_pre (a r l : List Nat) (h : a ++ r = l) (hp : ∀ x ∈ l, 1 ≤ x) : prod a ≤ prod l := by
  have e : a = l.take a.length := by rw [← h]; simp
  have := prodTo_le l a.length hp
  unfold prodTo at this
  rw [← e] at this
  exact this
theorem f1go_le (k : Nat) : ∀ f n, QM.f1go k f n ≠ 0 → n ≤ QM.f1go k f n
  | 0, n, h => absurd rfl h
  | f + 1, n, h => by
    unfold QM.f1go at h ⊢
    cases hc : Nat.beq (Nat.gcd n k) 1 with
    | true => simp
    | false =>
      rw [hc] at h
      simp only [cond_false] at h ⊢
      have := f1go_le k f (n + 2) h
      omega

set_option maxRecDepth 100000 in
set_option maxHeartbeats 1600000 in
theorem refparams_good (k : Nat) (hv : QM.valid k = true) (w : World) :
    Calls Try.prog 22 #[.int .i64 k] w fun e w' => e = .returned (.tuple #[.int .i64 (QM.f1 k : Nat), .int .i64 (QM.f2 k : Nat), .int .i64 0]) ∧ Below w.heap.size w w' := by
  obtain ⟨hk1, hk2, hlen, hD, hfl, h31, h43, h12, h62⟩ := good_facts k hv
  have hvI : validI k = true := by rw [validI_nat]; exact hv
  have hg := QM.good_of k hv
  simp only [QM.good, Bool.and_eq_true, Nat.ble_eq] at hg
  obtain ⟨⟨⟨⟨⟨⟨⟨⟨⟨⟨⟨⟨⟨⟨he, _⟩, _⟩, _⟩, _⟩, _⟩, _⟩, _⟩, _⟩, _⟩, _⟩, _⟩, _⟩, _⟩, _⟩ := hg
  have hpos : ∀ x ∈ QM.D k, 1 ≤ x := by
    intro x hx
    obtain ⟨j, hj, rfl⟩ := List.mem_iff_getElem.1 hx
    have := (hD j hj).1
    rw [List.getElem?_eq_getElem hj] at this
    simpa using (show 1 ≤ (QM.D k)[j] from by simp at this; omega)
  have HE0 := Lib.hid he
  have HP := Lib.hid hpos
  have HVI := Lib.hid hvI
  clear he hv hpos hD hfl
  go_enter Try.func22, Try.ntmps22
  go_wp2_with (go_at_call 39; refine (refvalid_any k _).mono ?_; rintro e w1 ⟨rfl, rfl⟩; rw [HVI.out])
  go_loop [5, 6, 7] (fun v5 v6 v7 => ∃ (f p l : Nat) (acc : List Nat), p + f = 102 ∧ 2 ≤ p ∧ v7 = .int .i64 p ∧ v6 = .int .i64 l ∧ v5 = .int .i64 (prod acc : Nat) ∧ 1 ≤ l ∧ l ≤ 6144 ∧
      Hid (acc ++ QM.divs f p l = QM.D k) ∧ Hid (QM.ends f p l = true)) (fun _ _ v7 => (103 - intOf v7).toNat)
  case atStart => exact ⟨100, 2, k, [], rfl, by omega, rfl, rfl, rfl, by omega, by omega, rfl, HE0.out⟩
  case round =>
    obtain ⟨f, p, l, acc, hpf, hp2, rfl, rfl, rfl, hl1, hl2, hD, hE⟩ := hrel
    by_cases hl : 1 < l
    · obtain ⟨g, rfl, hs1, hs2, hs3⟩ := ends_step hE.out hl
      obtain ⟨S, hS⟩ : ∃ S, S = QM.strip 13 p l := ⟨_, rfl⟩
      rw [← hS] at hs1 hs2 hs3
      have HS := Lib.hid hS
      have H2 := Lib.hid hs2
      have H3 := Lib.hid hs3
      have hpl : p ≤ 101 := by omega
      clear hS hs2 hs3
      obtain ⟨acc', hD', hst⟩ : ∃ acc', Hid (acc' ++ QM.divs g (p + 1) S = QM.D k) ∧ (if l % p = 0 then prod acc' = prod acc * p else acc' = acc) := by
        by_cases hd : l % p = 0
        · refine ⟨acc ++ [p], ?_, ?_⟩
          · have := hD.out
            rw [divs_hit hl hd, ← HS.out] at this
            exact (List.append_assoc ..).trans this
          · rw [if_pos hd, prod_snoc]
        · refine ⟨acc, ?_, by rw [if_neg hd]⟩
          have := hD.out
          rw [divs_miss hl hd, ← HS.out] at this
          exact this
      have hb' : prod acc' ≤ 6144 := Nat.le_trans (prod_pre _ _ _ hD'.out HP.out) h62
      clear hD
      by_cases hd : l % p = 0
      all_goals
        first
        | (have e0 : (((l : Int) % (p : Int)) == 0) = true := by simp; omega)
        | (have e0 : (((l : Int) % (p : Int)) == 0) = false := by simp; omega)
        first
        | (rw [if_pos hd] at hst
           have q0 : 0 ≤ ((prod acc : Nat) : Int) * (p : Int) := by rw [← Int.natCast_mul]; omega
           have q1 : ((prod acc : Nat) : Int) * (p : Int) ≤ 6144 := by rw [← Int.natCast_mul]; omega)
        | (rw [if_neg hd] at hst)
        have HST := Lib.hid hst
        have HD0 := Lib.hid hd
        clear hd hst
        go_wp2
        go_loop [6] (fun v0 => ∃ (f l : Nat), v0 = .int .i64 l ∧ 1 ≤ l ∧ l ≤ 6144 ∧ Hid (QM.strip f p l = S)) (fun v0 => (intOf v0).toNat)
        case atStart => exact ⟨13, l, rfl, hl1, hl2, HS.out.symm⟩
        case round =>
          obtain ⟨f2, l2, rfl, hl21, hl22, h2⟩ := hrel
          by_cases hd2 : l2 % p = 0
          · have e2 : (((l2 : Int) % (p : Int)) == 0) = true := by simp; omega
            obtain ⟨g2, hg2⟩ := strip_step h2.out H2.out hd2
            have hge : p ≤ l2 := by
              rcases Nat.lt_or_ge l2 p with hlt | hge
              · rw [Nat.mod_eq_of_lt hlt] at hd2; omega
              · exact hge
            have hdiv : 1 ≤ l2 / p := Nat.div_pos hge (by omega)
            have hdl : l2 / p < l2 := Nat.div_lt_self (by omega) (by omega)
            have G2 := Lib.hid hg2
            clear hg2 hd2
            go_wp2
            go_round
            case rel => exact ⟨g2, l2 / p, by go_num, hdiv, by omega, G2.out⟩
            case measure => simp [intOf]; omega
          · have e2 : (((l2 : Int) % (p : Int)) == 0) = false := by simp; omega
            have hfin := Lib.hid (strip_end h2.out hd2)
            go_wp2
            go_round
            case rel => exact ⟨g, p + 1, S, acc', by omega, by omega, by go_num, by rw [hfin.out], by first | (rw [HST.out]; simp; done) | rw [HST.out], by omega, by have := hfin.out; omega, hD', H3⟩
            case measure => simp [intOf]; omega
    · have hacc : prod acc = QM.f2 k := by
        have := hD.out
        rw [divs_end (by omega)] at this
        have e : acc = QM.D k := by simpa using this
        rw [e]; rfl
      have HA := Lib.hid hacc
      clear hacc
      go_wp2
      go_loopw [8] (fun v8 wr => ∃ n f : Nat, 3 ≤ n ∧ n ≤ 43 ∧ v8 = .int .i64 n ∧ Below w.heap.size w wr ∧ Hid (QM.f1go k f n = QM.f1 k)) (fun v8 _ => (50 - intOf v8).toNat)
      case atStart => exact ⟨3, 20, by omega, by omega, rfl, Below.refl _ _, rfl⟩
      case round =>
        obtain ⟨n, f, hn1, hn, rfl, hW, hf⟩ := hrel
        have hgp : 1 ≤ Nat.gcd n k := Nat.gcd_pos_of_pos_left _ (by omega)
        have hgn : Nat.gcd n k ≤ 43 := Nat.le_trans (Nat.le_of_dvd (by omega) (Nat.gcd_dvd_left n k)) hn
        obtain ⟨G, hG⟩ : ∃ G, G = Nat.gcd n k := ⟨_, rfl⟩
        have hGh := Lib.hid hG
        rw [← hG] at hgp hgn
        by_cases hc : G = 1
        · have hfin : n = QM.f1 k := by
            have h := hf.out
            rw [hc] at hG
            cases f with
            | zero => simp only [QM.f1go] at h; omega
            | succ g => simpa [QM.f1go, ← hG] using h
          have HN := Lib.hid hfin
          have hle : G ≤ 1 := by omega
          clear hfin hc hG
          go_wp2_with (go_at_call 47; refine (common_any n k _ (by omega) (by omega)).mono ?_; rintro e w3 ⟨rfl, hb3⟩; rw [← hGh.out])
          go_ret3
          exact ⟨by rw [HN.out, HA.out]; rfl, hW.trans (hb3.mono hW.size)⟩
        · obtain ⟨g, hg⟩ : ∃ g, QM.f1go k g (n + 2) = QM.f1 k := by
            have h := hf.out
            cases f with
            | zero => simp only [QM.f1go] at h; omega
            | succ g =>
              refine ⟨g, ?_⟩
              rw [hG] at hc
              simpa [QM.f1go, beq_ne hc] using h
          have hle : n + 2 ≤ QM.f1 k := by rw [← hg]; exact f1go_le _ _ _ (by rw [hg]; omega)
          have hgt : 1 < G := by omega
          have HG := Lib.hid hg
          clear hc hg hG
          go_wp2_with (go_at_call 47; refine (common_any n k _ (by omega) (by omega)).mono ?_; rintro e w3 ⟨rfl, hb3⟩; rw [← hGh.out])
          go_roundw
          case rel => exact ⟨n + 2, g, by omega, by omega, by go_num, hW.trans (hb3.mono hW.size), HG.out⟩
          case measure => simp [intOf]; omega

set_option maxHeartbeats 400000 in
theorem refat_good (k i : Nat) (hv : QM.valid k = true) (hi : i < k) (w : World) :
    Calls Try.prog 26 #[.int .i64 k, .int .i64 i] w fun e w' => e = .returned (.int .i64 (pi k i : Nat)) ∧ Below w.heap.size w w' := by
  obtain ⟨hk, hk2, _, _, _, _, ha, _, hb⟩ := good_facts k hv
  obtain ⟨a, hea⟩ : ∃ a, a = QM.f1 k := ⟨_, rfl⟩
  obtain ⟨b, heb⟩ : ∃ b, b = QM.f2 k := ⟨_, rfl⟩
  rw [← hea] at ha
  rw [← heb] at hb
  have h1 : 0 ≤ (a : Int) * (i : Int) := by rw [← Int.natCast_mul]; omega
  have h2 : (a : Int) * (i : Int) ≤ 37748736 := by rw [← Int.natCast_mul]; have := Nat.mul_le_mul ha (show i ≤ 6144 by omega); omega
  have h3 : 0 ≤ (b : Int) * (i : Int) := by rw [← Int.natCast_mul]; omega
  have h4 : (b : Int) * (i : Int) ≤ 37748736 := by rw [← Int.natCast_mul]; have := Nat.mul_le_mul hb (show i ≤ 6144 by omega); omega
  have h5 : 0 ≤ (b : Int) * (i : Int) % (k : Int) * (i : Int) := by rw [← Int.natCast_mul, ← Int.natCast_emod, ← Int.natCast_mul]; omega
  have h6 : (b : Int) * (i : Int) % (k : Int) * (i : Int) ≤ 37748736 := by
    rw [← Int.natCast_mul, ← Int.natCast_emod, ← Int.natCast_mul]
    have : b * i % k ≤ 6144 := by have := Nat.mod_lt (b * i) (show k > 0 by omega); omega
    have := Nat.mul_le_mul this (show i ≤ 6144 by omega)
    omega
  have hpi : Hid (((pi k i : Nat) : Int) = ((a : Int) * (i : Int) + (b : Int) * (i : Int) % (k : Int) * (i : Int)) % (k : Int)) := by
    show _ = _
    unfold pi
    rw [← hea, ← heb]
    simp
  have e1 : ((k : Int) == 0) = false := by simp; omega
  have HA := Lib.hid hea
  have HB := Lib.hid heb
  clear hea heb
  go_enter Try.func26, Try.ntmps26
  go_wp2_with (go_at_call 22; refine (refparams_good k hv _).mono ?_; rintro e w1 ⟨rfl, hb1⟩; rw [← HA.out, ← HB.out])
  go_ret
  exact ⟨ret_int hpi.out.symm, hb1⟩
end Go.Proofs.Ytekgahigbeceeaa
