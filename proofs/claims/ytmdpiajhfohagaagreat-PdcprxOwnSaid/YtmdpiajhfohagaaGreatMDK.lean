/- law 46: what take does with the reference's PDUs, with integrity too, in plain Lean; data, PDU and Receive of any configuration without compression. PdcprxSequence in plain Lean: the COUNT of a sequence number, and what Receive computes for the one PDU. -/
import Derived.Test.YtmdpiajhfohagaaGreatMDF
import Derived.Test.YtmdpiajhfohagaaGreatMDH
import Derived.Test.YtmdpiajhfohagaaGreatMRI
import Derived.Test.YtmdpiajhfohagaaGreatMDJ
namespace Go.Proofs.YtmdpiajhfohagaaGreat
open Go.RowKit
set_option linter.unusedVariables false
set_option linter.unusedSimpArgs false

section
variable {key z z' : Nat → Nat} {n : Nat}
theorem blkAt_congr (h : ∀ j, j < n → z j = z' j) (q : Nat) : blkAt z n q = blkAt z' n q := by
  funext j
  unfold blkAt
  split
  · exact h _ (by assumption)
  · rfl
theorem macS_congr (h : ∀ j, j < n → z j = z' j) : ∀ q, macS key z n q = macS key z' n q
  | 0 => rfl
  | q + 1 => by
    show aesF key (plusB (macS key z n q) (macB key z n q)) = aesF key (plusB (macS key z' n q) (macB key z' n q))
    rw [macS_congr h q]
    unfold macB
    rw [blkAt_congr h q]
end
theorem codeF_congr {key : Nat → Nat} {ct b d : Nat} {z z' : Nat → Nat} {n : Nat} (h : ∀ j, j < n → z j = z' j) : codeF key ct b d z n = codeF key ct b d z' n := by
  have e : macF key (catF (halfB (pfx ct b d)) 8 z) (8 + n) = macF key (catF (halfB (pfx ct b d)) 8 z') (8 + n) := by
    unfold macF
    refine macS_congr (fun j hj => ?_) _
    unfold catF
    split
    · rfl
    · exact h _ (by omega)
  unfold codeF
  rw [e]
theorem byte4_sum {M : Nat} (h : M < 4294967296) : byte4 M 0 * 16777216 + byte4 M 1 * 65536 + byte4 M 2 * 256 + byte4 M 3 = M := by
  unfold byte4
  simp only [Nat.mul_zero, Nat.sub_zero, Nat.reduceMul, Nat.reduceSub, Nat.reducePow]
  omega
theorem pdu_least (cf : Cfg) (n : Nat) : dataN cf (pduN cf n) = n ∧ cf.least ≤ pduN cf n ∧ pduN cf n ≤ n + 6 ∧ (cf.ig = true → pduN cf n = n + 6) := by
  unfold dataN pduN plainN Cfg.least
  cases hig : cf.ig
  · exact ⟨by simp, by simp, by simp; omega, fun h => by cases h⟩
  · exact ⟨by simp; omega, by simp; omega, by simp; omega, fun _ => by simp; omega⟩
theorem plainZ_at (cf : Cfg) (ct n : Nat) (z : Nat → Nat) (j : Nat) (hj : j < n) : plainZ cf ct n z j = z j := by
  unfold plainZ catF
  rw [if_pos hj]
theorem code_pdu (cf : Cfg) (hok : cf.Ok) (ct n : Nat) (z : Nat → Nat) (hz : ∀ j, j < n → z j < 256) : codeOk cf ct (pduN cf n) (pduZ cf ct n z) = true := by
  unfold codeOk
  cases hig : cf.ig
  · rfl
  · obtain ⟨hd, _⟩ := pdu_least cf n
    have hw : wantM cf ct (pduN cf n) (pduZ cf ct n z) = codeF (nf cf.code) ct cf.b.toNat cf.d.toNat (catF (hdB ct) 2 z) (2 + n) := by
      unfold wantM
      rw [hd]
      refine codeF_congr (fun j hj => ?_)
      unfold catF
      split
      · unfold pduZ catF
        rw [if_pos (by assumption)]
      · rw [dataZ_back, plainZ_at cf ct n z _ (by omega)]
    have hl : codeF (nf cf.code) ct cf.b.toNat cf.d.toNat (catF (hdB ct) 2 z) (2 + n) < 4294967296 := codeF_lt ct _ _ (fun j hj => nf_lt hok.code hj) (catF_lt (fun j _ => hdB_lt ct j) hz)
    have hp : ∀ j, plainZ cf ct n z (n + j) = byte4 (codeF (nf cf.code) ct cf.b.toNat cf.d.toNat (catF (hdB ct) 2 z) (2 + n)) j := fun j => by
      unfold plainZ
      rw [show catF z n (byte4 (codeF (nf cf.code) ct cf.b.toNat cf.d.toNat (catF (hdB ct) 2 z) (2 + n))) (n + j) = byte4 (codeF (nf cf.code) ct cf.b.toNat cf.d.toNat (catF (hdB ct) 2 z) (2 + n)) (n + j - n) from if_neg (by omega), show n + j - n = j by omega]
    have hh : hasM cf ct (pduN cf n) (pduZ cf ct n z) = codeF (nf cf.code) ct cf.b.toNat cf.d.toNat (catF (hdB ct) 2 z) (2 + n) := by
      unfold hasM
      simp only
      rw [hd, dataZ_back, dataZ_back, dataZ_back, dataZ_back, hp, hp, hp, hp]
      exact byte4_sum hl
    rw [hw, hh]
    simp
theorem take_pduI (s : RS) (hck : s.C.Ok) (ct n : Nat) (z : Nat → Nat) (h1 : 1 ≤ n) (h9 : n ≤ 9000) (hz8 : ∀ j, j < n → z j < 256) (hc : cntOf s.deliver ((ct % 4096 : Nat) : Int) = some (ct : Int)) :
    s.take (pduN s.C n) (pduZ s.C ct n z) = if stored s.L ct = true ∨ (ct : Int) < s.deliver then (0, false, { s with dup := s.dup + 1 }) else (0, true, { s with L := insV (svP s.C ct n z) s.L, next := max s.next ((ct : Int) + 1) }) := by
  obtain ⟨hd, hl, hm, _⟩ := pdu_least s.C n
  have hz : (fun j => ((dataZ s.C ct (pduZ s.C ct n z) j : Nat) : Int)) = fun j => ((plainZ s.C ct n z j : Nat) : Int) := funext fun j => by rw [dataZ_back]
  have hco : ¬ codeOk s.C ct (pduN s.C n) (pduZ s.C ct n z) = false := by rw [code_pdu s.C hck ct n z hz8]; decide
  unfold RS.take
  rw [if_neg (by omega), if_neg (by rw [pduZ_0]; omega), snOf_pdu, hc]
  simp only [Int.toNat_natCast]
  rw [if_neg (by omega), if_neg hco, hd, hz]
  split
  · rfl
  · rw [if_neg (by omega), if_neg (by omega)]
    rfl
/-- Receive of a PDU while the timer does not run: a packet that is there already -/
theorem receive_dupI {s : RS} {t : Int} (ht : ¬ 1073741824 ≤ t) (hr : s.run = false) (hck : s.C.Ok) (ct n : Nat) (z : Nat → Nat) (h1 : 1 ≤ n) (h9 : n ≤ 9000) (hz8 : ∀ j, j < n → z j < 256) (hc : cntOf s.deliver ((ct % 4096 : Nat) : Int) = some (ct : Int)) (hd : stored s.L ct = true ∨ (ct : Int) < s.deliver) :
    s.receive t (pduN s.C n) (pduZ s.C ct n z) = ([], 0, { s.at_ t with dup := s.dup + 1 }) := by
  have he : (s.at_ t).expire = ([], s.at_ t) := expire_rest hr
  have hx := take_pduI (s.at_ t) hck ct n z h1 h9 hz8 hc
  rw [if_pos (show stored (s.at_ t).L ct = true ∨ (ct : Int) < (s.at_ t).deliver from hd)] at hx
  unfold RS.receive
  rw [if_neg ht]
  simp only [he]
  rw [show pduN s.C n = pduN (s.at_ t).C n from rfl, show pduZ s.C ct n z = pduZ (s.at_ t).C ct n z from rfl, hx]
  rfl
/-- .. and a new one -/
theorem receive_newI {s : RS} {t : Int} (ht : ¬ 1073741824 ≤ t) (hr : s.run = false) (hck : s.C.Ok) (ct n : Nat) (z : Nat → Nat) (h1 : 1 ≤ n) (h9 : n ≤ 9000) (hz8 : ∀ j, j < n → z j < 256) (hc : cntOf s.deliver ((ct % 4096 : Nat) : Int) = some (ct : Int)) (hd : ¬ (stored s.L ct = true ∨ (ct : Int) < s.deliver)) (s2 : RS) (h2 : s2 = { s.at_ t with L := insV (svP s.C ct n z) s.L, next := max s.next ((ct : Int) + 1) }) :
    s.receive t (pduN s.C n) (pduZ s.C ct n z) = (s2.deliver_.1, 0, s2.deliver_.2.timer) := by
  have he : (s.at_ t).expire = ([], s.at_ t) := expire_rest hr
  have hx := take_pduI (s.at_ t) hck ct n z h1 h9 hz8 hc
  rw [if_neg (show ¬ (stored (s.at_ t).L ct = true ∨ (ct : Int) < (s.at_ t).deliver) from hd)] at hx
  unfold RS.receive
  rw [if_neg ht]
  simp only [he]
  rw [show pduN s.C n = pduN (s.at_ t).C n from rfl, show pduZ s.C ct n z = pduZ (s.at_ t).C ct n z from rfl, hx, h2]
  rfl
theorem dataAll_any (g : Nat) (C : Cfg) (W R : Nat → Prop) (sb ub eb : Nat) (A : Option Addr) (n c : Nat) (z : Nat → Nat) (hok : C.Ok) (hv : C.Valid) (hn : C.ig = true → 6 ≤ n ∧ n ≤ 9006) (hnc : n ≤ c) (hz : ∀ j, j < n → z j < 256) : DataAll g C W R sb ub eb A n c z := by
  cases hig : C.ig
  · exact dataAll_plain g C W R sb ub eb A n c z hok hv hig hnc hz
  · exact fun s' l' w' hC h hr hn2 ct W' hct hb => by
      subst hC
      exact data_ig g s' W R sb l' ub eb W' (h.below hb) hok hv hig ct hct A n c z (hn hig).1 (hn hig).2 hnc hz (hr.next hb)
/-- Receive of a PDU that the reference made -/
theorem recv_pdu (g : Nat) (s : RS) (W R : Nat → Prop) (sb : Nat) (l : List SE) (ub eb : Nat) (w : World) (h : RxM w g s W R sb l ub eb) (hok : s.C.Ok) (hv : s.C.Valid) (hcm : s.C.cm = false) (hl : l.length ≤ 12) (hdup : s.dup < 4611686018427387903) (t : Int)
    (A : Option Addr) (m c : Nat) (ct : Nat) (z : Nat → Nat) (h1 : 1 ≤ m) (h9 : m ≤ 9000) (hz : ∀ j, j < m → z j < 256) (hmc : pduN s.C m ≤ c) (hr : Row w w.heap.size A (pduN s.C m) (fun j => .int .u8 ((pduZ s.C ct m z j : Nat) : Int))) (hA : ∀ a, A = some a → ¬ W a.block) :
    Calls Tryz.prog 11 #[.pointer (some ⟨g, 0, none⟩), .int .i64 t, .slice A (pduN s.C m) c] w (RecvO g s W R sb ub eb t (pduN s.C m) (pduZ s.C ct m z) w) := by
  obtain ⟨_, _, hm6, hig⟩ := pdu_least s.C m
  have hzz : ∀ j, j < pduN s.C m → pduZ s.C ct m z j < 256 := fun j _ => pduZ_lt hok.keyN hz j
  exact receive_ok g s W R sb l ub eb w h hok hcm ⟨hv.2.2.2.2.2.1, hv.2.2.2.2.2.2⟩ hl hdup t A (pduN s.C m) c _ (by omega) hmc hzz hr hA (dataAll_any g s.C W R sb ub eb A _ c _ hok hv (fun h => by rw [hig h]; omega) hmc hzz)
/-- the reference's PDU -/
theorem rpdu_any (cf : Cfg) (hok : cf.Ok) (hv : cf.Valid) (ct : Nat) (hct : ct < 4294967296) (A : Option Addr) (n c : Nat) (z : Nat → Nat) (hp1 : 1 ≤ n) (hp9 : n ≤ 9000) (w : World) (hr : Row w w.heap.size A n (fun j => .int .u8 ((z j : Nat) : Int))) (hz : ∀ j, j < n → z j < 256) :
    Calls Tryz.prog 12 #[.agg cf.arr, .int .u32 ct, .slice A n c] w (PduC cf ct n z w) := by
  cases hig : cf.ig
  · exact rpdu_plain cf hok hv hig ct hct A n c z hp1 hp9 w hr hz
  · exact rpdu_ig cf hok hv hig ct hct A n c z hp1 hp9 w hr hz
end Go.Proofs.YtmdpiajhfohagaaGreat
namespace Go.Proofs.YtmdpiajhfohagaaGreat
open Go.RowKit
set_option linter.unusedVariables false
set_option linter.unusedSimpArgs false

theorem cnt_seq {d : Int} {ct : Nat} (h0 : 0 ≤ d) (h1 : d ≤ 4294967296) (hc : ct < 4294967296) (h2 : d - 2048 ≤ (ct : Int)) (h3 : (ct : Int) ≤ d + 2047) : cntOf d ((ct % 4096 : Nat) : Int) = some (ct : Int) := by
  have hh : cntH d ((ct % 4096 : Nat) : Int) = (ct : Int) / 4096 := by
    unfold cntH
    split
    · omega
    · split
      · omega
      · omega
  unfold cntOf
  rw [hh, if_pos (by omega)]
  congr 1
  omega
theorem still_ro {s : RS} (h1 : s.run = false) (h2 : s.C.ro = 0) : s.timer = s := timer_still h1 (fun h => by rw [h2] at h; omega)
/-- the state that Resume makes, with nothing stored, and one PDU -/
theorem seq_neg (cf : Cfg) (hok : cf.Ok) (hro : cf.ro = 0) (X : Obj) (d : Int) (h0 : 0 ≤ d) (h1 : d ≤ 4294967296) (ct n : Nat) (z : Nat → Nat) (hn1 : 1 ≤ n) (hn9 : n ≤ 9000) (hz : ∀ j, j < n → z j < 256) (hc : ct < 4294967296) (h2 : d - 2048 ≤ (ct : Int)) (h3 : (ct : Int) < d) :
    ∃ s', (rresS cf X d d []).receive 0 (pduN cf n) (pduZ cf ct n z) = ([], 0, s') ∧ s'.deliver = d ∧ s'.next = d ∧ s'.L = [] ∧ s'.dup = 1 ∧ s'.C = cf ∧ s'.run = false :=
  ⟨_, receive_dupI (s := rresS cf X d d []) (t := 0) (by omega) rfl hok ct n z hn1 hn9 hz (cnt_seq h0 h1 hc h2 (by show (ct : Int) ≤ d + 2047; omega)) (.inr h3), rfl, rfl, rfl, rfl, rfl, rfl⟩
theorem seq_zero (cf : Cfg) (hok : cf.Ok) (hro : cf.ro = 0) (X : Obj) (ct n : Nat) (z : Nat → Nat) (hn1 : 1 ≤ n) (hn9 : n ≤ 9000) (hz : ∀ j, j < n → z j < 256) (hc : ct < 4294967296) :
    ∃ s', (rresS cf X ct ct []).receive 0 (pduN cf n) (pduZ cf ct n z) = ([svP cf ct n z], 0, s') ∧ s'.deliver = (ct : Int) + 1 ∧ s'.next = (ct : Int) + 1 ∧ s'.L = [] ∧ s'.dup = 0 ∧ s'.C = cf ∧ s'.run = false := by
  have h := receive_newI (s := rresS cf X ct ct []) (t := 0) (by omega) rfl hok ct n z hn1 hn9 hz (cnt_seq (by show (0 : Int) ≤ (ct : Int); omega) (by show (ct : Int) ≤ _; omega) hc (by show (ct : Int) - 2048 ≤ _; omega) (by show (ct : Int) ≤ (ct : Int) + 2047; omega))
    (by rintro (h | h); exact stored_no [] _ (fun e he => by cases he) h; exact absurd h (by show ¬ (ct : Int) < (ct : Int); omega)) ⟨cf, 0, ct, (ct : Int) + 1, [svP cf ct n z], false, 0, 0, [kArr cf.key], X, 0⟩ (by
      unfold rresS RS.at_
      have : max (ct : Int) ((ct : Int) + 1) = (ct : Int) + 1 := by omega
      simp only [this]
      rfl)
  have hf : fromL [svP cf ct n z] (ct : Int) = ([svP cf ct n z], [], (ct : Int) + 1) := by rw [from_eq (svP cf ct n z) [] (ct : Int) rfl]; rfl
  have hd : (⟨cf, 0, ct, (ct : Int) + 1, [svP cf ct n z], false, 0, 0, [kArr cf.key], X, 0⟩ : RS).deliver_ = ([svP cf ct n z], ⟨cf, 0, (ct : Int) + 1, (ct : Int) + 1, [], false, 0, 0, [kArr cf.key], X, 0⟩) := by
    unfold RS.deliver_
    show ((fromL [svP cf ct n z] (ct : Int)).1, _) = _
    rw [hf]
  rw [hd] at h
  simp only at h
  rw [still_ro rfl hro] at h
  exact ⟨_, h, rfl, rfl, rfl, rfl, rfl, rfl⟩
theorem seq_pos (cf : Cfg) (hok : cf.Ok) (hro : cf.ro = 0) (X : Obj) (d : Int) (h0 : 0 ≤ d) (ct n : Nat) (z : Nat → Nat) (hn1 : 1 ≤ n) (hn9 : n ≤ 9000) (hz : ∀ j, j < n → z j < 256) (hc : ct < 4294967296) (h2 : d < (ct : Int)) (h3 : (ct : Int) ≤ d + 2047) :
    ∃ s', (rresS cf X d d []).receive 0 (pduN cf n) (pduZ cf ct n z) = ([], 0, s') ∧ s'.deliver = d ∧ s'.next = (ct : Int) + 1 ∧ s'.L = [svP cf ct n z] ∧ s'.dup = 0 ∧ s'.C = cf ∧ s'.run = false := by
  have h := receive_newI (s := rresS cf X d d []) (t := 0) (by omega) rfl hok ct n z hn1 hn9 hz (cnt_seq h0 (by show d ≤ _; omega) hc (by show d - 2048 ≤ _; omega) h3)
    (by rintro (h | h); exact stored_no [] _ (fun e he => by cases he) h; exact absurd h (by show ¬ (ct : Int) < d; omega)) ⟨cf, 0, d, (ct : Int) + 1, [svP cf ct n z], false, 0, 0, [kArr cf.key], X, 0⟩ (by
      unfold rresS RS.at_
      have : max d ((ct : Int) + 1) = (ct : Int) + 1 := by omega
      simp only [this]
      rfl)
  have hf : fromL [svP cf ct n z] d = ([], [svP cf ct n z], d) := from_ne _ _ _ (by show (ct : Int) ≠ d; omega)
  have hd : (⟨cf, 0, d, (ct : Int) + 1, [svP cf ct n z], false, 0, 0, [kArr cf.key], X, 0⟩ : RS).deliver_ = ([], ⟨cf, 0, d, (ct : Int) + 1, [svP cf ct n z], false, 0, 0, [kArr cf.key], X, 0⟩) := by
    unfold RS.deliver_
    show ((fromL [svP cf ct n z] d).1, _) = _
    rw [hf]
  rw [hd] at h
  simp only at h
  rw [still_ro rfl hro] at h
  exact ⟨_, h, rfl, rfl, rfl, rfl, rfl, rfl⟩
end Go.Proofs.YtmdpiajhfohagaaGreat
