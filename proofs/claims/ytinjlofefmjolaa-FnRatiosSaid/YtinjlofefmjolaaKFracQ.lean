/- Ratios: the plain law of what is asked of convergents, products, the nearest ratio. Conditions: none. -/
import Derived.Test.YtinjlofefmjolaaKFracU
import Derived.Test.YtinjlofefmjolaaKNearI
import Derived.Test.YtinjlofefmjolaaKRatD
namespace Go.Proofs.Ytinjlofefmjolaa.X
open Go.RowKit
set_option linter.unusedVariables false
set_option linter.unusedSimpArgs false
set_option maxRecDepth 100000
theorem CF.cop {P Q : Int} {N : Nat} (C : CF P Q N) (n : Nat) : Int.gcd (hS P Q (n + 1)).1 (hS P Q (n + 1)).2 = 1 := by
  refine Int.gcd_eq_one_iff.2 fun c h1 h2 => ?_
  have h := Int.dvd_sub (Int.dvd_trans h1 (Int.dvd_mul_right _ (hS P Q n).2)) (Int.dvd_trans h2 (Int.dvd_mul_left (hS P Q n).1 _))
  rw [C.det n] at h
  rcases sg_one n with e | e
  · rw [e] at h; exact h
  · rw [e] at h; exact Int.dvd_neg.1 h
theorem CF.rt {P Q : Int} {N : Nat} (C : CF P Q N) {n : Nat} (h1 : 1 ≤ n) (hn : n ≤ N) (hz : ¬ P < Q ∨ 2 ≤ n) : RtOK (hS P Q (n + 1)) ∧ (hS P Q (n + 1)).1 ≤ 65536 ∧ (hS P Q (n + 1)).2 ≤ 65536 := by
  have a := C.ppos n hn h1 (by omega)
  have b := C.qpos n hn h1
  have c := C.hle n hn
  have p := C.p
  have q := C.q
  exact ⟨⟨⟨a, by omega⟩, ⟨b, by omega⟩, C.cop n⟩, by omega, by omega⟩
theorem CF.stepR {P Q : Int} {N : Nat} (C : CF P Q N) {n : Nat} (h1 : 1 ≤ n) (hn : n < N) :
    ∃ a b : Int, sgnI ((hS P Q (n + 1)).1 * Q - P * (hS P Q (n + 1)).2) = a ∧ sgnI ((hS P Q (n + 2)).1 * Q - P * (hS P Q (n + 2)).2) = b ∧ (a = 1 ∨ a = -1) ∧ (b = -a ∨ b = 0) ∧ (hS P Q (n + 1)).2 ≤ (hS P Q (n + 2)).2 ∧ (hS P Q (n + 1)).1 * (hS P Q (n + 2)).2 - (hS P Q (n + 2)).1 * (hS P Q (n + 1)).2 = a := by
  have s1 := C.side n (by omega)
  have s2 := C.side (n + 1) (by omega)
  have p := C.pos n hn
  have q := (C.bd (n + 1) (by omega)).2.1
  have d : (hS P Q (n + 2)).1 * (hS P Q (n + 1)).2 - (hS P Q (n + 1)).1 * (hS P Q (n + 2)).2 = sg (n + 1) := C.det (n + 1)
  have m := C.qmono n hn h1
  have sg1 : sg (n + 1) = - sg n := rfl
  have hd : (hS P Q (n + 1)).1 * (hS P Q (n + 2)).2 - (hS P Q (n + 2)).1 * (hS P Q (n + 1)).2 = sg n := by rw [sg1] at d; omega
  rw [s1, s2, hd, sg1]
  rcases sg_one n with e | e
  · rw [e]
    refine ⟨1, _, by unfold sgnI; omega, rfl, .inl rfl, ?_, m, rfl⟩
    unfold sgnI; omega
  · rw [e]
    refine ⟨-1, _, by unfold sgnI; omega, rfl, .inr rfl, ?_, m, rfl⟩
    unfold sgnI; omega
theorem cvL_facts {P Q : Int} {N : Nat} (C : CF P Q N) : ∃ s : Nat, (s = 0 ∨ s = 1) ∧ s + 1 ≤ N ∧ (cvL P Q N).length = N - s ∧ (¬ P < Q ∨ s = 1) ∧ ∀ k, k < N - s → p1 (cvL P Q N) (k : Int) = (hS P Q (k + s + 2)).1 ∧ p2 (cvL P Q N) (k : Int) = (hS P Q (k + s + 2)).2 := by
  have hN := C.n
  have hcl := cvT_len P Q N
  by_cases hlt : P < Q
  · have h2 := (C.first hlt).2
    refine ⟨1, .inr rfl, by omega, by rw [cvL_lt N hlt, List.length_drop, hcl], .inr rfl, fun k hk => ?_⟩
    rw [cvL_lt N hlt]
    have e : ((cvT P Q N).drop 1)[k]? = some (hS P Q (k + 1 + 2)) := by rw [List.getElem?_drop, Nat.add_comm 1 k]; exact cvT_at P Q (by omega)
    unfold p1 p2
    rw [Int.toNat_natCast, List.getD_eq_getElem?_getD, e]
    exact ⟨rfl, rfl⟩
  · refine ⟨0, .inl rfl, by omega, by rw [cvL_ge N hlt, hcl]; rfl, .inl hlt, fun k hk => ?_⟩
    rw [cvL_ge N hlt]
    exact cvT_p P Q (by omega)
theorem tmR_back {r q : Int × Int} (hr : RtOK r) (hq : RtOK q) : tmR (tmR r q) (q.2, q.1) = r := by
  have hr1 := hr.p
  have hr2 := hr.q
  have hq1 := hq.p
  have hq2 := hq.q
  have b1 := tmR_bd hr1.1 hr2.1 hq1.1 hq2.1
  have gT := tmR_cop hr2.1 hq2.1 hr.g hq.g
  have e1 := tmR_eq r q
  generalize tmR r q = T at *
  have b2 := tmR_bd (r := T) (s := (q.2, q.1)) b1.1.1 b1.2.1 hq2.1 hq1.1
  have gU := tmR_cop (r := T) (s := (q.2, q.1)) b1.2.1 hq1.1 gT (by show Int.gcd q.2 q.1 = 1; rw [Int.gcd_comm]; exact hq.g)
  have e2 := tmR_eq T (q.2, q.1)
  generalize tmR T (q.2, q.1) = U at *
  dsimp only at e2
  have key : U.1 * r.2 = r.1 * U.2 := by
    have hk : 0 < T.2 * q.1 * q.2 := Int.mul_pos (Int.mul_pos (by omega) (by omega)) (by omega)
    apply Int.eq_of_mul_eq_mul_right (show T.2 * q.1 * q.2 ≠ 0 by omega)
    calc U.1 * r.2 * (T.2 * q.1 * q.2) = (U.1 * (T.2 * q.1)) * (r.2 * q.2) := by ac_rfl
      _ = (T.1 * q.2 * U.2) * (r.2 * q.2) := by rw [e2]
      _ = (T.1 * (r.2 * q.2)) * (U.2 * q.2) := by ac_rfl
      _ = (r.1 * q.1 * T.2) * (U.2 * q.2) := by rw [e1]
      _ = r.1 * U.2 * (T.2 * q.1 * q.2) := by ac_rfl
  obtain ⟨h1, h2⟩ := cop_uniq (a := U.1) (b := U.2) (c := r.1) (d := r.2) (by omega) (by omega) (by omega) (by omega) gU hr.g key
  exact Prod.ext h1 h2
theorem red_3 {p q : Int} (hp : 1 ≤ p) (hq : 1 ≤ q) (g : Int.gcd p q = 1) : red (3 * p) (3 * q) = (p, q) := by
  have e : gI (3 * p) (3 * q) = 3 := by
    unfold gI
    rw [Int.gcd_mul_left, g]
    rfl
  unfold red
  rw [e, Int.mul_ediv_cancel_left _ (by decide), Int.mul_ediv_cancel_left _ (by decide)]
theorem near_law {r q : Int × Int} (hr : RtOK r) {m : Int} (hm : 1 ≤ m ∧ m ≤ 1000) (h1 : 1 ≤ q.1 ∧ q.1 ≤ m) (h2 : 1 ≤ q.2 ∧ q.2 ≤ m) {b : Int × Int} (hb : bstN r.1 r.2 m m.toNat = b) :
    ∃ side : Int, nrV r.1 r.2 b.1 b.2 q.1 q.2 = side ∧ nrV r.1 r.2 q.1 q.2 b.1 b.2 = -side ∧ (side = -1 ∨ side = 0 ∧ ¬ q.2 < b.2 ∧ (q.2 = b.2 → ¬ q.1 < b.1)) := by
  have h := best_n (P := r.1) (Q := r.2) (by have := hr.p; omega) hr.q.1 hm.1 m.toNat
  rw [hb] at h
  obtain ⟨l1, l2⟩ := h.le q.1 q.2 h1.1 h1.2 h2.1 (by omega)
  unfold nrV
  generalize dI r.1 r.2 b.1 b.2 * q.2 = X at *
  generalize dI r.1 r.2 q.1 q.2 * b.2 = Y at *
  rcases cmp3_cases X Y with ⟨c1, e⟩ | ⟨c1, c2, e⟩ | ⟨c1, c2, e⟩
  · refine ⟨-1, e, ?_, .inl rfl⟩
    rcases cmp3_cases Y X with ⟨c3, e3⟩ | ⟨c3, c4, e3⟩ | ⟨c3, c4, e3⟩ <;> omega
  · omega
  · refine ⟨0, e, ?_, .inr ⟨rfl, ?_⟩⟩
    · rcases cmp3_cases Y X with ⟨c3, e3⟩ | ⟨c3, c4, e3⟩ | ⟨c3, c4, e3⟩ <;> omega
    · have := l2 (by omega)
      omega
theorem near_rtQ {r : Int × Int} (hr : RtOK r) {m : Int} (hm : 1 ≤ m ∧ m ≤ 1000) : RtOK (bstN r.1 r.2 m m.toNat) ∧ (bstN r.1 r.2 m m.toNat).1 ≤ m ∧ (bstN r.1 r.2 m m.toNat).2 ≤ m := by
  have h := best_n (P := r.1) (Q := r.2) (by have := hr.p; omega) hr.q.1 hm.1 m.toNat
  have s := bst_sm (P := r.1) (Q := r.2) (by have := hr.p; omega) hr.q.1 hm (n := m.toNat) (by omega)
  refine ⟨⟨⟨s.1.1, by have := s.1.2; omega⟩, ⟨s.2.1, by have := s.2.2; omega⟩, best_red h (by omega)⟩, h.p.2, ?_⟩
  rcases h.q.2 with z | z
  · omega
  · rw [z]; exact hm.1
theorem tm_small {r q : Int × Int} (hr : RtOK r) (hq : RtOK q) (r1 : r.1 ≤ 65536 ∧ r.2 ≤ 65536) (q1 : q.1 ≤ 60 ∧ q.2 ≤ 60) : ((tmR r q).1 ≤ 1000000000 ∧ (tmR r q).2 ≤ 1000000000) ∧ RtOK (tmR r q) := by
  have b := tmR_bd hr.p.1 hr.q.1 hq.p.1 hq.q.1
  have m1 := mul_bdG (show 0 ≤ r.1 ∧ r.1 ≤ 65536 by have := hr.p; omega) (show 0 ≤ q.1 ∧ q.1 ≤ 60 by have := hq.p; omega)
  have m2 := mul_bdG (show 0 ≤ r.2 ∧ r.2 ≤ 65536 by have := hr.q; omega) (show 0 ≤ q.2 ∧ q.2 ≤ 60 by have := hq.q; omega)
  exact ⟨⟨by omega, by omega⟩, tmR_ok hr hq ⟨by omega, by omega⟩⟩
end Go.Proofs.Ytinjlofefmjolaa.X
