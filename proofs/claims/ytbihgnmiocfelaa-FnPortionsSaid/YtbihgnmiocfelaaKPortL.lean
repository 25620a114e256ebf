/- Portions that pairs come from: the plain law. Conditions: none. -/
import Derived.Test.YtbihgnmiocfelaaKFind
namespace Go.Proofs.Ytbihgnmiocfelaa.X
open Go.RowKit
set_option linter.unusedVariables false
set_option linter.unusedSimpArgs false
set_option maxRecDepth 100000
theorem red_eq (p q P Q : Int) (hq : 1 ≤ q) : p * Q - P * q = gI p q * ((red p q).1 * Q - P * (red p q).2) := by
  have e1 := gI_left p q
  have e2 := gI_right p q
  show p * Q - P * q = gI p q * (p / gI p q * Q - P * (q / gI p q))
  rw [Int.mul_sub, ← Int.mul_assoc, e1, Int.mul_left_comm, e2]
theorem red_le1 {p q P Q : Int} (hq : 1 ≤ q) (h : p * Q ≤ P * q) : (red p q).1 * Q ≤ P * (red p q).2 := by
  have g := gI_pos (p := p) hq
  have e := red_eq p q P Q hq
  rcases Int.lt_or_le (P * (red p q).2) ((red p q).1 * Q) with c | c
  · have := Int.mul_pos (show 0 < gI p q by omega) (show 0 < (red p q).1 * Q - P * (red p q).2 by omega)
    omega
  · exact c
theorem red_ge1 {p q P Q : Int} (hq : 1 ≤ q) (h : P * q ≤ p * Q) : P * (red p q).2 ≤ (red p q).1 * Q := by
  have g := gI_pos (p := p) hq
  have e := red_eq p q P Q hq
  rcases Int.lt_or_le ((red p q).1 * Q) (P * (red p q).2) with c | c
  · have := Int.mul_pos (show 0 < gI p q by omega) (show 0 < -((red p q).1 * Q - P * (red p q).2) by omega)
    rw [Int.mul_neg] at this
    omega
  · exact c
theorem red_gt1 {p q P Q : Int} (hq : 1 ≤ q) (h : P * q < p * Q) : P * (red p q).2 < (red p q).1 * Q := by
  have g := gI_pos (p := p) hq
  have e := red_eq p q P Q hq
  rcases Int.lt_or_le (P * (red p q).2) ((red p q).1 * Q) with c | c
  · exact c
  · have := Int.mul_nonneg (show 0 ≤ gI p q by omega) (show 0 ≤ -((red p q).1 * Q - P * (red p q).2) by omega)
    rw [Int.mul_neg] at this
    omega
theorem fr_le {a b c d e f : Int} (hb : 1 ≤ b) (hd : 1 ≤ d) (hf : 1 ≤ f) (h1 : a * d ≤ c * b) (h2 : c * f ≤ e * d) : a * f ≤ e * b := by
  have k1 := Int.mul_le_mul_of_nonneg_right h1 (show 0 ≤ f by omega)
  have k2 := Int.mul_le_mul_of_nonneg_right h2 (show 0 ≤ b by omega)
  refine Int.le_of_mul_le_mul_left ?_ (show 0 < d by omega)
  rw [show d * (a * f) = a * d * f by simp only [Int.mul_assoc, Int.mul_comm, Int.mul_left_comm], show d * (e * b) = e * d * b by simp only [Int.mul_assoc, Int.mul_comm, Int.mul_left_comm]]
  rw [show c * b * f = c * f * b by simp only [Int.mul_assoc, Int.mul_comm, Int.mul_left_comm]] at k1
  omega
theorem fr_lt {a b c d e f : Int} (hb : 1 ≤ b) (hd : 1 ≤ d) (hf : 1 ≤ f) (h1 : a * d ≤ c * b) (h2 : c * f < e * d) : a * f < e * b := by
  have k1 := Int.mul_le_mul_of_nonneg_right h1 (show 0 ≤ f by omega)
  have k2 := Int.mul_lt_mul_of_pos_right h2 (show 0 < b by omega)
  refine Int.lt_of_mul_lt_mul_left ?_ (show 0 ≤ d by omega)
  rw [show d * (a * f) = a * d * f by simp only [Int.mul_assoc, Int.mul_comm, Int.mul_left_comm], show d * (e * b) = e * d * b by simp only [Int.mul_assoc, Int.mul_comm, Int.mul_left_comm]]
  rw [show c * b * f = c * f * b by simp only [Int.mul_assoc, Int.mul_comm, Int.mul_left_comm]] at k1
  omega
theorem fr_lt' {a b c d e f : Int} (hb : 1 ≤ b) (hd : 1 ≤ d) (hf : 1 ≤ f) (h1 : a * d < c * b) (h2 : c * f ≤ e * d) : a * f < e * b := by
  have k1 := Int.mul_lt_mul_of_pos_right h1 (show 0 < f by omega)
  have k2 := Int.mul_le_mul_of_nonneg_right h2 (show 0 ≤ b by omega)
  refine Int.lt_of_mul_lt_mul_left ?_ (show 0 ≤ d by omega)
  rw [show d * (a * f) = a * d * f by simp only [Int.mul_assoc, Int.mul_comm, Int.mul_left_comm], show d * (e * b) = e * d * b by simp only [Int.mul_assoc, Int.mul_comm, Int.mul_left_comm]]
  rw [show c * b * f = c * f * b by simp only [Int.mul_assoc, Int.mul_comm, Int.mul_left_comm]] at k1
  omega
theorem plo_ge {xs : List (Int × Int)} {n : Nat} (h : ∀ k : Nat, k < n → pOK xs k) : ∀ k : Nat, k ≤ n → ∀ j : Nat, j < k → p2 xs j * (plo xs k).2 ≤ (plo xs k).1 * p1 xs j
  | 0, _, j, hj => absurd hj (by omega)
  | k + 1, hk, j, hj => by
    have ih := plo_ge h k (by omega)
    have hb := plo_bd h k (by omega)
    have ⟨h1, h2⟩ := h k (by omega)
    have ⟨g1, g2⟩ := h j (by omega)
    by_cases c : (plo xs k).1 * p1 xs k < p2 xs k * (plo xs k).2
    · rw [plo_yes c]
      by_cases e : j = k
      · rw [e]; exact Int.le_refl _
      · exact fr_le g1.1 hb.2.1 h1.1 (ih j (by omega)) (Int.le_of_lt c)
    · rw [plo_no c]
      by_cases e : j = k
      · rw [e]; omega
      · exact ih j (by omega)
theorem phi_le {xs : List (Int × Int)} {n : Nat} (h : ∀ k : Nat, k < n → pOK xs k) : ∀ k : Nat, k ≤ n → ∀ j : Nat, j < k → (phi xs k).1 * p1 xs j ≤ (p2 xs j + 1) * (phi xs k).2
  | 0, _, j, hj => absurd hj (by omega)
  | k + 1, hk, j, hj => by
    have ih := phi_le h k (by omega)
    have hb := phi_bd h k (by omega)
    have ⟨h1, h2⟩ := h k (by omega)
    have ⟨g1, g2⟩ := h j (by omega)
    by_cases c : (p2 xs k + 1) * (phi xs k).2 < (phi xs k).1 * p1 xs k
    · rw [phi_yes c]
      by_cases e : j = k
      · rw [e]; exact Int.le_refl _
      · exact fr_le h1.1 hb.2.1 g1.1 (Int.le_of_lt c) (ih j (by omega))
    · rw [phi_no c]
      by_cases e : j = k
      · rw [e]; omega
      · exact ih j (by omega)
theorem plo_at {xs : List (Int × Int)} {p q : Int} {n : Nat} (hp : 0 ≤ p) (h : ∀ k : Nat, k < n → p2 xs k * q ≤ p * p1 xs k) : ∀ k : Nat, k ≤ n → (plo xs k).1 * q ≤ p * (plo xs k).2
  | 0, _ => by unfold plo; show (0 : Int) * q ≤ p * 1; omega
  | k + 1, hk => by
    by_cases c : (plo xs k).1 * p1 xs k < p2 xs k * (plo xs k).2
    · rw [plo_yes c]; exact h k (by omega)
    · rw [plo_no c]; exact plo_at hp h k (by omega)
theorem phi_at {xs : List (Int × Int)} {p q : Int} {n : Nat} (hp : p ≤ 11) (hq : 1 ≤ q) (h : ∀ k : Nat, k < n → p * p1 xs k < (p2 xs k + 1) * q) : ∀ k : Nat, k ≤ n → p * (phi xs k).2 < (phi xs k).1 * q
  | 0, _ => by unfold phi; show p * 1 < 100001 * q; omega
  | k + 1, hk => by
    by_cases c : (p2 xs k + 1) * (phi xs k).2 < (phi xs k).1 * p1 xs k
    · rw [phi_yes c]; exact h k (by omega)
    · rw [phi_no c]; exact phi_at hp hq h k (by omega)
theorem sFind_at {lp lq hp hq : Int} (h1 : 1 ≤ lq) (hl : lp * hq < hp * lq) : ∀ (n : Nat) (q : Int), (lq - q).toNat = n → 1 ≤ q → q ≤ lq → (q ≤ sFind lp lq hp hq n q ∧ sFind lp lq hp hq n q ≤ lq) ∧ sceil lp lq (sFind lp lq hp hq n q) * hq < hp * sFind lp lq hp hq n q ∧ ∀ d, q ≤ d → d < sFind lp lq hp hq n q → ¬ sceil lp lq d * hq < hp * d
  | 0, q, hn, g1, g2 => by
    obtain rfl : q = lq := by omega
    unfold sFind
    rw [sceil_end h1]
    exact ⟨⟨Int.le_refl _, Int.le_refl _⟩, hl, fun d a b => by omega⟩
  | n + 1, q, hn, g1, g2 => by
    unfold sFind
    by_cases c : sceil lp lq q * hq < hp * q
    · rw [if_pos c]
      exact ⟨⟨Int.le_refl _, g2⟩, c, fun d a b => by omega⟩
    · rw [if_neg c]
      obtain ⟨⟨a, b⟩, e, f⟩ := sFind_at h1 hl n (q + 1) (by omega) (by omega) (by omega)
      refine ⟨⟨by omega, b⟩, e, fun d u v => ?_⟩
      by_cases g : d = q
      · rw [g]; exact c
      · exact f d (by omega) v
/-- pairs that come from the portion p of q -/
structure FromP (p q : Int) (xs : List (Int × Int)) : Prop where
  p0 : 0 ≤ p ∧ p ≤ 11
  q0 : 1 ≤ q ∧ q ≤ 12
  len : 1 ≤ xs.length ∧ xs.length ≤ 6
  pr : ∀ k : Nat, k < xs.length → (1 ≤ p1 xs k ∧ p1 xs k ≤ 60) ∧ (0 ≤ p2 xs k ∧ p2 xs k ≤ 660) ∧ p2 xs k * q ≤ p * p1 xs k ∧ p * p1 xs k < (p2 xs k + 1) * q
/-- what is known of the bounds a, b and of the portion P of s that is found -/
structure Ports (p q : Int) (xs : List (Int × Int)) (a b c : Int × Int) : Prop where
  pb : pbV xs = (a, b, 0)
  fp : fpV xs = (c, 0)
  sv : simpV a.1 a.2 b.1 b.2 = (c.1, c.2, 0)
  sw : simpV b.1 b.2 a.1 a.2 = (0, 0, 4)
  a0 : 0 ≤ a.1 ∧ a.1 ≤ 100001
  a1 : 1 ≤ a.2 ∧ a.2 ≤ 100001
  b0 : 0 ≤ b.1 ∧ b.1 ≤ 100001
  b1 : 1 ≤ b.2 ∧ b.2 ≤ 100001
  c0 : 0 ≤ c.1 ∧ c.1 ≤ 100001
  c1 : 1 ≤ c.2 ∧ c.2 ≤ q
  l1 : a.1 * q ≤ p * a.2
  l2 : p * b.2 < b.1 * q
  l3 : c.2 = q → c.1 ≤ p
  l4 : ∀ k : Nat, k < xs.length → p1 xs k * c.1 / c.2 = p2 xs k
  l5 : ∀ d : Int, 1 ≤ d → d < c.2 → b.1 * d ≤ (a.1 * d + a.2 - 1) / a.2 * b.2
theorem prTo_of {xs : List (Int × Int)} : ∀ {n : Nat}, (∀ k : Nat, k < n → pOK xs k) → prTo xs n = true
  | 0, _ => rfl
  | n + 1, h => by
    unfold prTo
    rw [prTo_of (fun k hk => h k (by omega)), Bool.true_and]
    have := h n (by omega)
    unfold prB
    rw [Bool.and_eq_true]
    exact ⟨inR_t.2 this.1, inR_t.2 this.2⟩
theorem FromP.ports {p q : Int} {xs : List (Int × Int)} (h : FromP p q xs) : ∃ a b c, Ports p q xs a b c := by
  have hp := h.p0
  have hq := h.q0
  have hn := h.len
  have hok : ∀ k : Nat, k < xs.length → pOK xs k := fun k hk => by
    have := h.pr k hk
    exact ⟨by omega, by omega⟩
  have hlo := plo_bd hok _ (Nat.le_refl _)
  have hhi := phi_bd hok _ (Nat.le_refl _)
  have ge := plo_ge hok _ (Nat.le_refl _)
  have le := phi_le hok _ (Nat.le_refl _)
  have at1 := plo_at (q := q) hp.1 (fun k hk => (h.pr k hk).2.2.1) _ (Nat.le_refl _)
  have at2 := phi_at hp.2 hq.1 (fun k hk => (h.pr k hk).2.2.2) _ (Nat.le_refl _)
  have hv : (inR xs.length 1 60 && prTo xs xs.length) = true := by
    rw [Bool.and_eq_true]
    exact ⟨inR_t.2 (by omega), prTo_of hok⟩
  have hlt : (plo xs xs.length).1 * (phi xs xs.length).2 < (phi xs xs.length).1 * (plo xs xs.length).2 := fr_lt hlo.2.1 hq.1 hhi.2.1 at1 at2
  have hpb := pbV_0 hv hlt
  obtain ⟨a, ha⟩ : ∃ a, a = red (plo xs xs.length).1 (plo xs xs.length).2 := ⟨_, rfl⟩
  obtain ⟨b, hb⟩ : ∃ b, b = red (phi xs xs.length).1 (phi xs xs.length).2 := ⟨_, rfl⟩
  have A := red_bd hlo.1.1 hlo.2.1
  have B := red_bd (show 0 ≤ (phi xs xs.length).1 by omega) hhi.2.1
  have lab : a.1 * b.2 < b.1 * a.2 := by rw [ha, hb]; exact (red_lt hlo.2.1 hhi.2.1).2 hlt
  have L1 : a.1 * q ≤ p * a.2 := by rw [ha]; exact red_le1 hlo.2.1 at1
  have L2 : p * b.2 < b.1 * q := by rw [hb]; exact red_gt1 hhi.2.1 at2
  have GE : ∀ k : Nat, k < xs.length → p2 xs k * a.2 ≤ a.1 * p1 xs k := fun k hk => by rw [ha]; exact red_ge1 hlo.2.1 (ge k hk)
  have LE : ∀ k : Nat, k < xs.length → b.1 * p1 xs k ≤ (p2 xs k + 1) * b.2 := fun k hk => by rw [hb]; exact red_le1 hhi.2.1 (le k hk)
  rw [← ha] at A
  rw [← hb] at B
  rw [← ha, ← hb] at hpb
  obtain ⟨⟨s1, s2⟩, s3, s4⟩ := sFind_at (lp := a.1) (hp := b.1) A.2.1 lab (a.2 - 1).toNat 1 rfl (by omega) A.2.1
  rw [show sFind a.1 a.2 b.1 b.2 (a.2 - 1).toNat 1 = sQ a.1 a.2 b.1 b.2 from rfl] at s1 s2 s3 s4
  have hfp := fpV_0 (xs := xs) (by rw [hpb])
  rw [hpb] at hfp
  dsimp only at hfp
  obtain ⟨s, hs⟩ : ∃ s, s = sQ a.1 a.2 b.1 b.2 := ⟨_, rfl⟩
  rw [← hs] at s1 s2 s3 s4 hfp
  have sb := sceil_bd A.1.1 A.2.1 s1 s2
  have aq : 0 < a.2 := by omega
  have hq1 : sceil a.1 a.2 q ≤ p := by
    unfold sceil
    have := (Int.ediv_lt_iff_lt_mul aq (a := a.1 * q + a.2 - 1) (b := p + 1)).2 (by rw [Int.add_mul]; omega)
    omega
  have hsq : s ≤ q := by
    rcases Int.lt_or_le q s with c | c
    · refine absurd ?_ (s4 q hq.1 c)
      have := Int.mul_le_mul_of_nonneg_right hq1 (show 0 ≤ b.2 by omega)
      omega
    · exact c
  have hce : a.1 * s ≤ sceil a.1 a.2 s * a.2 := by
    unfold sceil
    have := Int.lt_ediv_add_one_mul_self (a.1 * s + a.2 - 1) aq
    rw [Int.add_mul] at this
    omega
  refine ⟨a, b, (sceil a.1 a.2 s, s), hpb, hfp, ?_, ?_, by omega, by omega, by omega, by omega, ⟨sb.1, by show sceil _ _ _ ≤ _; omega⟩, ⟨s1, hsq⟩, L1, L2, fun e => ?_, fun k hk => ?_, fun d d1 d2 => ?_⟩
  · unfold simpV
    rw [if_pos ⟨⟨⟨by omega, by omega⟩, by omega, by omega⟩, ⟨⟨by omega, by omega⟩, by omega, by omega⟩⟩, if_pos ⟨by omega, by omega⟩, if_pos lab, ← hs]
  · unfold simpV
    rw [if_pos ⟨⟨⟨by omega, by omega⟩, by omega, by omega⟩, ⟨⟨by omega, by omega⟩, by omega, by omega⟩⟩, if_pos ⟨by omega, by omega⟩, if_neg (by omega)]
  · obtain rfl : s = q := e
    exact hq1
  · have hk' := h.pr k hk
    show p1 xs k * sceil a.1 a.2 s / s = p2 xs k
    have u1 : p2 xs k * s ≤ sceil a.1 a.2 s * p1 xs k := fr_le hk'.1.1 A.2.1 s1 (GE k hk) hce
    have u2 : sceil a.1 a.2 s * p1 xs k < (p2 xs k + 1) * s := fr_lt' s1 B.2.1 hk'.1.1 s3 (LE k hk)
    rw [Int.mul_comm (p1 xs k)]
    have v1 := (Int.le_ediv_iff_mul_le (show 0 < s by omega)).2 u1
    have v2 := (Int.ediv_lt_iff_lt_mul (show 0 < s by omega)).2 u2
    omega
  · have := s4 d d1 d2
    unfold sceil at this
    show b.1 * d ≤ (a.1 * d + a.2 - 1) / a.2 * b.2
    omega
end Go.Proofs.Ytbihgnmiocfelaa.X
