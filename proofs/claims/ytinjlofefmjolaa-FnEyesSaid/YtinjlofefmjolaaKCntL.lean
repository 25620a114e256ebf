/- Counts on wheels: the plain law. Conditions: none. -/
import Derived.Test.YtinjlofefmjolaaKStep
namespace Go.Proofs.Ytinjlofefmjolaa.X
open Go.RowKit
set_option linter.unusedVariables false
set_option linter.unusedSimpArgs false
set_option maxRecDepth 100000
theorem qTo_pr {xs : List Int} (h : okS xs = true) (v : Int) : ∀ {k : Nat}, k ≤ xs.length → qTo xs v k = v / pr xs k
  | 0, _ => by show v = v / 1; rw [Int.ediv_one]
  | k + 1, hk => by
    have p := pr_pos h (k := k) (by omega)
    show qTo xs v k / el xs k = v / (pr xs k * el xs k)
    rw [qTo_pr h v (k := k) (by omega), Int.ediv_ediv_of_nonneg (by omega)]
theorem dg_eq {xs : List Int} (h : okS xs = true) (v : Int) {k : Nat} (hk : k < xs.length) : dg xs v k = v / pr xs k % el xs k := by
  unfold dg dgTo
  rw [if_pos hk, qTo_pr h v (by omega)]
theorem szS_pr {xs : List Int} (h : okS xs = true) : szS xs = pr xs xs.length := (pr_all h).1
theorem vlR_dg {xs : List Int} (h : okS xs = true) {v : Int} (hv : 0 ≤ v ∧ v < szS xs) : ∀ m : Nat, m ≤ xs.length → vlR xs (dg xs v) xs.length m = qTo xs v (xs.length - m)
  | 0, _ => by
    show 0 = qTo xs v xs.length
    rw [qTo_pr h v (Nat.le_refl _), ← szS_pr h, Int.ediv_eq_zero_of_lt hv.1 hv.2]
  | m + 1, hm => by
    have ih := vlR_dg h hv m (by omega)
    obtain ⟨j, hj⟩ : ∃ j, j = xs.length - (m + 1) := ⟨_, rfl⟩
    have e : xs.length - m = j + 1 := by omega
    show vlR xs (dg xs v) xs.length m * el xs ((xs.length - (m + 1) : Nat) : Int) + dg xs v (xs.length - (m + 1)) = qTo xs v (xs.length - (m + 1))
    rw [← hj, ih, e]
    show qTo xs v j / el xs j * el xs j + dg xs v j = qTo xs v j
    unfold dg dgTo
    rw [if_pos (by omega)]
    have := Int.mul_ediv_add_emod (qTo xs v j) (el xs j)
    rw [Int.mul_comm] at this
    exact this
/-- the digits of a value are worth it -/
theorem vl_dg {xs : List Int} (h : okS xs = true) {v : Int} (hv : 0 ≤ v ∧ v < szS xs) : vl xs (dg xs v) = v := by
  unfold vl
  rw [vlR_dg h hv _ (Nat.le_refl _), Nat.sub_self]
  rfl
theorem dg_bdC {xs : List Int} (h : okS xs = true) (v : Int) {i : Nat} (hi : i < xs.length) : 0 ≤ dg xs v i ∧ dg xs v i < el xs i := by
  have h1 := okS_el h hi
  rw [dg_eq h v hi]
  exact ⟨Int.emod_nonneg _ (by omega), Int.emod_lt_of_pos _ (by omega)⟩
theorem dg_out {xs : List Int} (v : Int) {i : Nat} (hi : xs.length ≤ i) : dg xs v i = 0 := by
  unfold dg dgTo
  rw [if_neg (by omega)]
theorem dg_d8 {xs : List Int} (h : okS xs = true) (v : Int) : d8 (dg xs v) := by
  intro k
  by_cases hk : k < xs.length
  · have a := dg_bdC h v hk
    have b := okS_el h hk
    omega
  · rw [dg_out v (by omega)]; decide
theorem okD_dg {xs : List Int} (h : okS xs = true) (v : Int) : okD xs (dg xs v) = true := by
  unfold okD
  rw [h, Bool.true_and, decide_eq_true_eq]
  intro i _
  split
  · rename_i hi; exact (dg_bdC h v hi).2
  · rename_i hi; exact dg_out v (by omega)
/-- a place, and the next one, divide the size -/
theorem pr_dvd {xs : List Int} {j : Nat} : ∀ d : Nat, pr xs j ∣ pr xs (j + d)
  | 0 => Int.dvd_refl _
  | d + 1 => Int.dvd_trans (pr_dvd d) ⟨el xs ((j + d : Nat) : Int), rfl⟩
theorem pr_sz {xs : List Int} (h : okS xs = true) {k : Nat} (hk : k < xs.length) : pr xs k * el xs k ∣ szS xs := by
  rw [szS_pr h]
  have := pr_dvd (xs := xs) (j := k + 1) (xs.length - (k + 1))
  rw [show k + 1 + (xs.length - (k + 1)) = xs.length by omega] at this
  exact this
/-- division by a place, of what is left of a size -/
theorem div_mod_place {n p s z : Int} (hp : 0 < p) (hs : 0 < s) (hz : p * s ∣ z) : n % z / p % s = n / p % s := by
  obtain ⟨c, hc⟩ := hz
  have h1 := Int.mul_ediv_add_emod n z
  have h2 : n % z = n + (-(n / z * c * s)) * p := by
    rw [hc] at h1 ⊢
    have : (-(n / (p * s * c) * c * s)) * p = -(p * s * c * (n / (p * s * c))) := by
      rw [Int.neg_mul]
      congr 1
      ac_rfl
    omega
  rw [h2, Int.add_mul_ediv_right _ _ (by omega), ← Int.neg_mul, Int.add_mul_emod_self_right]
/-- digits of what is left of a size -/
theorem dg_mod {xs : List Int} (h : okS xs = true) (n : Int) {k : Nat} (hk : k < xs.length) : dg xs (n % szS xs) k = n / pr xs k % el xs k := by
  have p := pr_pos h (k := k) (by omega)
  have s := okS_el h hk
  rw [dg_eq h _ hk, div_mod_place (by omega) (by omega) (pr_sz h hk)]
/-- counts one behind the other -/
theorem add_add {v a b z : Int} (hz : 0 < z) : ((v + a) % z + b) % z = (v + (a + b)) % z ∧ ((v + a) % z + b) / z = (v + (a + b)) / z - (v + a) / z := by
  refine ⟨by rw [Int.emod_add_emod, Int.add_assoc], ?_⟩
  have h1 := Int.mul_ediv_add_emod (v + a) z
  have : (v + a) % z + b = (v + (a + b)) + (-((v + a) / z)) * z := by
    rw [Int.neg_mul, Int.mul_comm ((v + a) / z) z]
    omega
  rw [this, Int.add_mul_ediv_right _ _ (by omega)]
  omega
/-- moves of a wheel -/
def mvW (xs : List Int) (v a : Int) (k : Nat) : Int := if k < xs.length then (v + a) / pr xs k - v / pr xs k else 0
theorem mv_turn {xs : List Int} (h : okS xs = true) (v a : Int) {k : Nat} (hk : k < xs.length) : (dg xs v k + mvW xs v a k) % el xs k = dg xs ((v + a) % szS xs) k := by
  unfold mvW
  rw [if_pos hk, dg_mod h _ hk, dg_eq h v hk, Int.emod_add_emod]
  congr 1
  omega
/-- the way from a value to another one -/
def wayU (z v u : Int) : Int := (u - v) % z
theorem way_to {z v u : Int} (hz : 0 < z) (hv : 0 ≤ v ∧ v < z) (hu : 0 ≤ u ∧ u < z) : (v + wayU z v u) % z = u ∧ (v + (wayU z v u - z)) % z = u := by
  have e : (v + (u - v) % z) % z = u := by
    rw [Int.add_comm, Int.emod_add_emod, show u - v + v = u by omega, Int.emod_eq_of_lt hu.1 hu.2]
  refine ⟨e, ?_⟩
  unfold wayU
  rw [show v + ((u - v) % z - z) = v + (u - v) % z + (-1) * z by omega, Int.add_mul_emod_self_right]
  exact e
theorem way_cases {z v u : Int} (hv : 0 ≤ v ∧ v < z) (hu : 0 ≤ u ∧ u < z) : (0 < u - v ∧ wayU z v u = u - v) ∨ (u - v < 0 ∧ wayU z v u = u - v + z) ∨ (u - v = 0 ∧ wayU z v u = 0) := by
  unfold wayU
  rcases Int.lt_trichotomy 0 (u - v) with g | g | g
  · left; exact ⟨g, Int.emod_eq_of_lt (by omega) (by omega)⟩
  · right; right; exact ⟨by omega, by rw [← g]; exact Int.zero_emod _⟩
  · right; left
    refine ⟨g, ?_⟩
    have h1 : (u - v) % z = ((u - v + z) + (-1) * z) % z := by congr 1; omega
    rw [h1, Int.add_mul_emod_self_right, Int.emod_eq_of_lt (by omega) (by omega)]
/-- what is added to come to a digit next -/
def nxW (p s v d : Int) : Int := (d * p - v % (p * s)) % (p * s)
theorem nx_digit {p s v d : Int} (hp : 0 < p) (hs : 0 < s) (hd : 0 ≤ d ∧ d < s) : (v + nxW p s v d) / p % s = d ∧ 0 ≤ nxW p s v d ∧ nxW p s v d < p * s := by
  have hps : 0 < p * s := Int.mul_pos hp hs
  refine ⟨?_, Int.emod_nonneg _ (by omega), Int.emod_lt_of_pos _ hps⟩
  have h1 := Int.mul_ediv_add_emod (d * p - v % (p * s)) (p * s)
  have h2 := Int.mul_ediv_add_emod v (p * s)
  have e : v + nxW p s v d = d * p + ((v / (p * s) - (d * p - v % (p * s)) / (p * s)) * s) * p := by
    unfold nxW
    have : ((v / (p * s) - (d * p - v % (p * s)) / (p * s)) * s) * p = p * s * (v / (p * s)) - p * s * ((d * p - v % (p * s)) / (p * s)) := by
      rw [Int.sub_mul, Int.sub_mul]
      congr 1 <;> ac_rfl
    omega
  rw [e, Int.add_mul_ediv_right _ _ (by omega), Int.mul_ediv_cancel _ (by omega), Int.add_mul_emod_self_right, Int.emod_eq_of_lt hd.1 hd.2]
theorem mod_mul {p s v : Int} (hp : 0 < p) (hs : 0 < s) : v % (p * s) = v / p % s * p + v % p := by
  have h1 := Int.mul_ediv_add_emod v p
  have h2 := Int.mul_ediv_add_emod (v / p) s
  have h3 := Int.mul_ediv_add_emod v (p * s)
  have e : v / (p * s) = v / p / s := (Int.ediv_ediv_of_nonneg (by omega)).symm
  rw [e] at h3
  have h4 : p * (s * (v / p / s) + v / p % s) = p * (v / p) := by rw [h2]
  rw [Int.mul_add, ← Int.mul_assoc, Int.mul_comm p (v / p % s)] at h4
  omega
/-- the reference's way to say it -/
theorem nx_spec2 {p s v d : Int} (hp : 0 < p) (hs : 0 < s) (hd : 0 ≤ d ∧ d < s) (hne : v / p % s ≠ d) : nxW p s v d = (if d - v / p % s < 0 then d - v / p % s + s else d - v / p % s) * p - v % p := by
  have hps : 0 < p * s := Int.mul_pos hp hs
  have m1 := Int.emod_nonneg v (show p ≠ 0 by omega)
  have m2 := Int.emod_lt_of_pos v hp
  have d1 := Int.emod_nonneg (v / p) (show s ≠ 0 by omega)
  have d2 := Int.emod_lt_of_pos (v / p) hs
  unfold nxW
  rw [mod_mul (v := v) hp hs]
  generalize v / p % s = c at *
  generalize v % p = r at *
  have e : d * p - (c * p + r) = (d - c) * p - r := by rw [Int.sub_mul]; omega
  rw [e]
  split
  · rename_i hlt
    have h1 := Int.mul_le_mul_of_nonneg_right (show 1 ≤ d - c + s by omega) (show 0 ≤ p by omega)
    have h2 := Int.mul_le_mul_of_nonneg_right (show d - c + s + 1 ≤ s by omega) (show 0 ≤ p by omega)
    rw [Int.add_mul (d - c + s) 1 p, Int.one_mul] at h2
    have e2 : (d - c + s) * p = (d - c) * p + p * s := by rw [Int.add_mul, Int.mul_comm s p]
    rw [show (d - c) * p - r = ((d - c + s) * p - r) + (-1) * (p * s) by omega, Int.add_mul_emod_self_right, Int.emod_eq_of_lt (by omega) (by rw [Int.mul_comm p s]; omega)]
  · rename_i hge
    have h1 := Int.mul_le_mul_of_nonneg_right (show 1 ≤ d - c by omega) (show 0 ≤ p by omega)
    have h2 := Int.mul_le_mul_of_nonneg_right (show d - c + 1 ≤ s by omega) (show 0 ≤ p by omega)
    rw [Int.add_mul (d - c) 1 p, Int.one_mul] at h2
    rw [Int.emod_eq_of_lt (by omega) (by rw [Int.mul_comm p s]; omega)]
/-- how many of the values below n have a digit -/
def cntB (p s n d : Int) : Int := n / (p * s) * p + min (max (n % (p * s) - d * p) 0) p
theorem cnt_step {p s n d : Int} (hp : 0 < p) (hs : 0 < s) (hd : 0 ≤ d ∧ d < s) : cntB p s (n + 1) d - cntB p s n d = if n / p % s = d then 1 else 0 := by
  have hps : 0 < p * s := Int.mul_pos hp hs
  have a1 := Int.emod_nonneg n (show p * s ≠ 0 by omega)
  have a2 := Int.emod_lt_of_pos n hps
  have a3 := Int.mul_ediv_add_emod n (p * s)
  have mm := mod_mul (v := n) hp hs
  have m1 := Int.emod_nonneg n (show p ≠ 0 by omega)
  have m2 := Int.emod_lt_of_pos n hp
  have d1 := Int.emod_nonneg (n / p) (show s ≠ 0 by omega)
  have d2 := Int.emod_lt_of_pos (n / p) hs
  have hdp := Int.mul_le_mul_of_nonneg_right (show d + 1 ≤ s by omega) (show 0 ≤ p by omega)
  rw [Int.add_mul, Int.one_mul, Int.mul_comm s p] at hdp
  have hd0 := Int.mul_nonneg hd.1 (show 0 ≤ p by omega)
  have key : (n / p % s = d ∧ d * p ≤ n % (p * s) ∧ n % (p * s) < d * p + p) ∨ (n / p % s ≠ d ∧ (n % (p * s) < d * p ∨ d * p + p ≤ n % (p * s))) := by
    rw [mm]
    generalize n / p % s = c at *
    rcases Int.lt_trichotomy c d with g | g | g
    · right
      have := Int.mul_le_mul_of_nonneg_right (show c + 1 ≤ d by omega) (show 0 ≤ p by omega)
      rw [Int.add_mul, Int.one_mul] at this
      exact ⟨by omega, .inl (by omega)⟩
    · left; subst g; exact ⟨rfl, by omega, by omega⟩
    · right
      have := Int.mul_le_mul_of_nonneg_right (show d + 1 ≤ c by omega) (show 0 ≤ p by omega)
      rw [Int.add_mul, Int.one_mul] at this
      exact ⟨by omega, .inr (by omega)⟩
  unfold cntB
  by_cases e : n % (p * s) + 1 < p * s
  · have q := (Int.ediv_emod_unique (a := n + 1) (b := p * s) (r := n % (p * s) + 1) (q := n / (p * s)) hps).2 ⟨by omega, by omega, e⟩
    rw [q.1, q.2]
    rcases key with ⟨k1, k2, k3⟩ | ⟨k1, k2⟩
    · rw [if_pos k1]; omega
    · rw [if_neg k1]; omega
  · have q := (Int.ediv_emod_unique (a := n + 1) (b := p * s) (r := 0) (q := n / (p * s) + 1) hps).2 ⟨by rw [Int.mul_add, Int.mul_one]; omega, by omega, by omega⟩
    rw [q.1, q.2, Int.add_mul, Int.one_mul]
    rcases key with ⟨k1, k2, k3⟩ | ⟨k1, k2⟩
    · rw [if_pos k1]; omega
    · rw [if_neg k1]; omega
end Go.Proofs.Ytinjlofefmjolaa.X
