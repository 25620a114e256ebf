/- How many bits a number has: the sums of a word's bits, side by side. Conditions: none. -/
import Derived.Test.YtdmnblmonndkmaaKBase
namespace Go.Proofs.Ytdmnblmonndkmaa.X.Pop
set_option linter.unusedVariables false
set_option linter.unusedSimpArgs false
def pcN (x : Nat) : Nat := if h : x = 0 then 0 else x % 2 + pcN (x / 2)
termination_by x
decreasing_by omega
theorem pcN_eq (x : Nat) : pcN x = x % 2 + pcN (x / 2) := by
  by_cases h : x = 0
  · subst h; rw [pcN]; simp [pcN]
  · rw [pcN, dif_neg h]
theorem pcN_zero : pcN 0 = 0 := by rw [pcN]; simp
theorem pcN_split (k : Nat) : ∀ a b : Nat, a < 2 ^ k → pcN (a + 2 ^ k * b) = pcN a + pcN b := by
  induction k with
  | zero => intro a b h; have : a = 0 := by simpa using h
            subst this; rw [pcN_zero]; simp
  | succ k ih =>
    intro a b h
    have h2 : a < 2 ^ k * 2 := by rwa [Nat.pow_succ] at h
    rw [pcN_eq, pcN_eq a, Nat.pow_succ, show (a + 2 ^ k * 2 * b) % 2 = a % 2 by rw [show 2 ^ k * 2 * b = 2 * (2 ^ k * b) by rw [Nat.mul_comm (2 ^ k) 2, Nat.mul_assoc]]; omega,
      show (a + 2 ^ k * 2 * b) / 2 = a / 2 + 2 ^ k * b by rw [show 2 ^ k * 2 * b = 2 * (2 ^ k * b) by rw [Nat.mul_comm (2 ^ k) 2, Nat.mul_assoc]]; omega, ih _ _ (by omega)]
    omega
theorem and_split (a m b r : Nat) (ha : a < 256) (hm : m < 256) : (a + 256 * b) &&& (m + 256 * r) = (a &&& m) + 256 * (b &&& r) := by
  apply Nat.eq_of_testBit_eq
  intro j
  have h := fun (x y : Nat) (hy : y < 2 ^ 8) => Nat.testBit_two_pow_mul_add x hy j
  have ham : a &&& m < 2 ^ 8 := Nat.lt_of_le_of_lt Nat.and_le_left ha
  rw [Nat.testBit_and, Nat.add_comm a, Nat.add_comm m, Nat.add_comm (a &&& m), show (256 : Nat) = 2 ^ 8 from rfl, h b a ha, h r m hm, h _ _ ham]
  by_cases hj : j < 8 <;> simp [hj]
def asm : List Nat → Nat
  | [] => 0
  | a :: l => a + 256 * asm l
def rep (m : Nat) : List Nat → Nat
  | [] => 0
  | _ :: l => m + 256 * rep m l
def f1 (a : Nat) : Nat := (a / 2 &&& 0x55) + (a &&& 0x55)
def f2 (a : Nat) : Nat := (a / 4 &&& 0x33) + (a &&& 0x33)
def f3 (a : Nat) : Nat := (a / 16 + a) &&& 0x0f
theorem t1 : ∀ a : Fin 256, ∀ t : Fin 2, (a.val / 2 + 128 * t.val) &&& 0x55 = a.val / 2 &&& 0x55 := by decide +kernel
theorem t2 : ∀ a : Fin 256, ∀ t : Fin 4, (a.val / 4 + 64 * t.val) &&& 0x33 = a.val / 4 &&& 0x33 := by decide +kernel
theorem t3 : ∀ a : Fin 256, ∀ t : Fin 16, (a.val / 16 + 16 * t.val + a.val) &&& 0x0f = (a.val / 16 + a.val) &&& 0x0f := by decide +kernel
theorem f1_lt : ∀ a : Fin 256, f1 a.val < 256 := by decide +kernel
theorem f2_ok : ∀ a : Fin 256, f2 (f1 a.val) % 16 ≤ 4 ∧ f2 (f1 a.val) / 16 ≤ 4 := by decide +kernel
theorem f3_eq : ∀ a : Fin 256, f3 (f2 (f1 a.val)) = a.val % 2 + a.val / 2 % 2 + a.val / 4 % 2 + a.val / 8 % 2 + a.val / 16 % 2 + a.val / 32 % 2 + a.val / 64 % 2 + a.val / 128 % 2 := by decide +kernel
theorem pc8 (a : Nat) (h : a < 256) : pcN a = f3 (f2 (f1 a)) := by
  rw [f3_eq ⟨a, h⟩]
  have e := fun y => pcN_eq y
  rw [e a, e (a / 2), e (a / 2 / 2), e (a / 2 / 2 / 2), e (a / 2 / 2 / 2 / 2), e (a / 2 / 2 / 2 / 2 / 2), e (a / 2 / 2 / 2 / 2 / 2 / 2), e (a / 2 / 2 / 2 / 2 / 2 / 2 / 2)]
  have z : a / 2 / 2 / 2 / 2 / 2 / 2 / 2 / 2 = 0 := by omega
  rw [z, pcN_zero]
  simp only [Nat.div_div_eq_div_mul, Nat.reduceMul]
  omega
theorem s1 : ∀ l : List Nat, (∀ a ∈ l, a < 256) → (asm l / 2 &&& rep 0x55 l) + (asm l &&& rep 0x55 l) = asm (l.map f1)
  | [], _ => rfl
  | a :: l, h => by
    have ha := h a (List.mem_cons_self ..)
    have ih := s1 l fun b hb => h b (List.mem_cons_of_mem _ hb)
    have e : (a + 256 * asm l) / 2 = (a / 2 + 128 * (asm l % 2)) + 256 * (asm l / 2) := by omega
    show ((a + 256 * asm l) / 2 &&& (0x55 + 256 * rep 0x55 l)) + ((a + 256 * asm l) &&& (0x55 + 256 * rep 0x55 l)) = f1 a + 256 * asm (l.map f1)
    rw [e, and_split _ _ _ _ (by omega) (by decide), and_split _ _ _ _ ha (by decide), t1 ⟨a, ha⟩ ⟨asm l % 2, by omega⟩, ← ih]
    unfold f1
    simp only
    omega
theorem s2 : ∀ l : List Nat, (∀ a ∈ l, a < 256) → (asm l / 4 &&& rep 0x33 l) + (asm l &&& rep 0x33 l) = asm (l.map f2)
  | [], _ => rfl
  | a :: l, h => by
    have ha := h a (List.mem_cons_self ..)
    have ih := s2 l fun b hb => h b (List.mem_cons_of_mem _ hb)
    have e : (a + 256 * asm l) / 4 = (a / 4 + 64 * (asm l % 4)) + 256 * (asm l / 4) := by omega
    show ((a + 256 * asm l) / 4 &&& (0x33 + 256 * rep 0x33 l)) + ((a + 256 * asm l) &&& (0x33 + 256 * rep 0x33 l)) = f2 a + 256 * asm (l.map f2)
    rw [e, and_split _ _ _ _ (by omega) (by decide), and_split _ _ _ _ ha (by decide), t2 ⟨a, ha⟩ ⟨asm l % 4, by omega⟩, ← ih]
    unfold f2
    simp only
    omega
theorem s3 : ∀ l : List Nat, (∀ a ∈ l, a % 16 ≤ 4 ∧ a / 16 ≤ 4) → (asm l / 16 + asm l) &&& rep 0x0f l = asm (l.map f3)
  | [], _ => rfl
  | a :: l, h => by
    have ha := h a (List.mem_cons_self ..)
    have ih := s3 l fun b hb => h b (List.mem_cons_of_mem _ hb)
    have hl : asm l % 16 ≤ 4 := by
      cases l with
      | nil => show 0 % 16 ≤ 4; omega
      | cons b l => have := h b (by simp); show (b + 256 * asm l) % 16 ≤ 4; omega
    have e : (a + 256 * asm l) / 16 + (a + 256 * asm l) = (a / 16 + 16 * (asm l % 16) + a) + 256 * (asm l / 16 + asm l) := by omega
    show ((a + 256 * asm l) / 16 + (a + 256 * asm l)) &&& (0x0f + 256 * rep 0x0f l) = f3 a + 256 * asm (l.map f3)
    rw [e, and_split _ _ _ _ (by omega) (by decide), t3 ⟨a, by omega⟩ ⟨asm l % 16, by omega⟩, ih]
    rfl
theorem asm_lt : ∀ l : List Nat, (∀ a ∈ l, a < 256) → asm l < 256 ^ l.length
  | [], _ => by decide
  | a :: l, h => by
    have ih := asm_lt l fun b hb => h b (List.mem_cons_of_mem _ hb)
    have ha := h a (List.mem_cons_self ..)
    show a + 256 * asm l < 256 ^ (l.length + 1)
    rw [Nat.pow_succ]
    omega
/-- eight bytes -/
theorem bytes (x : Nat) (h : x < 18446744073709551616) : ∃ a b c d e f g i : Nat, x = asm [a, b, c, d, e, f, g, i] ∧ (a < 256 ∧ b < 256 ∧ c < 256 ∧ d < 256) ∧ (e < 256 ∧ f < 256 ∧ g < 256 ∧ i < 256) := by
  refine ⟨x % 256, x / 256 % 256, x / 65536 % 256, x / 16777216 % 256, x / 4294967296 % 256, x / 1099511627776 % 256, x / 281474976710656 % 256, x / 72057594037927936, ?_, by omega, by omega⟩
  simp only [asm]
  omega
def sw1 (x : Nat) : Nat := (x / 2 &&& 6148914691236517205) + (x &&& 6148914691236517205)
def sw2 (x : Nat) : Nat := (x / 4 &&& 3689348814741910323) + (x &&& 3689348814741910323)
def sw3 (x : Nat) : Nat := (x / 16 + x) &&& 1085102592571150095
theorem dvq {m p q : Nat} (h : p < m) : (p + m * q) / m = q := by
  rw [Nat.add_mul_div_left _ _ (by omega), Nat.div_eq_of_lt h, Nat.zero_add]
theorem sums (a b c d e f g i y : Nat) (h1 : a ≤ 8 ∧ b ≤ 8 ∧ c ≤ 8 ∧ d ≤ 8) (h2 : e ≤ 8 ∧ f ≤ 8 ∧ g ≤ 8 ∧ i ≤ 8) (hy : y = asm [a, b, c, d, e, f, g, i]) :
    y < 1000000000000000000 ∧ (y + y / 256 + (y + y / 256) / 65536 + (y + y / 256 + (y + y / 256) / 65536) / 4294967296) % 128 = a + b + c + d + e + f + g + i := by
  simp only [asm] at hy
  have hy1 : y < 1000000000000000000 := by omega
  have e0 : y / 256 = b + 256 * (c + 256 * (d + 256 * (e + 256 * (f + 256 * (g + 256 * i))))) := by rw [hy]; exact dvq (by omega)
  have f0 : y + y / 256 = ((a + b) + 256 * (b + c)) + 65536 * ((c + d) + 256 * ((d + e) + 256 * ((e + f) + 256 * ((f + g) + 256 * ((g + i) + 256 * i))))) := by
    rw [e0]; omega
  clear e0 hy
  generalize y + y / 256 = z at *
  have e1 : z / 65536 = (c + d) + 256 * ((d + e) + 256 * ((e + f) + 256 * ((f + g) + 256 * ((g + i) + 256 * i)))) := by rw [f0]; exact dvq (by omega)
  have f1 : z + z / 65536 = ((a + b + (c + d)) + 256 * ((b + c + (d + e)) + 256 * ((c + d + (e + f)) + 256 * (d + e + (f + g))))) + 4294967296 * ((e + f + (g + i)) + 256 * ((f + g + i) + 256 * ((g + i) + 256 * i))) := by
    rw [e1, f0]; omega
  clear e1 f0
  generalize z + z / 65536 = u at *
  have e2 : u / 4294967296 = (e + f + (g + i)) + 256 * ((f + g + i) + 256 * ((g + i) + 256 * i)) := by rw [f1]; exact dvq (by omega)
  refine ⟨hy1, ?_⟩
  rw [e2, f1]
  clear e2 f1
  omega
theorem small8 (a b c d e f g i : Nat) (h1 : a ≤ 68 ∧ b ≤ 68 ∧ c ≤ 68 ∧ d ≤ 68) (h2 : e ≤ 68 ∧ f ≤ 68 ∧ g ≤ 68 ∧ i ≤ 68) : asm [a, b, c, d, e, f, g, i] < 6000000000000000000 := by
  simp only [asm]; omega
theorem big8 (a b c d e f g i : Nat) (h1 : a < 256 ∧ b < 256 ∧ c < 256 ∧ d < 256) (h2 : e < 256 ∧ f < 256 ∧ g < 256 ∧ i < 256) : asm [a, b, c, d, e, f, g, i] < 18446744073709551616 := by
  simp only [asm]; omega
theorem rep_cons (m a : Nat) (l : List Nat) : rep m (a :: l) = m + 256 * rep m l := rfl
theorem rep_nil (m : Nat) : rep m [] = 0 := rfl
theorem rep1 (a b c d e f g i : Nat) : rep 0x55 [a, b, c, d, e, f, g, i] = 6148914691236517205 := by
  rw [rep_cons, rep_cons, rep_cons, rep_cons, rep_cons, rep_cons, rep_cons, rep_cons, rep_nil]
theorem rep2 (a b c d e f g i : Nat) : rep 0x33 [a, b, c, d, e, f, g, i] = 3689348814741910323 := by
  rw [rep_cons, rep_cons, rep_cons, rep_cons, rep_cons, rep_cons, rep_cons, rep_cons, rep_nil]
theorem rep3 (a b c d e f g i : Nat) : rep 0x0f [a, b, c, d, e, f, g, i] = 1085102592571150095 := by
  rw [rep_cons, rep_cons, rep_cons, rep_cons, rep_cons, rep_cons, rep_cons, rep_cons, rep_nil]
theorem sw1_asm (a b c d e f g i : Nat) (all : ∀ z ∈ [a, b, c, d, e, f, g, i], z < 256) : sw1 (asm [a, b, c, d, e, f, g, i]) = asm [f1 a, f1 b, f1 c, f1 d, f1 e, f1 f, f1 g, f1 i] := by
  have e_ := s1 [a, b, c, d, e, f, g, i] all
  rw [rep1] at e_
  unfold sw1
  exact e_
theorem sw2_asm (a b c d e f g i : Nat) (all : ∀ z ∈ [a, b, c, d, e, f, g, i], z < 256) : sw2 (asm [a, b, c, d, e, f, g, i]) = asm [f2 a, f2 b, f2 c, f2 d, f2 e, f2 f, f2 g, f2 i] := by
  have e_ := s2 [a, b, c, d, e, f, g, i] all
  rw [rep2] at e_
  unfold sw2
  exact e_
theorem sw3_asm (a b c d e f g i : Nat) (all : ∀ z ∈ [a, b, c, d, e, f, g, i], z % 16 ≤ 4 ∧ z / 16 ≤ 4) : sw3 (asm [a, b, c, d, e, f, g, i]) = asm [f3 a, f3 b, f3 c, f3 d, f3 e, f3 f, f3 g, f3 i] := by
  have e_ := s3 [a, b, c, d, e, f, g, i] all
  rw [rep3] at e_
  unfold sw3
  exact e_
theorem pc_asm (a b c d e f g i : Nat) (h1 : a < 256 ∧ b < 256 ∧ c < 256 ∧ d < 256) (h2 : e < 256 ∧ f < 256 ∧ g < 256 ∧ i < 256) : pcN (asm [a, b, c, d, e, f, g, i]) = f3 (f2 (f1 a)) + f3 (f2 (f1 b)) + f3 (f2 (f1 c)) + f3 (f2 (f1 d)) + f3 (f2 (f1 e)) + f3 (f2 (f1 f)) + f3 (f2 (f1 g)) + f3 (f2 (f1 i)) := by
  obtain ⟨ha, hb, hc, hd⟩ := h1
  obtain ⟨he, hf, hg, hi⟩ := h2
  simp only [asm, Nat.mul_zero, Nat.add_zero]
  have p := fun u v (h : u < 256) => pcN_split 8 u v h
  simp only [show (2 : Nat) ^ 8 = 256 from rfl] at p
  rw [p _ _ ha, p _ _ hb, p _ _ hc, p _ _ hd, p _ _ he, p _ _ hf, p _ _ hg, pc8 a ha, pc8 b hb, pc8 c hc, pc8 d hd, pc8 e he, pc8 f hf, pc8 g hg, pc8 i hi]
  omega
theorem pop_all (x : Nat) (h : x < 18446744073709551616) : sw1 x < 18446744073709551616 ∧ sw2 (sw1 x) < 18446744073709551616 ∧ sw2 (sw1 x) / 16 + sw2 (sw1 x) < 18446744073709551616 ∧ sw3 (sw2 (sw1 x)) < 1000000000000000000 ∧
    (∀ y, y = sw3 (sw2 (sw1 x)) → (y + y / 256 + (y + y / 256) / 65536 + (y + y / 256 + (y + y / 256) / 65536) / 4294967296) % 128 = pcN x) := by
  obtain ⟨a, b, c, d, e, f, g, i, rfl, ⟨ha, hb, hc, hd⟩, he, hf, hg, hi⟩ := bytes x h
  have all : ∀ z ∈ [a, b, c, d, e, f, g, i], z < 256 := by simp; omega
  have r1 := sw1_asm a b c d e f g i all
  have k1 := fun z hz => f1_lt ⟨z, hz⟩
  simp only at k1
  have all1 : ∀ z ∈ [f1 a, f1 b, f1 c, f1 d, f1 e, f1 f, f1 g, f1 i], z < 256 := by simp [k1, *]
  have r2 := sw2_asm _ _ _ _ _ _ _ _ all1
  have k2 := fun z hz => f2_ok ⟨z, hz⟩
  simp only at k2
  have all2 : ∀ z ∈ [f2 (f1 a), f2 (f1 b), f2 (f1 c), f2 (f1 d), f2 (f1 e), f2 (f1 f), f2 (f1 g), f2 (f1 i)], z % 16 ≤ 4 ∧ z / 16 ≤ 4 := by
    intro z hz
    simp only [List.mem_cons, List.not_mem_nil, or_false] at hz
    rcases hz with rfl | rfl | rfl | rfl | rfl | rfl | rfl | rfl <;> exact k2 _ (by assumption)
  have r3 := sw3_asm _ _ _ _ _ _ _ _ all2
  have k3 := fun z (hz : z < 256) => f3_eq ⟨z, hz⟩
  simp only at k3
  have q : ∀ z, z < 256 → f3 (f2 (f1 z)) ≤ 8 := fun z hz => by rw [k3 z hz]; omega
  rw [r1, r2, r3]
  obtain ⟨j1, j2⟩ := sums _ _ _ _ _ _ _ _ _ ⟨q a ha, q b hb, q c hc, q d hd⟩ ⟨q e he, q f hf, q g hg, q i hi⟩ rfl
  have A1 := k1 a ha; have A2 := k1 b hb; have A3 := k1 c hc; have A4 := k1 d hd; have A5 := k1 e he; have A6 := k1 f hf; have A7 := k1 g hg; have A8 := k1 i hi
  have B1 := k2 a ha; have B2 := k2 b hb; have B3 := k2 c hc; have B4 := k2 d hd; have B5 := k2 e he; have B6 := k2 f hf; have B7 := k2 g hg; have B8 := k2 i hi
  have K1 : asm [f1 a, f1 b, f1 c, f1 d, f1 e, f1 f, f1 g, f1 i] < 18446744073709551616 := big8 _ _ _ _ _ _ _ _ ⟨A1, A2, A3, A4⟩ ⟨A5, A6, A7, A8⟩
  have K2 : asm [f2 (f1 a), f2 (f1 b), f2 (f1 c), f2 (f1 d), f2 (f1 e), f2 (f1 f), f2 (f1 g), f2 (f1 i)] < 6000000000000000000 := by
    clear j1 j2 A1 A2 A3 A4 A5 A6 A7 A8
    have C1 : f2 (f1 a) ≤ 68 := by omega
    have C2 : f2 (f1 b) ≤ 68 := by omega
    have C3 : f2 (f1 c) ≤ 68 := by omega
    have C4 : f2 (f1 d) ≤ 68 := by omega
    have C5 : f2 (f1 e) ≤ 68 := by omega
    have C6 : f2 (f1 f) ≤ 68 := by omega
    have C7 : f2 (f1 g) ≤ 68 := by omega
    have C8 : f2 (f1 i) ≤ 68 := by omega
    clear B1 B2 B3 B4 B5 B6 B7 B8
    exact small8 _ _ _ _ _ _ _ _ ⟨C1, C2, C3, C4⟩ ⟨C5, C6, C7, C8⟩
  clear A1 A2 A3 A4 A5 A6 A7 A8 B1 B2 B3 B4 B5 B6 B7 B8
  have K3 : ∀ X : Nat, X < 6000000000000000000 → X < 18446744073709551616 ∧ X / 16 + X < 18446744073709551616 := fun X h => by omega
  refine ⟨K1, (K3 _ K2).1, (K3 _ K2).2, j1, ?_⟩
  intro y hy
  subst hy
  rw [j2, pc_asm _ _ _ _ _ _ _ _ ⟨ha, hb, hc, hd⟩ ⟨he, hf, hg, hi⟩]
theorem pcN_le (k : Nat) : ∀ x : Nat, x < 2 ^ k → pcN x ≤ k := by
  induction k with
  | zero => intro x h; have : x = 0 := by simpa using h
            subst this; rw [pcN_zero]; omega
  | succ k ih =>
    intro x h
    rw [pcN_eq]
    have := ih (x / 2) (by rw [Nat.pow_succ] at h; omega)
    omega
end Go.Proofs.Ytdmnblmonndkmaa.X.Pop
