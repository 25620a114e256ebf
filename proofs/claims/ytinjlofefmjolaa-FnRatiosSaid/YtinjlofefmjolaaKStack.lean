/- Stacks: how many values, and which stacks are valid. Conditions: none. -/
import Derived.Test.YtinjlofefmjolaaKBase
namespace Go.Proofs.Ytinjlofefmjolaa.X
open Go.RowKit
set_option linter.unusedVariables false
set_option linter.unusedSimpArgs false
set_option maxRecDepth 100000
/-- a number lies between two -/
def inR (n a b : Int) : Bool := decide (a ≤ n) && decide (n ≤ b)
theorem inR_t {n a b : Int} : inR n a b = true ↔ a ≤ n ∧ n ≤ b := by simp [inR]
theorem inR_f {n a b : Int} : inR n a b = false ↔ ¬ (a ≤ n ∧ n ≤ b) := by rw [← inR_t]; simp
theorem within_ok (n a b : Int) (w : World) : Calls Try.prog 44 #[.int .i64 n, .int .i64 a, .int .i64 b] w fun e w' => e = .returned (.bool (inR n a b)) ∧ w = w' := by
  by_cases h1 : a ≤ n
  all_goals by_cases h2 : n ≤ b
  all_goals
    go_enter Try.func44, Try.ntmps44
    go_wp2
    go_ret
    exact ⟨by simp [inR, *], rfl⟩
theorem l00In_ok (n a b : Int) (w : World) : Calls Try.prog 58 #[.int .i64 n, .int .i64 a, .int .i64 b] w fun e w' => e = .returned (.bool (inR n a b)) ∧ w = w' := by
  by_cases h1 : a ≤ n
  all_goals by_cases h2 : n ≤ b
  all_goals
    go_enter Try.func58, Try.ntmps58
    go_wp2
    go_ret
    exact ⟨by simp [inR, *], rfl⟩
theorem l00Min_ok (a b : Int) (w : World) : Calls Try.prog 60 #[.int .i64 a, .int .i64 b] w fun e w' => e = .returned (.int .i64 (min a b)) ∧ w = w' := by
  by_cases h1 : a < b
  all_goals
    go_enter Try.func60, Try.ntmps60
    go_wp2
    go_ret
    exact ⟨congrArg (fun z => Ending.returned (Value.int .i64 z)) (by omega), rfl⟩
theorem l00Max_ok (a b : Int) (w : World) : Calls Try.prog 59 #[.int .i64 a, .int .i64 b] w fun e w' => e = .returned (.int .i64 (max a b)) ∧ w = w' := by
  by_cases h1 : b < a
  all_goals
    go_enter Try.func59, Try.ntmps59
    go_wp2
    go_ret
    exact ⟨congrArg (fun z => Ending.returned (Value.int .i64 z)) (by omega), rfl⟩
def sizeTo (xs : List Int) : Nat → Int
  | 0 => 1
  | k + 1 => min (sizeTo xs k * el xs k) 1000000000001
theorem sizeTo_bd {xs : List Int} (h : b8 xs) (k : Nat) : 0 ≤ sizeTo xs k ∧ sizeTo xs k ≤ 1000000000001 := by
  induction k with
  | zero => simp [sizeTo]
  | succ k ih =>
    have := Int.mul_nonneg ih.1 (h k).1
    unfold sizeTo
    omega
theorem mul_le_255 {a b : Int} (h : 0 ≤ a ∧ a ≤ 1000000000001) (g : 0 ≤ b ∧ b ≤ 255) : 0 ≤ a * b ∧ a * b ≤ 255000000000255 := by
  refine ⟨Int.mul_nonneg h.1 g.1, ?_⟩
  have := Int.mul_le_mul h.2 g.2 g.1 (by omega)
  omega
def okB (b : Int) : Bool := decide (2 ≤ b) && decide (b ≤ 100)
/-- the first k bases are right -/
def allTo (xs : List Int) : Nat → Bool
  | 0 => true
  | k + 1 => allTo xs k && okB (el xs k)
theorem allTo_iff {xs : List Int} : ∀ {n : Nat}, allTo xs n = true ↔ ∀ j : Nat, j < n → 2 ≤ el xs j ∧ el xs j ≤ 100
  | 0 => by simp [allTo]
  | n + 1 => by
    unfold allTo
    rw [Bool.and_eq_true, allTo_iff]
    constructor
    · rintro ⟨h, g⟩ j hj
      by_cases e : j = n
      · subst e; simpa [okB] using g
      · exact h j (by omega)
    · intro h
      exact ⟨fun j hj => h j (by omega), by simpa [okB] using h n (by omega)⟩
theorem allTo_no {xs : List Int} {k n : Nat} (hk : k < n) (h : okB (el xs k) = false) : allTo xs n = false := by
  rw [← Bool.not_eq_true, allTo_iff]
  intro g
  have := g k hk
  simp [okB] at h
  omega
/-- a stack is valid -/
def okS (xs : List Int) : Bool := inR xs.length 1 8 && allTo xs xs.length && decide (sizeTo xs xs.length ≤ 1000000000000)
set_option maxHeartbeats 400000 in
theorem size_any {A : Option Addr} {xs : List Int} {W : World} {B : Nat} (hs : Nums .u8 W B A xs) (h8 : b8 xs) (n c : Nat) (hn : xs.length = n) (w : World) (hb : Below B W w) : Calls Try.prog 112 #[.slice A n c] w fun e w' => e = .returned (.int .i64 (sizeTo xs n)) ∧ w = w' := by
  obtain rfl := hn
  have hl := hs.len
  go_enter Try.func112, Try.ntmps112
  go_wp2
  go_loop [3, 8] (fun t i => ∃ k : Nat, k ≤ xs.length ∧ i = .int .i64 k ∧ t = .int .i64 (sizeTo xs k)) (fun _ i => xs.length - (intOf i).toNat)
  case atStart => exact ⟨0, Nat.zero_le _, rfl, rfl⟩
  case round =>
    obtain ⟨k, hk, rfl, rfl⟩ := hrel
    by_cases hlt : k < xs.length
    · obtain ⟨b, off, rfl, hbs, hc⟩ := hs.at hb hlt
      obtain ⟨e0, e1⟩ := h8 k
      obtain ⟨m0, m1⟩ := mul_le_255 (sizeTo_bd h8 k) ⟨e0, e1⟩
      go_wp2
      exact ⟨⟨k + 1, by omega, by go_num, congrArg (Value.int .i64) (by show _ = min _ _; omega)⟩, by simp [intOf]; omega⟩
    · obtain rfl : k = xs.length := by omega
      go_wp2
      go_ret
      exact ⟨rfl, rfl⟩
set_option maxHeartbeats 400000 in
theorem l01Size_any {A : Option Addr} {xs : List Int} {W : World} {B : Nat} (hs : Nums .u8 W B A xs) (h8 : b8 xs) (n c : Nat) (hn : xs.length = n) (w : World) (hb : Below B W w) : Calls Try.prog 98 #[.slice A n c] w fun e w' => e = .returned (.int .i64 (sizeTo xs n)) ∧ w = w' := by
  obtain rfl := hn
  have hl := hs.len
  go_enter Try.func98, Try.ntmps98
  go_wp2
  go_loop [3, 4] (fun t i => ∃ k : Nat, k ≤ xs.length ∧ i = .int .i64 k ∧ t = .int .i64 (sizeTo xs k)) (fun _ i => xs.length - (intOf i).toNat)
  case atStart => exact ⟨0, Nat.zero_le _, rfl, rfl⟩
  case round =>
    obtain ⟨k, hk, rfl, rfl⟩ := hrel
    by_cases hlt : k < xs.length
    · obtain ⟨b, off, rfl, hbs, hc⟩ := hs.at hb hlt
      obtain ⟨e0, e1⟩ := h8 k
      obtain ⟨m0, m1⟩ := mul_le_255 (sizeTo_bd h8 k) ⟨e0, e1⟩
      go_wp2_with (go_at_call 60; refine (l00Min_ok _ _ _).mono ?_; rintro e w' ⟨rfl, rfl⟩)
      exact ⟨⟨k + 1, by omega, by go_num, rfl⟩, by simp [intOf]; omega⟩
    · obtain rfl : k = xs.length := by omega
      go_wp2
      go_ret
      exact ⟨rfl, rfl⟩
theorem wheels_any (w : World) (n c : Nat) (A : Option Addr) (hn : n ≤ 1048576) : Calls Try.prog 104 #[.slice A n c] w fun e w' => e = .returned (.int .i64 n) ∧ w = w' := by
  go_enter Try.func104, Try.ntmps104
  go_wp2
  go_ret
  exact ⟨rfl, rfl⟩
theorem badBase_any (b : Int) (w : World) (h : 0 ≤ b ∧ b ≤ 255) : Calls Try.prog 111 #[.int .u8 b] w fun e w' => e = .returned (.bool (!okB b)) ∧ w = w' := by
  obtain ⟨h1, h2⟩ := h
  by_cases g1 : b < 2
  all_goals by_cases g2 : 100 < b
  all_goals
    go_enter Try.func111, Try.ntmps111
    go_wp2
    go_ret
    exact ⟨congrArg (fun z => Ending.returned (Value.bool z)) (by simp [okB]; omega), rfl⟩
def IdxAns (p : Bool) (w : World) (e : Ending) (w' : World) : Prop := ∃ r : Int, e = .returned (.int .i64 r) ∧ (decide (0 ≤ r)) = p ∧ w = w'
set_option maxHeartbeats 400000 in
theorem idxBad_any {A : Option Addr} {xs : List Int} {W : World} {B : Nat} (hs : Nums .u8 W B A xs) (h8 : b8 xs) (n c : Nat) (hn : xs.length = n) (w : World) (hb : Below B W w) : Calls Try.prog 114 #[.slice A n c, .func (.func 111) #[] #[]] w (IdxAns (!allTo xs n) w) := by
  obtain rfl := hn
  have hl := hs.len
  go_enter Try.func114, Try.ntmps114
  go_wp2
  go_loop [8] (fun i => ∃ k : Nat, k ≤ xs.length ∧ i = .int .i64 k ∧ Hid (allTo xs k = true)) (fun i => xs.length - (intOf i).toNat)
  case atStart => exact ⟨0, Nat.zero_le _, rfl, (rfl : allTo xs 0 = true)⟩
  case round =>
    obtain ⟨k, hk, rfl, HA⟩ := hrel
    by_cases hlt : k < xs.length
    · obtain ⟨b, off, rfl, hbs, hc⟩ := hs.at hb hlt
      obtain ⟨e0, e1⟩ := h8 k
      cases ho : okB (el xs k)
      · go_wp2_with (go_at_call 111; refine (badBase_any _ _ ⟨e0, e1⟩).mono ?_; rintro e w' ⟨rfl, rfl⟩)
        go_ret
        exact ⟨k, rfl, by rw [allTo_no hlt ho]; simp, rfl⟩
      · go_wp2_with (go_at_call 111; refine (badBase_any _ _ ⟨e0, e1⟩).mono ?_; rintro e w' ⟨rfl, rfl⟩)
        exact ⟨⟨k + 1, by omega, by go_num, by show (allTo xs k && okB (el xs k)) = true; rw [HA.out, ho]; rfl⟩, by simp [intOf]; omega⟩
    · obtain rfl : k = xs.length := by omega
      go_wp2
      go_ret
      exact ⟨-1, rfl, by rw [HA.out]; rfl, rfl⟩
theorem hasBad_any {A : Option Addr} {xs : List Int} {W : World} {B : Nat} (hs : Nums .u8 W B A xs) (h8 : b8 xs) (n c : Nat) (hn : xs.length = n) (w : World) (hb : Below B W w) : Calls Try.prog 110 #[.slice A n c, .func (.func 111) #[] #[]] w fun e w' => e = .returned (.bool (!allTo xs n)) ∧ w = w' := by
  go_enter Try.func110, Try.ntmps110
  go_wp2_with (go_at_call 114; refine (idxBad_any hs h8 _ _ hn _ hb).mono ?_; rintro e w' ⟨r, rfl, hr, rfl⟩)
  go_ret
  exact ⟨by rw [← hr]; rfl, rfl⟩
set_option maxHeartbeats 400000 in
theorem ValidStack_any {A : Option Addr} {xs : List Int} {W : World} {B : Nat} (hs : Nums .u8 W B A xs) (h8 : b8 xs) (n c : Nat) (hn : xs.length = n) (w : World) (hb : Below B W w) : Calls Try.prog 100 #[.slice A n c] w fun e w' => e = .returned (.bool (okS xs)) ∧ w = w' := by
  have hl := hs.len
  have e1 : n = xs.length := hn.symm
  unfold okS
  rw [← e1] at hl ⊢
  clear e1
  cases h1 : inR n 1 8 <;> cases h2 : allTo xs n
  all_goals
    go_enter Try.func100, Try.ntmps100
    go_wp2_with (first | (go_at_call 104; refine (wheels_any _ _ _ _ hl).mono ?_; rintro e w' ⟨rfl, rfl⟩) | (go_at_call 44; refine (within_ok _ _ _ _).mono ?_; rintro e w' ⟨rfl, rfl⟩) | (go_at_call 110; refine (hasBad_any hs h8 _ _ hn _ hb).mono ?_; rintro e w' ⟨rfl, rfl⟩) | (go_at_call 112; refine (size_any hs h8 _ _ hn _ hb).mono ?_; rintro e w' ⟨rfl, rfl⟩))
    go_ret
    exact ⟨by simp, rfl⟩
end Go.Proofs.Ytinjlofefmjolaa.X
