/- DriftOn of the reference and of the program. Conditions: none. -/
import Derived.Test.YtaahfebnbholmaaTotalsX
namespace Go.Proofs.Ytaahfebnbholmaa.X
open Go.RowKit
set_option linter.unusedVariables false
set_option linter.unusedSimpArgs false
/-- what DriftOn returns -/
noncomputable def driftV (xs ys : List (Int × Int)) (d : Int) : Int × Int := if vtB ys = true then if (cntOn xs d).2 = 0 then if (cntOn ys d).2 = 0 then (wrap64 ((cntOn xs d).1 - (cntOn ys d).1), 0) else (0, (cntOn ys d).2) else (0, (cntOn xs d).2) else (0, 1)
set_option maxHeartbeats 4000000 in
theorem specDriftOn_any (A B : Option Addr) (xs ys : List (Int × Int)) (n m c1 c2 b1 b2 : Nat) (d : Int) (w : World) (hn : xs.length = n) (hm : ys.length = m) (hn' : n ≤ maxLen) (hm' : m ≤ maxLen) (hb1 : b1 ≤ w.heap.size) (hb2 : b2 ≤ w.heap.size) (hs : SL w b1 2 e2 A xs) (ht : SL w b2 2 e2 B ys) :
    Calls Try.prog 50 #[.slice A n c1, .slice B m c2, .int .i64 d] w fun e w' => e = .returned (.tuple #[.int .i64 (driftV xs ys d).1, .int .i64 (driftV xs ys d).2]) ∧ Below w.heap.size w w' := by
  obtain ⟨vx, hvx⟩ : ∃ v, vtB xs = v := ⟨_, rfl⟩
  obtain ⟨vy, hvy⟩ : ∃ v, vtB ys = v := ⟨_, rfl⟩
  obtain ⟨p, q, hx⟩ : ∃ p q, cntOn xs d = (p, q) := ⟨_, _, rfl⟩
  obtain ⟨p', q', hy⟩ : ∃ p q, cntOn ys d = (p, q) := ⟨_, _, rfl⟩
  have T1 := fun w (h1 : b1 ≤ w.heap.size) (hs : SL w b1 2 e2 A xs) => l06Totals_any A xs n c1 b1 w hn hn' h1 hs
  have T2 := fun w (h1 : b2 ≤ w.heap.size) (hs : SL w b2 2 e2 B ys) => l06Totals_any B ys m c2 b2 w hm hm' h1 hs
  have C1 := fun w (h1 : b1 ≤ w.heap.size) (hs : SL w b1 2 e2 A xs) => specCountOn_any A xs n c1 b1 d w hn hn' h1 hs
  have C2 := fun w (h1 : b2 ≤ w.heap.size) (hs : SL w b2 2 e2 B ys) => specCountOn_any B ys m c2 b2 d w hm hm' h1 hs
  simp only [hvx] at T1
  simp only [hvy] at T2
  simp only [hx] at C1
  simp only [hy] at C2
  have HD : Hid (driftV xs ys d = if vx = true then if vy = true then if q = 0 then if q' = 0 then (wrap64 (p - p'), 0) else (0, q') else (0, q) else (0, 1) else (0, 1)) := by
    unfold Hid driftV
    rw [hx, hy, hvy]
    cases vx
    · have : cntOn xs d = (0, 1) := by unfold cntOn; rw [hvx]; rfl
      rw [hx] at this
      injection this with h1 h2
      subst h1 h2
      cases vy <;> rfl
    · rfl
  clear hvx hvy hx hy hn hm
  cases vx
  · go_enter Try.func50, Try.ntmps50
    go_wp2_with fail
    refine (T1 _ hb1 hs).mono ?_
    rintro e w1 ⟨rfl, hB1⟩
    go_wp2
    go_ret2
    exact ⟨by rw [HD.out]; rfl, hB1⟩
  · cases vy
    · go_enter Try.func50, Try.ntmps50
      go_wp2_with fail
      refine (T1 _ hb1 hs).mono ?_
      rintro e w1 ⟨rfl, hB1⟩
      go_wp2_with fail
      refine (T2 _ (by have := hB1.size; omega) (ht.keep hB1 hb2 (Nat.le_refl _))).mono ?_
      rintro e w2 ⟨rfl, hb⟩
      have hB2 := below_step hB1 hb (Nat.le_refl _)
      go_wp2
      go_ret2
      exact ⟨by rw [HD.out]; rfl, hB2⟩
    · by_cases hq : q = 0
      · subst hq
        by_cases hq' : q' = 0
        · subst hq'
          go_enter Try.func50, Try.ntmps50
          go_wp2_with fail
          refine (T1 _ hb1 hs).mono ?_
          rintro e w1 ⟨rfl, hB1⟩
          go_wp2_with fail
          refine (T2 _ (by have := hB1.size; omega) (ht.keep hB1 hb2 (Nat.le_refl _))).mono ?_
          rintro e w2 ⟨rfl, hb⟩
          have hB2 := below_step hB1 hb (Nat.le_refl _)
          clear hb
          go_wp2_with fail
          refine (C1 _ (by have := hB2.size; omega) (hs.keep hB2 hb1 (Nat.le_refl _))).mono ?_
          rintro e w3 ⟨rfl, hb⟩
          have hB3 := below_step hB2 hb (Nat.le_refl _)
          clear hb
          go_wp2_with fail
          refine (C2 _ (by have := hB3.size; omega) (ht.keep hB3 hb2 (Nat.le_refl _))).mono ?_
          rintro e w4 ⟨rfl, hb⟩
          have hB4 := below_step hB3 hb (Nat.le_refl _)
          clear hb
          go_wp2
          go_ret2
          exact ⟨by rw [HD.out]; rfl, hB4⟩
        · have b0 : (q' == 0) = false := by simpa using hq'
          have HQ := Lib.hid hq'
          clear hq'
          go_enter Try.func50, Try.ntmps50
          go_wp2_with fail
          refine (T1 _ hb1 hs).mono ?_
          rintro e w1 ⟨rfl, hB1⟩
          go_wp2_with fail
          refine (T2 _ (by have := hB1.size; omega) (ht.keep hB1 hb2 (Nat.le_refl _))).mono ?_
          rintro e w2 ⟨rfl, hb⟩
          have hB2 := below_step hB1 hb (Nat.le_refl _)
          clear hb
          go_wp2_with fail
          refine (C1 _ (by have := hB2.size; omega) (hs.keep hB2 hb1 (Nat.le_refl _))).mono ?_
          rintro e w3 ⟨rfl, hb⟩
          have hB3 := below_step hB2 hb (Nat.le_refl _)
          clear hb
          go_wp2_with fail
          refine (C2 _ (by have := hB3.size; omega) (ht.keep hB3 hb2 (Nat.le_refl _))).mono ?_
          rintro e w4 ⟨rfl, hb⟩
          have hB4 := below_step hB3 hb (Nat.le_refl _)
          clear hb
          go_wp2
          go_ret2
          exact ⟨by simp only [HD.out, HQ.out, if_true, if_false]; rfl, hB4⟩
      · have b0 : (q == 0) = false := by simpa using hq
        have HQ := Lib.hid hq
        clear hq
        go_enter Try.func50, Try.ntmps50
        go_wp2_with fail
        refine (T1 _ hb1 hs).mono ?_
        rintro e w1 ⟨rfl, hB1⟩
        go_wp2_with fail
        refine (T2 _ (by have := hB1.size; omega) (ht.keep hB1 hb2 (Nat.le_refl _))).mono ?_
        rintro e w2 ⟨rfl, hb⟩
        have hB2 := below_step hB1 hb (Nat.le_refl _)
        clear hb
        go_wp2_with fail
        refine (C1 _ (by have := hB2.size; omega) (hs.keep hB2 hb1 (Nat.le_refl _))).mono ?_
        rintro e w3 ⟨rfl, hb⟩
        have hB3 := below_step hB2 hb (Nat.le_refl _)
        clear hb
        go_wp2
        go_ret2
        exact ⟨by simp only [HD.out, HQ.out, if_true, if_false]; rfl, hB3⟩
set_option maxHeartbeats 4000000 in
theorem implDriftOn_any (A B : Option Addr) (xs ys : List (Int × Int)) (n m c1 c2 b1 b2 : Nat) (d : Int) (w : World) (hn : xs.length = n) (hm : ys.length = m) (hn' : n ≤ maxLen) (hm' : m ≤ maxLen) (hb1 : b1 ≤ w.heap.size) (hb2 : b2 ≤ w.heap.size) (hs : SL w b1 2 e2 A xs) (ht : SL w b2 2 e2 B ys) :
    Calls Try.prog 51 #[.slice A n c1, .slice B m c2, .int .i64 d] w fun e w' => e = .returned (.tuple #[.int .i64 (driftV xs ys d).1, .int .i64 (driftV xs ys d).2]) ∧ Below w.heap.size w w' := by
  obtain ⟨vy, hvy⟩ : ∃ v, vtB ys = v := ⟨_, rfl⟩
  obtain ⟨p, q, hx⟩ : ∃ p q, cntOn xs d = (p, q) := ⟨_, _, rfl⟩
  obtain ⟨p', q', hy⟩ : ∃ p q, cntOn ys d = (p, q) := ⟨_, _, rfl⟩
  have T2 := fun w (h1 : b2 ≤ w.heap.size) (hs : SL w b2 2 e2 B ys) => implValidTotals_any B ys m c2 b2 w hm hm' h1 hs
  have C1 := fun w (h1 : b1 ≤ w.heap.size) (hs : SL w b1 2 e2 A xs) => implCountOn_any A xs n c1 b1 d w hn hn' h1 hs
  have C2 := fun w (h1 : b2 ≤ w.heap.size) (hs : SL w b2 2 e2 B ys) => implCountOn_any B ys m c2 b2 d w hm hm' h1 hs
  simp only [hvy] at T2
  simp only [hx] at C1
  simp only [hy] at C2
  have HD : Hid (driftV xs ys d = if vy = true then if q = 0 then if q' = 0 then (wrap64 (p - p'), 0) else (0, q') else (0, q) else (0, 1)) := by
    unfold Hid driftV
    rw [hx, hy, hvy]
  clear hvy hx hy hn hm
  cases vy
  · go_enter Try.func51, Try.ntmps51
    go_wp2_with fail
    refine (T2 _ hb2 ht).mono ?_
    rintro e w1 ⟨rfl, hB1⟩
    go_wp2
    go_ret2
    exact ⟨by rw [HD.out]; rfl, hB1⟩
  · by_cases hq : q = 0
    · subst hq
      by_cases hq' : q' = 0
      · subst hq'
        go_enter Try.func51, Try.ntmps51
        go_wp2_with fail
        refine (T2 _ hb2 ht).mono ?_
        rintro e w1 ⟨rfl, hB1⟩
        go_wp2_with fail
        refine (C1 _ (by have := hB1.size; omega) (hs.keep hB1 hb1 (Nat.le_refl _))).mono ?_
        rintro e w3 ⟨rfl, hb⟩
        have hB3 := below_step hB1 hb (Nat.le_refl _)
        clear hb
        go_wp2_with fail
        refine (C2 _ (by have := hB3.size; omega) (ht.keep hB3 hb2 (Nat.le_refl _))).mono ?_
        rintro e w4 ⟨rfl, hb⟩
        have hB4 := below_step hB3 hb (Nat.le_refl _)
        clear hb
        go_wp2
        go_ret2
        exact ⟨by rw [HD.out]; rfl, hB4⟩
      · have b0 : (q' == 0) = false := by simpa using hq'
        have HQ := Lib.hid hq'
        clear hq'
        go_enter Try.func51, Try.ntmps51
        go_wp2_with fail
        refine (T2 _ hb2 ht).mono ?_
        rintro e w1 ⟨rfl, hB1⟩
        go_wp2_with fail
        refine (C1 _ (by have := hB1.size; omega) (hs.keep hB1 hb1 (Nat.le_refl _))).mono ?_
        rintro e w3 ⟨rfl, hb⟩
        have hB3 := below_step hB1 hb (Nat.le_refl _)
        clear hb
        go_wp2_with fail
        refine (C2 _ (by have := hB3.size; omega) (ht.keep hB3 hb2 (Nat.le_refl _))).mono ?_
        rintro e w4 ⟨rfl, hb⟩
        have hB4 := below_step hB3 hb (Nat.le_refl _)
        clear hb
        go_wp2
        go_ret2
        exact ⟨by simp only [HD.out, HQ.out, if_true, if_false]; rfl, hB4⟩
    · have b0 : (q == 0) = false := by simpa using hq
      have HQ := Lib.hid hq
      clear hq
      go_enter Try.func51, Try.ntmps51
      go_wp2_with fail
      refine (T2 _ hb2 ht).mono ?_
      rintro e w1 ⟨rfl, hB1⟩
      go_wp2_with fail
      refine (C1 _ (by have := hB1.size; omega) (hs.keep hB1 hb1 (Nat.le_refl _))).mono ?_
      rintro e w3 ⟨rfl, hb⟩
      have hB3 := below_step hB1 hb (Nat.le_refl _)
      clear hb
      go_wp2
      go_ret2
      exact ⟨by simp only [HD.out, HQ.out, if_true, if_false]; rfl, hB3⟩
end Go.Proofs.Ytaahfebnbholmaa.X
