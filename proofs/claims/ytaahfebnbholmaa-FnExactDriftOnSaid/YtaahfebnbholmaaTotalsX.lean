/- CountOn and what leans on it. Conditions: none. -/
import Derived.Test.YtaahfebnbholmaaTotalsW
namespace Go.Proofs.Ytaahfebnbholmaa.X
open Go.RowKit
set_option linter.unusedVariables false
set_option linter.unusedSimpArgs false
set_option maxHeartbeats 8000000 in
set_option maxRecDepth 100000 in
theorem countOn_any (A : Option Addr) (xs : List (Int × Int)) (n c b1 : Nat) (d : Int) (w : World) (hn : xs.length = n) (hb1 : b1 ≤ w.heap.size) (hs : SL w b1 2 e2 A xs) (hv : vt xs) (hc : Cov xs d) (hd : 0 ≤ d ∧ d ≤ 100000) :
    Calls Try.prog 81 #[.slice A n c, .int .i64 d] w fun e w' => e = .returned (.int .i64 (onV xs d)) ∧ Below w.heap.size w w' := by
  obtain rfl := hn
  obtain ⟨hc0, hc1, hc2⟩ := hc
  have hl := hv.1
  obtain ⟨hd0, hd1⟩ := hd
  have HV := Lib.hid hv
  clear hv
  have q4 : (1 : Int) ≤ (xs.length : Int) := by omega
  go_enter Try.func81, Try.ntmps81
  go_wp2
  go_loop [5] (fun i => ∃ k : Nat, k < xs.length ∧ i = .int .i64 k ∧ ∀ j : Nat, k < j → j < xs.length → d < tD xs j) (fun i => (intOf i).toNat)
  case atStart => exact ⟨xs.length - 1, by omega, by rw [show ((xs.length - 1 : Nat) : Int) = (xs.length : Int) - 1 by omega], fun j h1 h2 => by omega⟩
  case round =>
    obtain ⟨k, hk, rfl, hgt⟩ := hrel
    have HG := Lib.hid hgt
    clear hgt
    obtain ⟨b, off, rfl, hb, x0, x1⟩ := hs.atT (k := k) hk
    have hbw : b < w.heap.size := by omega
    have g0 : (0 : Int) ≤ (k : Int) := by omega
    have g1 : (k : Int) < (xs.length : Int) := by omega
    have hk0 := vt_day HV.out k hk
    have hk1 := vt_cnt HV.out k hk
    by_cases hc : d < tD xs k
    · have hk2 : 0 < k := by
        rcases Nat.eq_zero_or_pos k with h | h
        · subst h; simp at hc; omega
        · exact h
      go_wp2
      exact ⟨⟨k - 1, by omega, by rw [show ((k - 1 : Nat) : Int) = (k : Int) - 1 by omega], fun j h1 h2 => by
        by_cases e : j = k
        · rw [e]; exact hc
        · exact HG.out j (by omega) h2⟩, by simp [intOf]; omega⟩
    · have hL : LastAt xs d k := ⟨hk, by omega, HG.out⟩
      have HO := Lib.hid (onV_eq hL)
      clear hL
      by_cases heq : tD xs k = d
      · have b0 : (tD xs k == d) = true := by simpa using heq
        have HE := Lib.hid heq
        clear heq
        go_wp2
        go_ret
        exact ⟨by rw [HO.out]; unfold valD; rw [if_pos HE.out]; rfl, Below.refl _ _⟩
      · have hn : k + 1 < xs.length := by
          rcases Nat.lt_or_ge (k + 1) xs.length with h | h
          · exact h
          · have e : (k : Int) = (xs.length : Int) - 1 := by omega
            rw [← e] at hc2; omega
        obtain ⟨b', off', he, _, u0, u1⟩ := hs.atT (k := k + 1) hn
        obtain ⟨rfl, rfl⟩ := addr_same he
        clear he
        have ek : ((k + 1 : Nat) : Int) = (k : Int) + 1 := by omega
        have hn0 := vt_day HV.out (k + 1) hn
        have hn1 := vt_cnt HV.out (k + 1) hn
        have hn2 := vt_cstep HV.out k hn
        have hlt := vt_lt HV.out k (k + 1) (by omega) hn
        rw [ek] at u0 u1 hn0 hn1 hlt
        clear ek
        have g2 : (k : Int) + 1 < (xs.length : Int) := by omega
        have g3 : (0 : Int) ≤ (k : Int) + 1 := by omega
        have b0 : (tD xs k == d) = false := by simpa using heq
        have p0 : 0 ≤ tC xs ((k : Int) + 1) - tC xs k ∧ tC xs ((k : Int) + 1) - tC xs k ≤ 1000000000000 := by omega
        have p1 : 0 ≤ d - tD xs k ∧ d - tD xs k ≤ 100000 := by omega
        obtain ⟨p2, p3⟩ := prod_bound p0 p1
        have p4 : 0 < tD xs ((k : Int) + 1) - tD xs k := by omega
        obtain ⟨p5, p6⟩ := div_bound ⟨p2, p3⟩ p4
        have b1' : ((tD xs ((k : Int) + 1) - tD xs k) == 0) = false := beq_eq_false_iff_ne.2 (by omega)
        have HN := Lib.hid heq
        clear heq
        go_wp2
        go_region
        all_goals
          go_wp2
          go_quiet (fail)
          go_wp2
          go_ret
          exact ⟨by rw [HO.out]; unfold valD; rw [if_neg HN.out]; rfl, (by repeat' (first | (with_reducible first | assumption | exact Below.refl _ _ | refine Below.trans ?_ (below_more _ _ _ ?_) | refine Below.alloc ?_ ?_ _ | refine Below.setCell ?_ ?_ _ | refine Below.drew ?_ | refine below_dnB ?_ _ | exact Nat.le_refl _) | (simp; done) | (simp; omega) | omega))⟩
/-- what CountOn returns -/
noncomputable def cntOn (xs : List (Int × Int)) (d : Int) : Int × Int := if vtB xs = true then if 0 ≤ d ∧ d ≤ 100000 then if covB xs d = true then (onV xs d, 0) else (0, 6) else (0, 2) else (0, 1)
set_option maxHeartbeats 2000000 in
theorem specCountOn_any (A : Option Addr) (xs : List (Int × Int)) (n c b1 : Nat) (d : Int) (w : World) (hn : xs.length = n) (hm : n ≤ maxLen) (hb1 : b1 ≤ w.heap.size) (hs : SL w b1 2 e2 A xs) :
    Calls Try.prog 41 #[.slice A n c, .int .i64 d] w fun e w' => e = .returned (.tuple #[.int .i64 (cntOn xs d).1, .int .i64 (cntOn xs d).2]) ∧ Below w.heap.size w w' := by
  have HT := fun w (h1 : b1 ≤ w.heap.size) (hs : SL w b1 2 e2 A xs) => l06Totals_any A xs n c b1 w hn hm h1 hs
  cases hv : vtB xs
  · have HR : Hid (cntOn xs d = (0, 1)) := by unfold Hid cntOn; rw [hv]; rfl
    rw [hv] at HT
    clear hv
    go_enter Try.func41, Try.ntmps41
    go_wp2_with (go_at_call 70; refine (HT _ hb1 hs).mono ?_; rintro e w' ⟨rfl, hb_⟩; obtain ⟨os_, d_, rfl⟩ := more_of hb_; clear hb_)
    go_ret2
    exact ⟨by rw [HR.out]; rfl, (by repeat' (first | (with_reducible first | assumption | exact Below.refl _ _ | refine Below.trans ?_ (below_more _ _ _ ?_) | refine Below.alloc ?_ ?_ _ | refine Below.setCell ?_ ?_ _ | refine Below.drew ?_ | refine below_dnB ?_ _ | exact Nat.le_refl _) | (simp; done) | (simp; omega) | omega))⟩
  · have hvt := (vtB_iff xs).1 hv
    by_cases hd : 0 ≤ d ∧ d ≤ 100000
    · by_cases hc : Cov xs d
      · have HR : Hid (cntOn xs d = (onV xs d, 0)) := by unfold Hid cntOn; rw [hv, if_pos rfl, if_pos hd, covB_t hc, if_pos rfl]
        rw [hv] at HT
        have HV := Lib.hid hvt
        have HC := Lib.hid hc
        clear hv hvt hc
        go_enter Try.func41, Try.ntmps41
        go_wp2_with fail
        refine (HT _ hb1 hs).mono ?_
        rintro e w' ⟨rfl, hb_⟩
        obtain ⟨os, dn, rfl⟩ := more_of hb_
        clear hb_ HT
        go_wp2_with fail
        refine (l00In_t _ _ _ _ hd).mono ?_
        rintro e w' ⟨rfl, rfl⟩
        go_wp2_with fail
        refine (l06On_cov A xs n c b1 d _ hn (by simp; omega) (hs.keep (below_more _ _ _ (Nat.le_refl _)) hb1 (Nat.le_refl _)) HV.out HC.out hd).mono ?_
        rintro e w' ⟨rfl, hb_⟩
        obtain ⟨os2, dn2, rfl⟩ := more_of hb_
        clear hb_
        go_wp2
        go_ret2
        exact ⟨by rw [HR.out]; rfl, (by repeat' (first | (with_reducible first | assumption | exact Below.refl _ _ | refine Below.trans ?_ (below_more _ _ _ ?_) | refine Below.alloc ?_ ?_ _ | refine Below.setCell ?_ ?_ _ | refine Below.drew ?_ | refine below_dnB ?_ _ | exact Nat.le_refl _) | (simp; done) | (simp; omega) | omega))⟩
      · have HR : Hid (cntOn xs d = (0, 6)) := by unfold Hid cntOn; rw [hv, if_pos rfl, if_pos hd, covB_f hc]; rfl
        rw [hv] at HT
        have HV := Lib.hid hvt
        have HC := Lib.hid hc
        clear hv hvt hc
        go_enter Try.func41, Try.ntmps41
        go_wp2_with fail
        refine (HT _ hb1 hs).mono ?_
        rintro e w' ⟨rfl, hb_⟩
        obtain ⟨os, dn, rfl⟩ := more_of hb_
        clear hb_ HT
        go_wp2_with fail
        refine (l00In_t _ _ _ _ hd).mono ?_
        rintro e w' ⟨rfl, rfl⟩
        go_wp2_with fail
        refine (l06On_not A xs n c b1 d _ hn (by simp; omega) (hs.keep (below_more _ _ _ (Nat.le_refl _)) hb1 (Nat.le_refl _)) HV.out.1 HC.out).mono ?_
        rintro e w' ⟨rfl, hb_⟩
        obtain ⟨os2, dn2, rfl⟩ := more_of hb_
        clear hb_
        go_wp2
        go_ret2
        exact ⟨by rw [HR.out]; rfl, (by repeat' (first | (with_reducible first | assumption | exact Below.refl _ _ | refine Below.trans ?_ (below_more _ _ _ ?_) | refine Below.alloc ?_ ?_ _ | refine Below.setCell ?_ ?_ _ | refine Below.drew ?_ | refine below_dnB ?_ _ | exact Nat.le_refl _) | (simp; done) | (simp; omega) | omega))⟩
    · have HR : Hid (cntOn xs d = (0, 2)) := by unfold Hid cntOn; rw [hv, if_pos rfl, if_neg hd]
      rw [hv] at HT
      have HD := Lib.hid hd
      clear hv hvt hd
      go_enter Try.func41, Try.ntmps41
      go_wp2_with (first | (go_at_call 70; refine (HT _ hb1 hs).mono ?_; rintro e w' ⟨rfl, hb_⟩; obtain ⟨os_, d_, rfl⟩ := more_of hb_; clear hb_) | (go_at_call 55; refine (l00In_f _ _ _ _ HD.out).mono ?_; rintro e w' ⟨rfl, rfl⟩))
      go_ret2
      exact ⟨by rw [HR.out]; rfl, (by repeat' (first | (with_reducible first | assumption | exact Below.refl _ _ | refine Below.trans ?_ (below_more _ _ _ ?_) | refine Below.alloc ?_ ?_ _ | refine Below.setCell ?_ ?_ _ | refine Below.drew ?_ | refine below_dnB ?_ _ | exact Nat.le_refl _) | (simp; done) | (simp; omega) | omega))⟩
set_option maxHeartbeats 2000000 in
theorem implCountOn_any (A : Option Addr) (xs : List (Int × Int)) (n c b1 : Nat) (d : Int) (w : World) (hn : xs.length = n) (hm : n ≤ maxLen) (hb1 : b1 ≤ w.heap.size) (hs : SL w b1 2 e2 A xs) :
    Calls Try.prog 42 #[.slice A n c, .int .i64 d] w fun e w' => e = .returned (.tuple #[.int .i64 (cntOn xs d).1, .int .i64 (cntOn xs d).2]) ∧ Below w.heap.size w w' := by
  have HT := fun w (h1 : b1 ≤ w.heap.size) (hs : SL w b1 2 e2 A xs) => implValidTotals_any A xs n c b1 w hn hm h1 hs
  cases hv : vtB xs
  · have HR : Hid (cntOn xs d = (0, 1)) := by unfold Hid cntOn; rw [hv]; rfl
    rw [hv] at HT
    clear hv
    go_enter Try.func42, Try.ntmps42
    go_wp2_with (go_at_call 33; refine (HT _ hb1 hs).mono ?_; rintro e w' ⟨rfl, hb_⟩; obtain ⟨os_, d_, rfl⟩ := more_of hb_; clear hb_)
    go_ret2
    exact ⟨by rw [HR.out]; rfl, (by repeat' (first | (with_reducible first | assumption | exact Below.refl _ _ | refine Below.trans ?_ (below_more _ _ _ ?_) | refine Below.alloc ?_ ?_ _ | refine Below.setCell ?_ ?_ _ | refine Below.drew ?_ | refine below_dnB ?_ _ | exact Nat.le_refl _) | (simp; done) | (simp; omega) | omega))⟩
  · have hvt := (vtB_iff xs).1 hv
    by_cases hd : 0 ≤ d ∧ d ≤ 100000
    · have HCv := fun w (h1 : b1 ≤ w.heap.size) (hs : SL w b1 2 e2 A xs) => covers_any A xs n c b1 d w hn h1 hs hvt.1
      by_cases hc : Cov xs d
      · have HR : Hid (cntOn xs d = (onV xs d, 0)) := by unfold Hid cntOn; rw [hv, if_pos rfl, if_pos hd, covB_t hc, if_pos rfl]
        rw [hv] at HT
        rw [covB_t hc] at HCv
        have HV := Lib.hid hvt
        have HC := Lib.hid hc
        clear hv hvt hc
        go_enter Try.func42, Try.ntmps42
        go_wp2_with fail
        refine (HT _ hb1 hs).mono ?_
        rintro e w' ⟨rfl, hb_⟩
        obtain ⟨os, dn, rfl⟩ := more_of hb_
        clear hb_ HT
        go_wp2_with fail
        refine (within_t _ _ _ _ hd).mono ?_
        rintro e w' ⟨rfl, rfl⟩
        go_wp2_with fail
        refine (HCv _ (by simp; omega) (hs.keep (below_more _ _ _ (Nat.le_refl _)) hb1 (Nat.le_refl _))).mono ?_
        rintro e w' ⟨rfl, hb_⟩
        obtain ⟨os2, dn2, rfl⟩ := more_of hb_
        clear hb_ HCv
        go_wp2_with fail
        refine (countOn_any A xs n c b1 d _ hn (by simp; omega) (hs.keep (below_more _ _ _ (Nat.le_refl _)) hb1 (Nat.le_refl _)) HV.out HC.out hd).mono ?_
        rintro e w' ⟨rfl, hb_⟩
        obtain ⟨os3, dn3, rfl⟩ := more_of hb_
        clear hb_
        go_wp2
        go_ret2
        exact ⟨by rw [HR.out]; rfl, (by repeat' (first | (with_reducible first | assumption | exact Below.refl _ _ | refine Below.trans ?_ (below_more _ _ _ ?_) | refine Below.alloc ?_ ?_ _ | refine Below.setCell ?_ ?_ _ | refine Below.drew ?_ | refine below_dnB ?_ _ | exact Nat.le_refl _) | (simp; done) | (simp; omega) | omega))⟩
      · have HR : Hid (cntOn xs d = (0, 6)) := by unfold Hid cntOn; rw [hv, if_pos rfl, if_pos hd, covB_f hc]; rfl
        rw [hv] at HT
        rw [covB_f hc] at HCv
        clear hv hvt hc
        go_enter Try.func42, Try.ntmps42
        go_wp2_with fail
        refine (HT _ hb1 hs).mono ?_
        rintro e w' ⟨rfl, hb_⟩
        obtain ⟨os, dn, rfl⟩ := more_of hb_
        clear hb_ HT
        go_wp2_with fail
        refine (within_t _ _ _ _ hd).mono ?_
        rintro e w' ⟨rfl, rfl⟩
        go_wp2_with fail
        refine (HCv _ (by simp; omega) (hs.keep (below_more _ _ _ (Nat.le_refl _)) hb1 (Nat.le_refl _))).mono ?_
        rintro e w' ⟨rfl, hb_⟩
        obtain ⟨os2, dn2, rfl⟩ := more_of hb_
        clear hb_ HCv
        go_wp2
        go_ret2
        exact ⟨by rw [HR.out]; rfl, (by repeat' (first | (with_reducible first | assumption | exact Below.refl _ _ | refine Below.trans ?_ (below_more _ _ _ ?_) | refine Below.alloc ?_ ?_ _ | refine Below.setCell ?_ ?_ _ | refine Below.drew ?_ | refine below_dnB ?_ _ | exact Nat.le_refl _) | (simp; done) | (simp; omega) | omega))⟩
    · have HR : Hid (cntOn xs d = (0, 2)) := by unfold Hid cntOn; rw [hv, if_pos rfl, if_neg hd]
      rw [hv] at HT
      have HD := Lib.hid hd
      clear hv hvt hd
      go_enter Try.func42, Try.ntmps42
      go_wp2_with (first | (go_at_call 33; refine (HT _ hb1 hs).mono ?_; rintro e w' ⟨rfl, hb_⟩; obtain ⟨os_, d_, rfl⟩ := more_of hb_; clear hb_) | (go_at_call 58; refine (within_f _ _ _ _ HD.out).mono ?_; rintro e w' ⟨rfl, rfl⟩))
      go_ret2
      exact ⟨by rw [HR.out]; rfl, (by repeat' (first | (with_reducible first | assumption | exact Below.refl _ _ | refine Below.trans ?_ (below_more _ _ _ ?_) | refine Below.alloc ?_ ?_ _ | refine Below.setCell ?_ ?_ _ | refine Below.drew ?_ | refine below_dnB ?_ _ | exact Nat.le_refl _) | (simp; done) | (simp; omega) | omega))⟩
end Go.Proofs.Ytaahfebnbholmaa.X
