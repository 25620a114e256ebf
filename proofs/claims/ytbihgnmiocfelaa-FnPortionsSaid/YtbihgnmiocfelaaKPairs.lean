/- Pairs of numbers: which are right; the greatest common divisor, walked. Conditions: none. -/
import Derived.Test.YtbihgnmiocfelaaKGcd
import Derived.StillTailTactics
import Derived.Test.YtbihgnmiocfelaaKPortion2
import Derived.Test.YtbihgnmiocfelaaKStack
namespace Go.Proofs.Ytbihgnmiocfelaa.X
open Go.RowKit
set_option linter.unusedVariables false
set_option linter.unusedSimpArgs false
set_option maxRecDepth 100000
instance (xs : List (Int × Int)) (k : Nat) : Decidable (pOK xs k) := by unfold pOK; infer_instance
/-- a pair is right -/
def prB (a b : Int) : Bool := inR a 1 100000 && inR b 0 100000
/-- the first k pairs are right -/
def prTo (js : List (Int × Int)) : Nat → Bool
  | 0 => true
  | k + 1 => prTo js k && prB (p1 js k) (p2 js k)
theorem prTo_all {js : List (Int × Int)} : ∀ {n : Nat}, prTo js n = true → ∀ k : Nat, k < n → prB (p1 js k) (p2 js k) = true
  | 0, _, k, hk => absurd hk (by omega)
  | n + 1, h, k, hk => by
    unfold prTo at h
    rw [Bool.and_eq_true] at h
    by_cases e : k = n
    · subst e; exact h.2
    · exact prTo_all h.1 k (by omega)
theorem prTo_no {js : List (Int × Int)} {k n : Nat} (hk : k < n) (h : prB (p1 js k) (p2 js k) = false) : prTo js n = false := by
  rw [← Bool.not_eq_true]
  intro g
  have := prTo_all g k hk
  rw [h] at this
  cases this
theorem prTo_pOK {js : List (Int × Int)} {n : Nat} (h : prTo js n = true) : ∀ k : Nat, k < n → pOK js k := fun k hk => by
  have := prTo_all h k hk
  unfold prB at this
  rw [Bool.and_eq_true] at this
  exact ⟨inR_t.1 this.1, inR_t.1 this.2⟩
set_option maxHeartbeats 1000000 in
theorem badPair_any (k f : Int) (w : World) : Calls Try.prog 115 #[.agg #[.int .i64 k, .int .i64 f]] w fun e w' => e = .returned (.bool (!prB k f)) ∧ Below w.heap.size w w' := by
  cases h1 : inR k 1 100000
  · have HR : Hid (prB k f = false) := by unfold Hid prB; rw [h1]; rfl
    go_enter Try.func115, Try.ntmps115
    go_wp2_with (go_at_call 116; refine (within_ok _ _ _ _).mono ?_; rintro e w' ⟨rfl, rfl⟩)
    go_ret
    exact ⟨(by first | (rw [HR.out]; done) | (rw [HR.out]; rfl)), (by repeat' (first | (with_reducible first | assumption | exact Below.refl _ _ | refine Below.drew ?_ | refine Below.alloc ?_ ?_ _ | refine Below.setCell ?_ ?_ _ | refine below_setR ?_ ?_ _ | refine below_dn ?_ _ | refine Below.trans ?_ (below_mo _ _ _ ?_) | refine Below.trans ?_ (below_mq _ _ ?_) | exact Nat.le_refl _) | (simp; done) | (simp; omega) | omega))⟩
  · have HR : Hid (prB k f = inR f 0 100000) := by unfold Hid prB; rw [h1]; rfl
    go_enter Try.func115, Try.ntmps115
    go_wp2_with (go_at_call 116; refine (within_ok _ _ _ _).mono ?_; rintro e w' ⟨rfl, rfl⟩)
    go_ret
    exact ⟨by rw [HR.out]; rfl, (by repeat' (first | (with_reducible first | assumption | exact Below.refl _ _ | refine Below.drew ?_ | refine Below.alloc ?_ ?_ _ | refine Below.setCell ?_ ?_ _ | refine below_setR ?_ ?_ _ | refine below_dn ?_ _ | refine Below.trans ?_ (below_mo _ _ _ ?_) | refine Below.trans ?_ (below_mq _ _ ?_) | exact Nat.le_refl _) | (simp; done) | (simp; omega) | omega))⟩
def IdxAnsP (p : Bool) (w : World) (e : Ending) (w' : World) : Prop := ∃ r : Int, e = .returned (.int .i64 r) ∧ (decide (0 ≤ r)) = p ∧ Below w.heap.size w w'
set_option maxHeartbeats 1000000 in
theorem idxPair_any {L : Option Addr} {js : List (Int × Int)} {V : World} {C : Nat} (hl : Prs .i64 .i64 V C L js) (cl : Nat) (w : World) (hv : Below C V w) : Calls Try.prog 233 #[.slice L js.length cl, .func (.func 115) #[] #[]] w (IdxAnsP (!prTo js js.length) w) := by
  have hll := hl.len
  have hC := hl.bsz hv
  go_enter Try.func233, Try.ntmps233
  go_wp2
  go_loopw [8] (fun i wr => ∃ (k : Nat) (os : Array Obj) (d : Nat), k ≤ js.length ∧ i = .int .i64 k ∧ Hid (prTo js k = true) ∧ wr = mo w os d) (fun i _ => js.length - (intOf i).toNat)
  case atStart => exact ⟨0, #[], _, Nat.zero_le _, rfl, (rfl : prTo js 0 = true), (mo_nil _).symm⟩
  case round =>
    obtain ⟨k, os, d, hk, rfl, HA, rfl⟩ := hrel
    by_cases hlt : k < js.length
    · obtain ⟨b, off, rfl, hbs, hc0, hc1⟩ := hl.at hv hlt
      cases ho : prB (p1 js k) (p2 js k)
      · have HN := Lib.hid (prTo_no hlt ho)
        go_wp2_with (go_at_call 115; refine (badPair_any _ _ _).mono ?_; rintro e w' ⟨rfl, hb_⟩; obtain ⟨os_, d_, rfl⟩ := mo_of hb_; clear hb_)
        go_ret
        exact ⟨k, rfl, by rw [HN.out]; simp, (by repeat' (first | (with_reducible first | assumption | exact Below.refl _ _ | refine Below.drew ?_ | refine Below.alloc ?_ ?_ _ | refine Below.setCell ?_ ?_ _ | refine below_setR ?_ ?_ _ | refine below_dn ?_ _ | refine Below.trans ?_ (below_mo _ _ _ ?_) | refine Below.trans ?_ (below_mq _ _ ?_) | exact Nat.le_refl _) | (simp; done) | (simp; omega) | omega))⟩
      · have HN : Hid (prTo js (k + 1) = true) := by unfold Hid prTo; rw [HA.out, ho]; rfl
        go_wp2_with (go_at_call 115; refine (badPair_any _ _ _).mono ?_; rintro e w' ⟨rfl, hb_⟩; obtain ⟨os_, d_, rfl⟩ := mo_of hb_; clear hb_)
        exact ⟨⟨k + 1, _, _, by omega, by go_num, HN, mo_mo _ _ _ _ _⟩, by simp [intOf]; omega⟩
    · obtain rfl : k = js.length := by omega
      go_wp2
      go_ret
      exact ⟨-1, rfl, by rw [HA.out]; rfl, (by repeat' (first | (with_reducible first | assumption | exact Below.refl _ _ | refine Below.drew ?_ | refine Below.alloc ?_ ?_ _ | refine Below.setCell ?_ ?_ _ | refine below_setR ?_ ?_ _ | refine below_dn ?_ _ | refine Below.trans ?_ (below_mo _ _ _ ?_) | refine Below.trans ?_ (below_mq _ _ ?_) | exact Nat.le_refl _) | (simp; done) | (simp; omega) | omega))⟩
theorem hasPair_any {L : Option Addr} {js : List (Int × Int)} {V : World} {C : Nat} (hl : Prs .i64 .i64 V C L js) (cl : Nat) (w : World) (hv : Below C V w) : Calls Try.prog 114 #[.slice L js.length cl, .func (.func 115) #[] #[]] w fun e w' => e = .returned (.bool (!prTo js js.length)) ∧ Below w.heap.size w w' := by
  go_enter Try.func114, Try.ntmps114
  go_wp2_with (go_at_call 233; refine (idxPair_any hl _ _ hv).mono ?_; rintro e w' ⟨r, rfl, hr, hb_⟩; obtain ⟨os_, d_, rfl⟩ := mo_of hb_; clear hb_)
  go_ret
  exact ⟨by rw [← hr]; rfl, (by repeat' (first | (with_reducible first | assumption | exact Below.refl _ _ | refine Below.drew ?_ | refine Below.alloc ?_ ?_ _ | refine Below.setCell ?_ ?_ _ | refine below_setR ?_ ?_ _ | refine below_dn ?_ _ | refine Below.trans ?_ (below_mo _ _ _ ?_) | refine Below.trans ?_ (below_mq _ _ ?_) | exact Nat.le_refl _) | (simp; done) | (simp; omega) | omega))⟩
theorem still_tail {P : Program} {id : Nat} {Q : Exit → Act → World → Prop} {a : Act} {w : World} {l : List Oper} (n : Nat) (hm : P.follows .mixedOrders = true) (hB : Region.lexTailB .any l.toArray n = true)
    (h : wpStill P l.toArray w.drew (fun a' => wpList P l.toArray Q (l.drop n) a' w.drew) (l.take n) a) : (Code.region id l.toArray true).wp P Q a w := wp_region_still_tail n hm hB h
theorem gcd_step (a b : Int) (hb : 0 < b) (ha : 0 ≤ a) : Int.gcd b (a % b) = Int.gcd a b := by
  obtain ⟨m, rfl⟩ := Int.eq_ofNat_of_zero_le ha
  obtain ⟨n, rfl⟩ := Int.eq_ofNat_of_zero_le (Int.le_of_lt hb)
  show Nat.gcd n (m % n) = Nat.gcd m n
  rw [Nat.gcd_comm m n, Nat.gcd_comm n (m % n)]
  exact (Nat.gcd_rec n m).symm
theorem gcd_end (a : Int) (ha : 0 ≤ a) : (Int.gcd a 0 : Int) = a := by rw [Int.gcd_zero_right]; omega
set_option maxHeartbeats 1000000 in
theorem gcd_any (a b : Int) (ha : 0 ≤ a ∧ a ≤ 1000000000) (hb : 0 ≤ b ∧ b ≤ 1000000000) (w : World) : Calls Try.prog 208 #[.int .i64 a, .int .i64 b] w fun e w' => e = .returned (.int .i64 (gI a b)) ∧ Below w.heap.size w w' := by
  go_enter Try.func208, Try.ntmps208
  go_wp2
  go_loopw [0, 1] (fun u v wr => ∃ x y : Int, (0 ≤ x ∧ x ≤ 1000000000) ∧ (0 ≤ y ∧ y ≤ 1000000000) ∧ u = .int .i64 x ∧ v = .int .i64 y ∧ Hid (gI x y = gI a b) ∧ ∃ os d, wr = mo w os d) (fun _ v _ => (intOf v).toNat)
  case atStart => exact ⟨a, b, ha, hb, rfl, rfl, rfl, #[], _, (mo_nil _).symm⟩
  case round =>
    obtain ⟨x, y, ⟨x0, x1⟩, ⟨y0, y1⟩, rfl, rfl, HG, os, d, rfl⟩ := hrel
    by_cases hz : y = 0
    · subst hz
      have HR : Hid (gI a b = x) := by unfold Hid; rw [← HG.out]; exact gcd_end x x0
      go_wp2
      go_ret
      exact ⟨by rw [HR.out]; rfl, (by repeat' (first | (with_reducible first | assumption | exact Below.refl _ _ | refine Below.drew ?_ | refine Below.alloc ?_ ?_ _ | refine Below.setCell ?_ ?_ _ | refine below_setR ?_ ?_ _ | refine below_dn ?_ _ | refine Below.trans ?_ (below_mo _ _ _ ?_) | refine Below.trans ?_ (below_mq _ _ ?_) | exact Nat.le_refl _) | (simp; done) | (simp; omega) | omega))⟩
    · have b1 : (y == 0) = false := beq_eq_false_iff_ne.2 hz
      have b2 : (y != 0) = true := by simp [bne, b1]
      have y2 : 0 < y := by omega
      have m0 := Int.emod_nonneg x hz
      have m1 := Int.emod_lt_of_pos x y2
      have em : x.tmod y = x % y := Int.tmod_eq_emod_of_nonneg x0
      have HS : Hid (gI y (x % y) = gI a b) := by unfold Hid; rw [← HG.out]; unfold gI; rw [gcd_step x y y2 x0]
      go_wp2
      refine wp_region_mq (by kernel_rfl) (by kernel_rfl) ?_
      repeat (first | go_big_quiet_step ((fail)) | quiet_step ((fail)))
      refine wpQuiet_nil ?_
      intro _ hq_
      obtain ⟨q_, rfl⟩ := hq_
      go_wp2
      exact ⟨⟨y, x % y, ⟨y0, y1⟩, ⟨m0, by omega⟩, rfl, rfl, HS, mo_of (by repeat' (first | (with_reducible first | assumption | exact Below.refl _ _ | refine Below.drew ?_ | refine Below.alloc ?_ ?_ _ | refine Below.setCell ?_ ?_ _ | refine below_setR ?_ ?_ _ | refine below_dn ?_ _ | refine Below.trans ?_ (below_mo _ _ _ ?_) | refine Below.trans ?_ (below_mq _ _ ?_) | exact Nat.le_refl _) | (simp; done) | (simp; omega) | omega))⟩, by simp [intOf]; omega⟩
set_option maxHeartbeats 1000000 in
theorem l06Gcd_n : ∀ (n : Nat) (a b : Int), b.toNat ≤ n → (0 ≤ a ∧ a ≤ 1000000000) → (0 ≤ b ∧ b ≤ 1000000000) → ∀ w : World, Calls Try.prog 234 #[.int .i64 a, .int .i64 b] w fun e w' => e = .returned (.int .i64 (gI a b)) ∧ w = w' := by
  intro n
  induction n with
  | zero =>
    intro a b hn ha hb w
    obtain rfl : b = 0 := by omega
    have HR : Hid (gI a 0 = a) := gcd_end a ha.1
    go_enter Try.func234, Try.ntmps234
    go_wp2
    go_ret
    exact ⟨by rw [HR.out]; rfl, rfl⟩
  | succ n ih =>
    intro a b hn ha hb w
    by_cases hz : b = 0
    · subst hz
      have HR : Hid (gI a 0 = a) := gcd_end a ha.1
      clear ih
      go_enter Try.func234, Try.ntmps234
      go_wp2
      go_ret
      exact ⟨by rw [HR.out]; rfl, rfl⟩
    · have b1 : (b == 0) = false := beq_eq_false_iff_ne.2 hz
      have y2 : 0 < b := by omega
      have m0 := Int.emod_nonneg a hz
      have m1 := Int.emod_lt_of_pos a y2
      have em : a.tmod b = a % b := Int.tmod_eq_emod_of_nonneg ha.1
      have HS : Hid (gI b (a % b) = gI a b) := by unfold Hid gI; rw [gcd_step a b y2 ha.1]
      have HI := Lib.hid (fun W => ih b (a % b) (by omega) hb ⟨m0, by omega⟩ W)
      clear ih
      go_enter Try.func234, Try.ntmps234
      go_wp2_with fail
      refine (HI.out _).mono ?_
      rintro e w' ⟨rfl, rfl⟩
      go_wp2
      go_ret
      exact ⟨by rw [HS.out]; rfl, rfl⟩
theorem l06Gcd_any (a b : Int) (ha : 0 ≤ a ∧ a ≤ 1000000000) (hb : 0 ≤ b ∧ b ≤ 1000000000) (w : World) : Calls Try.prog 234 #[.int .i64 a, .int .i64 b] w fun e w' => e = .returned (.int .i64 (gI a b)) ∧ w = w' := l06Gcd_n b.toNat a b (Nat.le_refl _) ha hb w
set_option maxHeartbeats 1000000 in
theorem l06Plain_any (p q : Int) (hp : 0 ≤ p ∧ p ≤ 1000000000) (hq : 1 ≤ q ∧ q ≤ 1000000000) (w : World) : Calls Try.prog 120 #[.int .i64 p, .int .i64 q] w fun e w' => e = .returned (.agg #[.int .i64 (red p q).1, .int .i64 (red p q).2]) ∧ Below w.heap.size w w' := by
  have g1 := gI_pos (p := p) hq.1
  have g2 : ¬ gI p q = 0 := by omega
  have g3 : (gI p q == 0) = false := beq_eq_false_iff_ne.2 g2
  have e1 : p.tdiv (gI p q) = (red p q).1 := Int.tdiv_eq_ediv_of_nonneg hp.1
  have e2 : q.tdiv (gI p q) = (red p q).2 := Int.tdiv_eq_ediv_of_nonneg (by omega)
  obtain ⟨⟨r0, r1⟩, r2, r3⟩ := red_bd hp.1 hq.1
  have w1 : IntKind.i64.wrap (red p q).1 = (red p q).1 := IntWalk.i64_in _ ⟨by omega, by omega⟩
  have w2 : IntKind.i64.wrap (red p q).2 = (red p q).2 := IntWalk.i64_in _ ⟨by omega, by omega⟩
  have hq' : 0 ≤ q ∧ q ≤ 1000000000 := by omega
  go_enter Try.func120, Try.ntmps120
  go_wp2_with (go_at_call 234; refine (l06Gcd_any _ _ hp hq' _).mono ?_; rintro e w' ⟨rfl, rfl⟩)
  (refine still_tail 7 (by kernel_rfl) (by kernel_rfl) ?_; (simp only [List.take_succ_cons, List.take_zero, List.drop_succ_cons, List.drop_zero]); (repeat still_step); refine wpStill_nil ?_)
  go_wp2
  exact bodyPost_ret (v := .agg #[.int .i64 (red p q).1, .int .i64 (red p q).2]) (by simp [results, Try.results120, go_sem]) rfl ⟨rfl, (by repeat' (first | (with_reducible first | assumption | exact Below.refl _ _ | refine Below.drew ?_ | refine Below.alloc ?_ ?_ _ | refine Below.setCell ?_ ?_ _ | refine below_setR ?_ ?_ _ | refine below_dn ?_ _ | refine Below.trans ?_ (below_mo _ _ _ ?_) | refine Below.trans ?_ (below_mq _ _ ?_) | exact Nat.le_refl _) | (simp; done) | (simp; omega) | omega))⟩
set_option maxHeartbeats 1000000 in
theorem lowest_any (p q : Int) (hp : 0 ≤ p ∧ p ≤ 1000000000) (hq : 1 ≤ q ∧ q ≤ 1000000000) (w : World) : Calls Try.prog 118 #[.agg #[.int .i64 p, .int .i64 q]] w fun e w' => e = .returned (.agg #[.int .i64 (red p q).1, .int .i64 (red p q).2]) ∧ Below w.heap.size w w' := by
  have g1 := gI_pos (p := p) hq.1
  have g2 : ¬ gI p q = 0 := by omega
  have g3 : (gI p q == 0) = false := beq_eq_false_iff_ne.2 g2
  have e1 : p.tdiv (gI p q) = (red p q).1 := Int.tdiv_eq_ediv_of_nonneg hp.1
  have e2 : q.tdiv (gI p q) = (red p q).2 := Int.tdiv_eq_ediv_of_nonneg (by omega)
  obtain ⟨⟨r0, r1⟩, r2, r3⟩ := red_bd hp.1 hq.1
  have w1 : IntKind.i64.wrap (red p q).1 = (red p q).1 := IntWalk.i64_in _ ⟨by omega, by omega⟩
  have w2 : IntKind.i64.wrap (red p q).2 = (red p q).2 := IntWalk.i64_in _ ⟨by omega, by omega⟩
  have hq' : 0 ≤ q ∧ q ≤ 1000000000 := by omega
  go_enter Try.func118, Try.ntmps118
  go_wp2_with (go_at_call 208; refine (gcd_any _ _ hp hq' _).mono ?_; rintro e w' ⟨rfl, hb_⟩; obtain ⟨os_, d_, rfl⟩ := mo_of hb_; clear hb_)
  (refine still_tail 9 (by kernel_rfl) (by kernel_rfl) ?_; (simp only [List.take_succ_cons, List.take_zero, List.drop_succ_cons, List.drop_zero]); (repeat still_step); refine wpStill_nil ?_)
  go_wp2
  exact bodyPost_ret (v := .agg #[.int .i64 (red p q).1, .int .i64 (red p q).2]) (by simp [results, Try.results118, go_sem]) rfl ⟨rfl, (by repeat' (first | (with_reducible first | assumption | exact Below.refl _ _ | refine Below.drew ?_ | refine Below.alloc ?_ ?_ _ | refine Below.setCell ?_ ?_ _ | refine below_setR ?_ ?_ _ | refine below_dn ?_ _ | refine Below.trans ?_ (below_mo _ _ _ ?_) | refine Below.trans ?_ (below_mq _ _ ?_) | exact Nat.le_refl _) | (simp; done) | (simp; omega) | omega))⟩
end Go.Proofs.Ytbihgnmiocfelaa.X
