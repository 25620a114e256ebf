/- Lists of numbers: which rise, which hold a number. Conditions: none. -/
import Derived.Test.YtcaaljcfdahpaaaKSus
namespace Go.Proofs.Ytcaaljcfdahpaaa.X
open Go.RowKit
set_option linter.unusedVariables false
set_option linter.unusedSimpArgs false
set_option maxRecDepth 100000
/-- number i lies in 0 .. m - 1 and above the one before -/
def rsAt (ks : List Int) (m : Int) (i : Nat) : Bool := inR (el ks i) 0 (m - 1) && (decide (i = 0) || decide (el ks ((i : Int) - 1) < el ks i))
def rsTo (ks : List Int) (m : Int) : Nat → Bool
  | 0 => true
  | k + 1 => rsTo ks m k && rsAt ks m k
theorem rsTo_all {ks : List Int} {m : Int} : ∀ {n : Nat}, rsTo ks m n = true → ∀ k : Nat, k < n → rsAt ks m k = true
  | 0, _, k, hk => absurd hk (by omega)
  | n + 1, h, k, hk => by
    unfold rsTo at h
    rw [Bool.and_eq_true] at h
    by_cases e : k = n
    · subst e; exact h.2
    · exact rsTo_all h.1 k (by omega)
theorem rsTo_no {ks : List Int} {m : Int} {k n : Nat} (hk : k < n) (h : rsAt ks m k = false) : rsTo ks m n = false := by
  rw [← Bool.not_eq_true]
  intro g
  have := rsTo_all g k hk
  rw [h] at this
  cases this
theorem rsTo_up {ks : List Int} {m : Int} {k : Nat} (h : rsTo ks m k = true) (g : rsAt ks m k = true) : rsTo ks m (k + 1) = true := by unfold rsTo; rw [h, g]; rfl
theorem rsAt_r {ks : List Int} {m : Int} {k : Nat} (h : inR (el ks k) 0 (m - 1) = false) : rsAt ks m k = false := by unfold rsAt; rw [h]; rfl
theorem rsAt_0 {ks : List Int} {m : Int} (h : inR (el ks (0 : Nat)) 0 (m - 1) = true) : rsAt ks m 0 = true := by unfold rsAt; rw [h]; rfl
theorem rsAt_s {ks : List Int} {m : Int} {j k : Nat} (e : j + 1 = k) (h : inR (el ks k) 0 (m - 1) = true) : rsAt ks m k = decide (el ks j < el ks k) := by
  subst e
  unfold rsAt
  rw [h, show ((j + 1 : Nat) : Int) - 1 = (j : Int) by omega]
  simp
/-- the first k numbers hold v -/
def hasL (ks : List Int) (v : Int) : Nat → Bool
  | 0 => false
  | k + 1 => hasL ks v k || decide (el ks k = v)
theorem hasL_more {ks : List Int} {v : Int} {k n : Nat} (h : hasL ks v k = true) (hk : k ≤ n) : hasL ks v n = true := by
  induction n with
  | zero => rwa [show k = 0 by omega] at h
  | succ n ih =>
    by_cases e : k = n + 1
    · rwa [e] at h
    · unfold hasL
      rw [ih (by omega)]; rfl
theorem hasL_hit {ks : List Int} {v : Int} {k n : Nat} (hk : k < n) (h : el ks k = v) : hasL ks v n = true :=
  hasL_more (k := k + 1) (by unfold hasL; rw [decide_eq_true h, Bool.or_true]) hk
theorem hasL_miss {ks : List Int} {v : Int} {k : Nat} (h : hasL ks v k = false) (g : ¬ el ks k = v) : hasL ks v (k + 1) = false := by unfold hasL; rw [h, decide_eq_false g]; rfl
set_option maxHeartbeats 2000000 in
theorem rising_any {A : Option Addr} {ks : List Int} {W : World} {B : Nat} (hs : Nums .i64 W B A ks) (c : Nat) (w : World) (hb : Below B W w) (m : Int) (hm : 0 ≤ m ∧ m ≤ 1000000) : Calls Try.prog 144 #[.slice A ks.length c, .int .i64 m] w fun e w' => e = .returned (.bool (rsTo ks m ks.length)) ∧ w = w' := by
  have hl := hs.len
  have em : IntKind.i64.wrap (m - 1) = m - 1 := IntWalk.i64_in _ ⟨by omega, by omega⟩
  go_enter Try.func144, Try.ntmps144
  go_wp2
  go_loopw [9] (fun i wr => ∃ k : Nat, k ≤ ks.length ∧ i = .int .i64 (k : Int) ∧ Hid (rsTo ks m k = true) ∧ wr = w) (fun i _ => ks.length - (intOf i).toNat)
  case atStart => exact ⟨0, Nat.zero_le _, rfl, (rfl : rsTo ks m 0 = true), rfl⟩
  case round =>
    obtain ⟨k, hk, rfl, HA, rfl⟩ := hrel
    by_cases hlt : k < ks.length
    · obtain ⟨b, off, rfl, hbs, hc⟩ := hs.at hb hlt
      have g0 : (0 : Int) ≤ (k : Int) := by omega
      have g1 : (k : Int) < (ks.length : Int) := by omega
      cases h1 : inR (el ks k) 0 (m - 1)
      · have HN := Lib.hid (rsTo_no hlt (rsAt_r h1))
        have H1 := Lib.hid h1
        clear h1
        go_wp2_with (go_at_call 89; refine (within_ok _ _ _ _).mono ?_; rintro e w' ⟨rfl, rfl⟩; rw [H1.out])
        go_ret
        exact ⟨by rw [HN.out]; first | done | rfl, rfl⟩
      · by_cases hz : k = 0
        · subst hz
          have HN := Lib.hid (rsTo_up HA.out (rsAt_0 h1))
          have hc0 : wr.cell? ⟨b, off, none⟩ = some (.int .i64 (el ks 0)) := hc
          have H1 : Hid (inR (el ks 0) 0 (m - 1) = true) := h1
          have g2 : (0 : Int) < (ks.length : Int) := g1
          have g3 : 0 < ks.length := hlt
          clear h1 hc g0 g1
          rw [show ((0 : Nat) : Int) = 0 from rfl]
          go_wp2_with (go_at_call 89; refine (within_ok _ _ _ _).mono ?_; rintro e w' ⟨rfl, rfl⟩; rw [H1.out])
          exact ⟨⟨1, hlt, by go_num, HN, by first | rfl | trivial⟩, by simp [intOf]; omega⟩
        · obtain ⟨j, hjk⟩ : ∃ j, j + 1 = k := ⟨k - 1, by omega⟩
          obtain ⟨b', off', he, _, hd⟩ := hs.at hb (k := j) (by omega)
          obtain ⟨rfl, rfl⟩ := addr_same he
          clear he
          have hS := rsAt_s hjk h1
          have e1 : IntKind.i64.wrap ((k : Int) - 1) = (j : Int) := (IntWalk.i64_in _ ⟨by omega, by omega⟩).trans (by omega)
          have g2 : (0 : Int) ≤ (j : Int) := by omega
          have g3 : (j : Int) < (ks.length : Int) := by omega
          have g4 : (0 : Int) < (k : Int) := by omega
          have HJ := Lib.hid hjk
          have H1 := Lib.hid h1
          by_cases hd2 : el ks j < el ks k
          · have HN := Lib.hid (rsTo_up HA.out (hS.trans (decide_eq_true hd2)))
            have n1 : ¬ el ks k ≤ el ks j := by omega
            clear h1 hS hjk
            go_wp2_with (go_at_call 89; refine (within_ok _ _ _ _).mono ?_; rintro e w' ⟨rfl, rfl⟩; rw [H1.out])
            exact ⟨⟨k + 1, hlt, by go_num, HN, by first | rfl | trivial⟩, by simp [intOf]; omega⟩
          · have HN := Lib.hid (rsTo_no hlt (hS.trans (decide_eq_false hd2)))
            have n1 : el ks k ≤ el ks j := by omega
            clear h1 hS hjk
            go_wp2_with (go_at_call 89; refine (within_ok _ _ _ _).mono ?_; rintro e w' ⟨rfl, rfl⟩; rw [H1.out])
            go_ret
            exact ⟨by rw [HN.out]; first | done | rfl, rfl⟩
    · obtain rfl : k = ks.length := by omega
      go_wp2
      go_ret
      exact ⟨by rw [HA.out]; first | done | rfl, rfl⟩
set_option maxHeartbeats 2000000 in
theorem l04Rising_any {A : Option Addr} {ks : List Int} {W : World} {B : Nat} (hs : Nums .i64 W B A ks) (c : Nat) (w : World) (hb : Below B W w) (m : Int) (hm : 0 ≤ m ∧ m ≤ 1000000) : Calls Try.prog 143 #[.slice A ks.length c, .int .i64 m] w fun e w' => e = .returned (.bool (rsTo ks m ks.length)) ∧ Below w.heap.size w w' := by
  have hl := hs.len
  have em : IntKind.i64.wrap (m - 1) = m - 1 := IntWalk.i64_in _ ⟨by omega, by omega⟩
  go_enter Try.func143, Try.ntmps143
  go_wp2
  go_loopw [5] (fun i wr => ∃ k : Nat, k ≤ ks.length ∧ i = .int .i64 (k : Int) ∧ Hid (rsTo ks m k = true) ∧ ∃ os d, wr = mo w os d) (fun i _ => ks.length - (intOf i).toNat)
  case atStart => exact ⟨0, Nat.zero_le _, rfl, (rfl : rsTo ks m 0 = true), #[], _, (mo_nil _).symm⟩
  case round =>
    obtain ⟨k, hk, rfl, HA, os, d, rfl⟩ := hrel
    by_cases hlt : k < ks.length
    · obtain ⟨b, off, rfl, hbs, hc⟩ := hs.at hb hlt
      have g0 : (0 : Int) ≤ (k : Int) := by omega
      have g1 : (k : Int) < (ks.length : Int) := by omega
      cases h1 : inR (el ks k) 0 (m - 1)
      · have HN := Lib.hid (rsTo_no hlt (rsAt_r h1))
        have H1 := Lib.hid h1
        clear h1
        have h1x := H1.out
        go_wp2
        (refine wp_region_mq (by kernel_rfl) (by kernel_rfl) ?_; (repeat (first | go_big_quiet_step ((first | (go_at_call 84; with_reducible exact quietSb (l00In_ok _ _ _ _) h1x))) | quiet_step ((first | (go_at_call 84; with_reducible exact quietSb (l00In_ok _ _ _ _) h1x))))); refine wpQuiet_nil ?_; intro _ hq_; obtain ⟨q_, rfl⟩ := hq_)
        go_wp2
        go_ret
        exact ⟨by rw [HN.out]; first | done | rfl, (by repeat' (first | (with_reducible first | assumption | exact Below.refl _ _ | refine Below.drew ?_ | refine Below.alloc ?_ ?_ _ | refine Below.setCell ?_ ?_ _ | refine below_setR ?_ ?_ _ | refine below_dn ?_ _ | refine Below.trans ?_ (below_mo _ _ _ ?_) | refine Below.trans ?_ (below_mq _ _ ?_) | exact Nat.le_refl _) | (simp; done) | (simp; omega) | omega))⟩
      · by_cases hz : k = 0
        · subst hz
          have HN := Lib.hid (rsTo_up HA.out (rsAt_0 h1))
          have hc0 : w.cell? ⟨b, off, none⟩ = some (.int .i64 (el ks 0)) := hc
          have H1 : Hid (inR (el ks 0) 0 (m - 1) = true) := h1
          have g2 : (0 : Int) < (ks.length : Int) := g1
          have g3 : 0 < ks.length := hlt
          clear h1 hc g0 g1
          rw [show ((0 : Nat) : Int) = 0 from rfl]
          have h1x := H1.out
          go_wp2
          (refine wp_region_mq (by kernel_rfl) (by kernel_rfl) ?_; (repeat (first | go_big_quiet_step ((first | (go_at_call 84; with_reducible exact quietSb (l00In_ok _ _ _ _) h1x))) | quiet_step ((first | (go_at_call 84; with_reducible exact quietSb (l00In_ok _ _ _ _) h1x))))); refine wpQuiet_nil ?_; intro _ hq_; obtain ⟨q_, rfl⟩ := hq_)
          go_wp2
          exact ⟨⟨1, hlt, by go_num, HN, mo_of (by repeat' (first | (with_reducible first | assumption | exact Below.refl _ _ | refine Below.drew ?_ | refine Below.alloc ?_ ?_ _ | refine Below.setCell ?_ ?_ _ | refine below_setR ?_ ?_ _ | refine below_dn ?_ _ | refine Below.trans ?_ (below_mo _ _ _ ?_) | refine Below.trans ?_ (below_mq _ _ ?_) | exact Nat.le_refl _) | (simp; done) | (simp; omega) | omega))⟩, by simp [intOf]; omega⟩
        · obtain ⟨j, hjk⟩ : ∃ j, j + 1 = k := ⟨k - 1, by omega⟩
          obtain ⟨b', off', he, _, hd⟩ := hs.at hb (k := j) (by omega)
          obtain ⟨rfl, rfl⟩ := addr_same he
          clear he
          have hS := rsAt_s hjk h1
          have e1 : IntKind.i64.wrap ((k : Int) - 1) = (j : Int) := (IntWalk.i64_in _ ⟨by omega, by omega⟩).trans (by omega)
          have g2 : (0 : Int) ≤ (j : Int) := by omega
          have g3 : (j : Int) < (ks.length : Int) := by omega
          have g4 : (0 : Int) < (k : Int) := by omega
          have g4n : 0 < k := by omega
          have g5 : decide ((0 : Int) < (k : Int)) = true := decide_eq_true g4
          have g5n : decide (0 < k) = true := decide_eq_true g4n
          have HJ := Lib.hid hjk
          have H1 := Lib.hid h1
          by_cases hd2 : el ks j < el ks k
          · have HN := Lib.hid (rsTo_up HA.out (hS.trans (decide_eq_true hd2)))
            have n1 : ¬ el ks k ≤ el ks j := by omega
            clear h1 hS hjk
            have h1x := H1.out
            go_wp2
            (refine wp_region_mq (by kernel_rfl) (by kernel_rfl) ?_; (repeat (first | go_big_quiet_step ((first | (go_at_call 84; with_reducible exact quietSb (l00In_ok _ _ _ _) h1x))) | quiet_step ((first | (go_at_call 84; with_reducible exact quietSb (l00In_ok _ _ _ _) h1x))))); refine wpQuiet_nil ?_; intro _ hq_; obtain ⟨q_, rfl⟩ := hq_)
            go_wp2
            exact ⟨⟨k + 1, hlt, by go_num, HN, mo_of (by repeat' (first | (with_reducible first | assumption | exact Below.refl _ _ | refine Below.drew ?_ | refine Below.alloc ?_ ?_ _ | refine Below.setCell ?_ ?_ _ | refine below_setR ?_ ?_ _ | refine below_dn ?_ _ | refine Below.trans ?_ (below_mo _ _ _ ?_) | refine Below.trans ?_ (below_mq _ _ ?_) | exact Nat.le_refl _) | (simp; done) | (simp; omega) | omega))⟩, by simp [intOf]; omega⟩
          · have HN := Lib.hid (rsTo_no hlt (hS.trans (decide_eq_false hd2)))
            have n1 : el ks k ≤ el ks j := by omega
            clear h1 hS hjk
            have h1x := H1.out
            go_wp2
            (refine wp_region_mq (by kernel_rfl) (by kernel_rfl) ?_; (repeat (first | go_big_quiet_step ((first | (go_at_call 84; with_reducible exact quietSb (l00In_ok _ _ _ _) h1x))) | quiet_step ((first | (go_at_call 84; with_reducible exact quietSb (l00In_ok _ _ _ _) h1x))))); refine wpQuiet_nil ?_; intro _ hq_; obtain ⟨q_, rfl⟩ := hq_)
            go_wp2
            go_ret
            exact ⟨by rw [HN.out]; first | done | rfl, (by repeat' (first | (with_reducible first | assumption | exact Below.refl _ _ | refine Below.drew ?_ | refine Below.alloc ?_ ?_ _ | refine Below.setCell ?_ ?_ _ | refine below_setR ?_ ?_ _ | refine below_dn ?_ _ | refine Below.trans ?_ (below_mo _ _ _ ?_) | refine Below.trans ?_ (below_mq _ _ ?_) | exact Nat.le_refl _) | (simp; done) | (simp; omega) | omega))⟩
    · obtain rfl : k = ks.length := by omega
      go_wp2
      go_ret
      exact ⟨by rw [HA.out]; first | done | rfl, (by repeat' (first | (with_reducible first | assumption | exact Below.refl _ _ | refine Below.drew ?_ | refine Below.alloc ?_ ?_ _ | refine Below.setCell ?_ ?_ _ | refine below_setR ?_ ?_ _ | refine below_dn ?_ _ | refine Below.trans ?_ (below_mo _ _ _ ?_) | refine Below.trans ?_ (below_mq _ _ ?_) | exact Nat.le_refl _) | (simp; done) | (simp; omega) | omega))⟩
set_option maxHeartbeats 1000000 in
theorem l04Has_any {A : Option Addr} {ks : List Int} {W : World} {B : Nat} (hs : Nums .i64 W B A ks) (c : Nat) (w : World) (hb : Below B W w) (v : Int) : Calls Try.prog 117 #[.slice A ks.length c, .int .i64 v] w fun e w' => e = .returned (.bool (hasL ks v ks.length)) ∧ w = w' := by
  have hl := hs.len
  go_enter Try.func117, Try.ntmps117
  go_wp2
  go_loopw [5] (fun i wr => ∃ k : Nat, k ≤ ks.length ∧ i = .int .i64 (k : Int) ∧ Hid (hasL ks v k = false) ∧ wr = w) (fun i _ => ks.length - (intOf i).toNat)
  case atStart => exact ⟨0, Nat.zero_le _, rfl, (rfl : hasL ks v 0 = false), rfl⟩
  case round =>
    obtain ⟨k, hk, rfl, HA, rfl⟩ := hrel
    by_cases hlt : k < ks.length
    · obtain ⟨b, off, rfl, hbs, hc⟩ := hs.at hb hlt
      have g0 : (0 : Int) ≤ (k : Int) := by omega
      have g1 : (k : Int) < (ks.length : Int) := by omega
      by_cases hz : el ks k = v
      · have HN := Lib.hid (hasL_hit hlt hz)
        have b1 : (el ks k == v) = true := beq_iff_eq.2 hz
        clear hz
        go_wp2
        go_ret
        exact ⟨by rw [HN.out]; first | done | rfl, rfl⟩
      · have HN := Lib.hid (hasL_miss HA.out hz)
        have b1 : (el ks k == v) = false := beq_eq_false_iff_ne.2 hz
        go_wp2
        exact ⟨⟨k + 1, hlt, by go_num, HN, by first | rfl | trivial⟩, by simp [intOf]; omega⟩
    · obtain rfl : k = ks.length := by omega
      go_wp2
      go_ret
      exact ⟨by rw [HA.out]; first | done | rfl, rfl⟩
set_option maxHeartbeats 1000000 in
theorem index_any {A : Option Addr} {ks : List Int} {W : World} {B : Nat} (hs : Nums .i64 W B A ks) (c : Nat) (w : World) (hb : Below B W w) (v : Int) : Calls Try.prog 145 #[.slice A ks.length c, .int .i64 v] w fun e w' => (∃ r : Int, e = .returned (.int .i64 r) ∧ decide (0 ≤ r) = hasL ks v ks.length ∧ decide (r < 1) = !(hasL ks v ks.length && !decide (el ks 0 = v))) ∧ w = w' := by
  have hl := hs.len
  go_enter Try.func145, Try.ntmps145
  go_wp2
  go_loopw [8] (fun i wr => ∃ k : Nat, k ≤ ks.length ∧ i = .int .i64 (k : Int) ∧ Hid (hasL ks v k = false) ∧ Hid (0 < k → ¬ el ks 0 = v) ∧ wr = w) (fun i _ => ks.length - (intOf i).toNat)
  case atStart => exact ⟨0, Nat.zero_le _, rfl, (rfl : hasL ks v 0 = false), (fun h => absurd h (by omega) : 0 < 0 → ¬ el ks 0 = v), rfl⟩
  case round =>
    obtain ⟨k, hk, rfl, HA, HB, rfl⟩ := hrel
    by_cases hlt : k < ks.length
    · obtain ⟨b, off, rfl, hbs, hc⟩ := hs.at hb hlt
      have g0 : (0 : Int) ≤ (k : Int) := by omega
      have g1 : (k : Int) < (ks.length : Int) := by omega
      by_cases hz : el ks k = v
      · have HN := Lib.hid (hasL_hit hlt hz)
        have b1 : (v == el ks k) = true := beq_iff_eq.2 hz.symm
        have HD : Hid (decide ((k : Int) < 1) = decide (el ks 0 = v)) := by
          unfold Hid
          by_cases h0 : k = 0
          · subst h0
            rw [decide_eq_true (show ((0 : Nat) : Int) < 1 by omega)]
            exact (decide_eq_true (show el ks 0 = v from hz)).symm
          · rw [decide_eq_false (by omega), decide_eq_false (HB.out (by omega))]
        clear hz
        go_wp2
        go_ret
        exact ⟨⟨k, rfl, by rw [HN.out]; exact decide_eq_true g0, by rw [HN.out, HD.out]; simp⟩, rfl⟩
      · have HN := Lib.hid (hasL_miss HA.out hz)
        have b1 : (v == el ks k) = false := beq_eq_false_iff_ne.2 (fun h => hz h.symm)
        have HC : Hid (0 < k + 1 → ¬ el ks 0 = v) := fun _ => by
          by_cases h0 : k = 0
          · subst h0; exact hz
          · exact HB.out (by omega)
        clear hz
        go_wp2
        exact ⟨⟨k + 1, hlt, by go_num, HN, HC, by first | rfl | trivial⟩, by simp [intOf]; omega⟩
    · obtain rfl : k = ks.length := by omega
      go_wp2
      go_ret
      exact ⟨⟨-1, rfl, by rw [HA.out]; rfl, by rw [HA.out]; rfl⟩, rfl⟩
theorem contains_any {A : Option Addr} {ks : List Int} {W : World} {B : Nat} (hs : Nums .i64 W B A ks) (c : Nat) (w : World) (hb : Below B W w) (v : Int) : Calls Try.prog 118 #[.slice A ks.length c, .int .i64 v] w fun e w' => e = .returned (.bool (hasL ks v ks.length)) ∧ w = w' := by
  go_enter Try.func118, Try.ntmps118
  (go_wp2_with fail; refine (index_any hs c _ hb v).mono ?_; rintro e w' ⟨⟨r, rfl, h1, h2⟩, rfl⟩)
  have H1 := Lib.hid h1
  clear h1 h2
  go_wp2
  go_ret
  exact ⟨by rw [← H1.out]; first | done | rfl, rfl⟩
end Go.Proofs.Ytcaaljcfdahpaaa.X
