/- Whether a story is as told: the program's way. Conditions: none. -/
import Derived.Test.YtcaaljcfdahpaaaKStory
namespace Go.Proofs.Ytcaaljcfdahpaaa.X
open Go.RowKit
set_option linter.unusedVariables false
set_option linter.unusedSimpArgs false
set_option maxRecDepth 100000
/-- a break is a reading that is kept, not the first one -/
def brAt (ks bs : List Int) (i : Nat) : Bool := hasL ks (el bs i) ks.length && !decide (el ks 0 = el bs i)
def brTo (ks bs : List Int) : Nat → Bool
  | 0 => true
  | k + 1 => brTo ks bs k && brAt ks bs k
/-- step i is possible, or broken -/
def stAt (f : Nat → Nat → Bool) (ks bs : List Int) (i : Nat) : Bool := decide (i = 0) || hasL bs (el ks i) bs.length || f (el ks ((i : Int) - 1)).toNat (el ks i).toNat
def stTo (f : Nat → Nat → Bool) (ks bs : List Int) : Nat → Bool
  | 0 => true
  | k + 1 => stTo f ks bs k && stAt f ks bs k
def toldB (f : Nat → Nat → Bool) (m : Nat) (ks bs : List Int) (cost : Int) : Bool :=
  (rsTo ks m ks.length && rsTo bs m bs.length && !(decide (ks.length = 0) && decide (0 < m))) && (brTo ks bs bs.length && (stTo f ks bs ks.length && decide (cost = ((m : Int) - ks.length) + 2 * bs.length)))
theorem toldB_a {f : Nat → Nat → Bool} {m : Nat} {ks bs : List Int} {cost : Int} (h : (rsTo ks m ks.length && rsTo bs m bs.length && !(decide (ks.length = 0) && decide (0 < m))) = false) : toldB f m ks bs cost = false := by unfold toldB; rw [h]; rfl
theorem toldB_b {f : Nat → Nat → Bool} {m : Nat} {ks bs : List Int} {cost : Int} (h : brTo ks bs bs.length = false) : toldB f m ks bs cost = false := by unfold toldB; rw [h, Bool.false_and, Bool.and_false]
theorem toldB_c {f : Nat → Nat → Bool} {m : Nat} {ks bs : List Int} {cost : Int} (h : stTo f ks bs ks.length = false) : toldB f m ks bs cost = false := by unfold toldB; rw [h, Bool.false_and, Bool.and_false, Bool.and_false]
theorem toldB_d {f : Nat → Nat → Bool} {m : Nat} {ks bs : List Int} {cost : Int} (h0 : (rsTo ks m ks.length && rsTo bs m bs.length && !(decide (ks.length = 0) && decide (0 < m))) = true) (h1 : brTo ks bs bs.length = true) (h2 : stTo f ks bs ks.length = true) : toldB f m ks bs cost = decide (cost = ((m : Int) - ks.length) + 2 * bs.length) := by unfold toldB; rw [h0, h1, h2]; rfl
theorem brTo_no {ks bs : List Int} {k n : Nat} (hk : k < n) (h : brAt ks bs k = false) : brTo ks bs n = false := by
  induction n with
  | zero => omega
  | succ n ih =>
    unfold brTo
    by_cases e : k = n
    · rw [← e, h, Bool.and_false]
    · rw [ih (by omega)]; rfl
theorem brTo_up {ks bs : List Int} {k : Nat} (h : brTo ks bs k = true) (g : brAt ks bs k = true) : brTo ks bs (k + 1) = true := by unfold brTo; rw [h, g]; rfl
theorem stTo_no {f : Nat → Nat → Bool} {ks bs : List Int} {k n : Nat} (hk : k < n) (h : stAt f ks bs k = false) : stTo f ks bs n = false := by
  induction n with
  | zero => omega
  | succ n ih =>
    unfold stTo
    by_cases e : k = n
    · rw [← e, h, Bool.and_false]
    · rw [ih (by omega)]; rfl
theorem stTo_up {f : Nat → Nat → Bool} {ks bs : List Int} {k : Nat} (h : stTo f ks bs k = true) (g : stAt f ks bs k = true) : stTo f ks bs (k + 1) = true := by unfold stTo; rw [h, g]; rfl
theorem stAt_s {f : Nat → Nat → Bool} {ks bs : List Int} {j k p q : Nat} (e : j + 1 = k) (hp : el ks j = (p : Int)) (hq : el ks k = (q : Int)) : stAt f ks bs k = (hasL bs (el ks k) bs.length || f p q) := by
  subst e
  unfold stAt
  rw [show ((j + 1 : Nat) : Int) - 1 = (j : Int) by omega, hp, hq]
  simp
theorem rs_bd {ks : List Int} {m : Int} (h : rsTo ks m ks.length = true) {k : Nat} (hk : k < ks.length) : 0 ≤ el ks k ∧ el ks k ≤ m - 1 := by
  have := rsTo_all h k hk
  unfold rsAt at this
  rw [Bool.and_eq_true] at this
  exact inR_t.1 this.1
theorem rs_lt {ks : List Int} {m : Int} (h : rsTo ks m ks.length = true) {j k : Nat} (e : j + 1 = k) (hk : k < ks.length) : el ks j < el ks k := by
  have h1 := rsTo_all h k hk
  have h2 := rs_bd h hk
  rw [rsAt_s e (inR_t.2 h2)] at h1
  exact of_decide_eq_true h1
theorem rel_ka {f : Nat → Nat → Bool} {ks bs : List Int} {X W : World} {k : Nat} (hlt : k < ks.length) (hk1 : 1 ≤ k) (h : Hid (stTo f ks bs (k + 1) = true)) (hw : ∃ os d, W = mo X os d) : ∃ (k' : Nat) (os : Array Obj) (d : Nat), 1 ≤ k' ∧ (k' ≤ ks.length ∨ k' = 1) ∧ Value.int .i64 ((k : Int) + 1) = .int .i64 (k' : Int) ∧ Hid (stTo f ks bs k' = true) ∧ W = mo X os d := by
  obtain ⟨os, d, e⟩ := hw
  exact ⟨k + 1, os, d, by omega, .inl hlt, by rw [Int.natCast_succ], h, e⟩
set_option maxHeartbeats 4000000 in
theorem told_any {A : Option Addr} {n c : Nat} {L : Option Addr} {m cl : Nat} {f : Nat → Nat → Bool} {D : Nat} {W0 : World} {B0 : Nat} (hd : Det W0 B0 A n c L m cl f D) (h0 : B0 ≤ W0.heap.size) {Ak : Option Addr} {ks : List Int} {W1 : World} {B1 : Nat} (hk : Nums .i64 W1 B1 Ak ks) (ck : Nat) {Ab : Option Addr} {bs : List Int} {W2 : World} {B2 : Nat} (hbs : Nums .i64 W2 B2 Ab bs) (cb : Nat) (cost : Int) (hm : m ≤ 40) (w : World) (v0 : Below B0 W0 w) (v1 : Below B1 W1 w) (v2 : Below B2 W2 w) :
    Calls Try.prog 116 #[.pointer (some ⟨D, 0, none⟩), .agg #[.slice Ak ks.length ck, .slice Ab bs.length cb, .int .i64 cost]] w fun e w' => e = .returned (.bool (toldB f m ks bs cost)) ∧ Below w.heap.size w w' := by
  have hB1 := hk.bsz v1
  have hB2 := hbs.bsz v2
  have hl1 := hk.len
  have hl2 := hbs.len
  have hB0 : B0 ≤ w.heap.size := Nat.le_trans h0 v0.size
  obtain ⟨lD, -, d1, M, lM, d2, hrow⟩ := hd.keep v0 (Nat.le_refl _)
  have lDw : D < w.heap.size := by omega
  have lMw : M < w.heap.size := by omega
  have HROW := Lib.hid hrow
  have R1 := Lib.hid (fun W (hW : Below B1 W1 W) => rising_any hk ck W hW (m : Int) ⟨by omega, by omega⟩)
  have R2 := Lib.hid (fun W (hW : Below B2 W2 W) => rising_any hbs cb W hW (m : Int) ⟨by omega, by omega⟩)
  clear hrow
  cases e1 : rsTo ks m ks.length
  · have HR : Hid (toldB f m ks bs cost = false) := toldB_a (by rw [e1]; rfl)
    have E1 := Lib.hid e1
    clear e1
    go_enter Try.func116, Try.ntmps116
    (go_wp2_with fail; refine (R1.out _ (by repeat' (first | (with_reducible first | assumption | exact Below.refl _ _ | refine Below.drew ?_ | refine Below.alloc ?_ ?_ _ | refine Below.setCell ?_ ?_ _ | refine below_setR ?_ ?_ _ | refine below_dn ?_ _ | refine Below.trans ?_ (below_mo _ _ _ ?_) | refine Below.trans ?_ (below_mq _ _ ?_) | exact Nat.le_refl _) | (simp; done) | (simp; omega) | omega))).mono ?_; rintro e w' ⟨rfl, rfl⟩; rw [E1.out])
    go_wp2
    go_ret
    exact ⟨by rw [HR.out]; first | done | rfl, (by repeat' (first | (with_reducible first | assumption | exact Below.refl _ _ | refine Below.drew ?_ | refine Below.alloc ?_ ?_ _ | refine Below.setCell ?_ ?_ _ | refine below_setR ?_ ?_ _ | refine below_dn ?_ _ | refine Below.trans ?_ (below_mo _ _ _ ?_) | refine Below.trans ?_ (below_mq _ _ ?_) | exact Nat.le_refl _) | (simp; done) | (simp; omega) | omega))⟩
  cases e2 : rsTo bs m bs.length
  · have HR : Hid (toldB f m ks bs cost = false) := toldB_a (by rw [e2, Bool.and_false]; rfl)
    have E1 := Lib.hid e1
    have E2 := Lib.hid e2
    clear e1 e2
    go_enter Try.func116, Try.ntmps116
    (go_wp2_with fail; refine (R1.out _ (by repeat' (first | (with_reducible first | assumption | exact Below.refl _ _ | refine Below.drew ?_ | refine Below.alloc ?_ ?_ _ | refine Below.setCell ?_ ?_ _ | refine below_setR ?_ ?_ _ | refine below_dn ?_ _ | refine Below.trans ?_ (below_mo _ _ _ ?_) | refine Below.trans ?_ (below_mq _ _ ?_) | exact Nat.le_refl _) | (simp; done) | (simp; omega) | omega))).mono ?_; rintro e w' ⟨rfl, rfl⟩; rw [E1.out])
    (go_wp2_with fail; refine (R2.out _ (by repeat' (first | (with_reducible first | assumption | exact Below.refl _ _ | refine Below.drew ?_ | refine Below.alloc ?_ ?_ _ | refine Below.setCell ?_ ?_ _ | refine below_setR ?_ ?_ _ | refine below_dn ?_ _ | refine Below.trans ?_ (below_mo _ _ _ ?_) | refine Below.trans ?_ (below_mq _ _ ?_) | exact Nat.le_refl _) | (simp; done) | (simp; omega) | omega))).mono ?_; rintro e w' ⟨rfl, rfl⟩; rw [E2.out])
    go_wp2
    go_ret
    exact ⟨by rw [HR.out]; first | done | rfl, (by repeat' (first | (with_reducible first | assumption | exact Below.refl _ _ | refine Below.drew ?_ | refine Below.alloc ?_ ?_ _ | refine Below.setCell ?_ ?_ _ | refine below_setR ?_ ?_ _ | refine below_dn ?_ _ | refine Below.trans ?_ (below_mo _ _ _ ?_) | refine Below.trans ?_ (below_mq _ _ ?_) | exact Nat.le_refl _) | (simp; done) | (simp; omega) | omega))⟩
  cases e3 : (decide (ks.length = 0) && decide (0 < m))
  case true =>
    have HR : Hid (toldB f m ks bs cost = false) := toldB_a (by rw [e1, e2, e3]; rfl)
    obtain ⟨e4, e5⟩ := (Bool.and_eq_true _ _).mp e3
    have e4 := of_decide_eq_true e4
    have e5 := of_decide_eq_true e5
    have b1 : ((ks.length : Int) == 0) = true := by rw [e4]; rfl
    have b2 : (0 : Int) < (m : Int) := by omega
    have E1 := Lib.hid e1
    have E2 := Lib.hid e2
    clear e1 e2 e3 e4
    go_enter Try.func116, Try.ntmps116
    (go_wp2_with fail; refine (R1.out _ (by repeat' (first | (with_reducible first | assumption | exact Below.refl _ _ | refine Below.drew ?_ | refine Below.alloc ?_ ?_ _ | refine Below.setCell ?_ ?_ _ | refine below_setR ?_ ?_ _ | refine below_dn ?_ _ | refine Below.trans ?_ (below_mo _ _ _ ?_) | refine Below.trans ?_ (below_mq _ _ ?_) | exact Nat.le_refl _) | (simp; done) | (simp; omega) | omega))).mono ?_; rintro e w' ⟨rfl, rfl⟩; rw [E1.out])
    (go_wp2_with fail; refine (R2.out _ (by repeat' (first | (with_reducible first | assumption | exact Below.refl _ _ | refine Below.drew ?_ | refine Below.alloc ?_ ?_ _ | refine Below.setCell ?_ ?_ _ | refine below_setR ?_ ?_ _ | refine below_dn ?_ _ | refine Below.trans ?_ (below_mo _ _ _ ?_) | refine Below.trans ?_ (below_mq _ _ ?_) | exact Nat.le_refl _) | (simp; done) | (simp; omega) | omega))).mono ?_; rintro e w' ⟨rfl, rfl⟩; rw [E2.out])
    go_wp2
    go_ret
    exact ⟨by rw [HR.out]; first | done | rfl, (by repeat' (first | (with_reducible first | assumption | exact Below.refl _ _ | refine Below.drew ?_ | refine Below.alloc ?_ ?_ _ | refine Below.setCell ?_ ?_ _ | refine below_setR ?_ ?_ _ | refine below_dn ?_ _ | refine Below.trans ?_ (below_mo _ _ _ ?_) | refine Below.trans ?_ (below_mq _ _ ?_) | exact Nat.le_refl _) | (simp; done) | (simp; omega) | omega))⟩
  have HA : Hid ((rsTo ks m ks.length && rsTo bs m bs.length && !(decide (ks.length = 0) && decide (0 < m))) = true) := by unfold Hid; rw [e1, e2, e3]; rfl
  have E1 := Lib.hid e1
  have E2 := Lib.hid e2
  have E3 : Hid (m = 0 ∨ 0 < ks.length) := by
    unfold Hid
    rcases Nat.eq_zero_or_pos ks.length with h | h
    · rcases Nat.eq_zero_or_pos m with h' | h'
      · exact .inl h'
      · rw [decide_eq_true h, decide_eq_true h'] at e3; exact absurd e3 (by decide)
    · exact .inr h
  clear e1 e2 e3
  have hsplit : (0 < m ∧ 0 < ks.length) ∨ ¬ 0 < m := by have := E3.out; omega
  rcases hsplit with ⟨m0, k0⟩ | m0
  · have b1 : ((ks.length : Int) == 0) = false := beq_eq_false_iff_ne.2 (by omega)
    go_enter Try.func116, Try.ntmps116
    (go_wp2_with fail; refine (R1.out _ (by repeat' (first | (with_reducible first | assumption | exact Below.refl _ _ | refine Below.drew ?_ | refine Below.alloc ?_ ?_ _ | refine Below.setCell ?_ ?_ _ | refine below_setR ?_ ?_ _ | refine below_dn ?_ _ | refine Below.trans ?_ (below_mo _ _ _ ?_) | refine Below.trans ?_ (below_mq _ _ ?_) | exact Nat.le_refl _) | (simp; done) | (simp; omega) | omega))).mono ?_; rintro e w' ⟨rfl, rfl⟩; rw [E1.out])
    (go_wp2_with fail; refine (R2.out _ (by repeat' (first | (with_reducible first | assumption | exact Below.refl _ _ | refine Below.drew ?_ | refine Below.alloc ?_ ?_ _ | refine Below.setCell ?_ ?_ _ | refine below_setR ?_ ?_ _ | refine below_dn ?_ _ | refine Below.trans ?_ (below_mo _ _ _ ?_) | refine Below.trans ?_ (below_mq _ _ ?_) | exact Nat.le_refl _) | (simp; done) | (simp; omega) | omega))).mono ?_; rintro e w' ⟨rfl, rfl⟩; rw [E2.out])
    go_wp2
    go_loopw [39] (fun i wr => ∃ k : Nat, k ≤ bs.length ∧ i = .int .i64 (k : Int) ∧ Hid (brTo ks bs k = true) ∧ wr = w.alloc (.cells #[.slice Ak ks.length ck, .slice Ab bs.length cb, .int .i64 cost] 88)) (fun i _ => bs.length - (intOf i).toNat)
    case atStart => exact ⟨0, Nat.zero_le _, rfl, (rfl : brTo ks bs 0 = true), rfl⟩
    case round =>
      obtain ⟨k, hk', rfl, HB, rfl⟩ := hrel
      by_cases hlt : k < bs.length
      · obtain ⟨b, off, rfl, hb3, hcb⟩ := hbs.at v2 hlt
        have g0 : (0 : Int) ≤ (k : Int) := by omega
        have g1 : (k : Int) < (bs.length : Int) := by omega
        have I1 := Lib.hid (fun W (hW : Below B1 W1 W) => index_any hk ck W hW (el bs k))
        cases hbr : brAt ks bs k
        · have HR : Hid (toldB f m ks bs cost = false) := toldB_b (brTo_no hlt hbr)
          have HD : Hid ((!(hasL ks (el bs k) ks.length && !decide (el ks 0 = el bs k))) = true) := by
            unfold Hid
            have : brAt ks bs k = (hasL ks (el bs k) ks.length && !decide (el ks 0 = el bs k)) := rfl
            rw [← this, hbr]; rfl
          clear hbr
          (go_wp2_with fail; refine (I1.out _ (by repeat' (first | (with_reducible first | assumption | exact Below.refl _ _ | refine Below.drew ?_ | refine Below.alloc ?_ ?_ _ | refine Below.setCell ?_ ?_ _ | refine below_setR ?_ ?_ _ | refine below_dn ?_ _ | refine Below.trans ?_ (below_mo _ _ _ ?_) | refine Below.trans ?_ (below_mq _ _ ?_) | exact Nat.le_refl _) | (simp; done) | (simp; omega) | omega))).mono ?_; rintro e w' ⟨⟨r, rfl, i1, i2⟩, rfl⟩)
          have i3 : r < 1 := of_decide_eq_true (i2.trans HD.out)
          clear i1 i2
          go_wp2
          go_ret
          exact ⟨by rw [HR.out]; first | done | rfl, (by repeat' (first | (with_reducible first | assumption | exact Below.refl _ _ | refine Below.drew ?_ | refine Below.alloc ?_ ?_ _ | refine Below.setCell ?_ ?_ _ | refine below_setR ?_ ?_ _ | refine below_dn ?_ _ | refine Below.trans ?_ (below_mo _ _ _ ?_) | refine Below.trans ?_ (below_mq _ _ ?_) | exact Nat.le_refl _) | (simp; done) | (simp; omega) | omega))⟩
        · have HN := Lib.hid (brTo_up HB.out hbr)
          have HD : Hid ((!(hasL ks (el bs k) ks.length && !decide (el ks 0 = el bs k))) = false) := by
            unfold Hid
            have : brAt ks bs k = (hasL ks (el bs k) ks.length && !decide (el ks 0 = el bs k)) := rfl
            rw [← this, hbr]; rfl
          clear hbr
          (go_wp2_with fail; refine (I1.out _ (by repeat' (first | (with_reducible first | assumption | exact Below.refl _ _ | refine Below.drew ?_ | refine Below.alloc ?_ ?_ _ | refine Below.setCell ?_ ?_ _ | refine below_setR ?_ ?_ _ | refine below_dn ?_ _ | refine Below.trans ?_ (below_mo _ _ _ ?_) | refine Below.trans ?_ (below_mq _ _ ?_) | exact Nat.le_refl _) | (simp; done) | (simp; omega) | omega))).mono ?_; rintro e w' ⟨⟨r, rfl, i1, i2⟩, rfl⟩)
          have i3 : ¬ r < 1 := of_decide_eq_false (i2.trans HD.out)
          clear i1 i2
          go_wp2
          exact ⟨⟨k + 1, hlt, by go_num, HN, by first | rfl | trivial⟩, by simp [intOf]; omega⟩
      · have HBE : Hid (brTo ks bs bs.length = true) := by
          have e : k = bs.length := by omega
          unfold Hid; rw [← e]; exact HB.out
        clear HB
        go_wp2
        go_loopw [8] (fun i wr => ∃ (k : Nat) (os : Array Obj) (d : Nat), 1 ≤ k ∧ (k ≤ ks.length ∨ k = 1) ∧ i = .int .i64 (k : Int) ∧ Hid (stTo f ks bs k = true) ∧ wr = mo (w.alloc (.cells #[.slice Ak ks.length ck, .slice Ab bs.length cb, .int .i64 cost] 88)) os d) (fun i _ => ks.length - (intOf i).toNat)
        case atStart => exact ⟨1, #[], _, Nat.le_refl _, .inr rfl, rfl, (rfl : stTo f ks bs 1 = true), (mo_nil _).symm⟩
        case round =>
          obtain ⟨k, os, d, hk1, hk2, rfl, HS, rfl⟩ := hrel
          by_cases hlt2 : k < ks.length
          · obtain ⟨j, hjk⟩ : ∃ j, j + 1 = k := ⟨k - 1, by omega⟩
            obtain ⟨b, off, rfl, hb3, hc1⟩ := hk.at v1 hlt2
            obtain ⟨b', off', he, _, hc0⟩ := hk.at v1 (k := j) (by omega)
            obtain ⟨rfl, rfl⟩ := addr_same he
            clear he
            obtain ⟨q0, q1⟩ := rs_bd E1.out hlt2
            obtain ⟨p0, p1⟩ := rs_bd E1.out (k := j) (by omega)
            have hpq := rs_lt E1.out hjk hlt2
            obtain ⟨q, hq⟩ := Int.eq_ofNat_of_zero_le q0
            obtain ⟨p, hp⟩ := Int.eq_ofNat_of_zero_le p0
            have hst := stAt_s (f := f) (bs := bs) hjk hp hq
            obtain ⟨R, lR, cR, hR⟩ := HROW.out p (by omega)
            have cq := hR q (by omega) (by omega)
            have C1 := Lib.hid (fun W (hW : Below B2 W2 W) => contains_any hbs cb W hW (el ks k))
            rw [hp] at hc0
            have HQ := Lib.hid hq
            have HP := Lib.hid hp
            have lRw : R < w.heap.size := by omega
            have e1 : IntKind.i64.wrap ((k : Int) - 1) = (j : Int) := (IntWalk.i64_in _ ⟨by omega, by omega⟩).trans (by omega)
            have g0 : (0 : Int) ≤ (k : Int) := by omega
            have g1 : (k : Int) < (ks.length : Int) := by omega
            have g2 : (0 : Int) ≤ (j : Int) := by omega
            have g3 : (j : Int) < (ks.length : Int) := by omega
            have g4 : (0 : Int) ≤ (p : Int) := by omega
            have g5 : (p : Int) < (m : Int) := by omega
            have g6 : (0 : Int) ≤ (q : Int) := by omega
            have g7 : (q : Int) < (m : Int) := by omega
            rw [hq] at hc1
            have C2 : Hid (∀ W, Below B2 W2 W → Calls Try.prog 118 #[.slice Ab bs.length cb, .int .i64 (q : Int)] W fun e w' => e = .returned (.bool (hasL bs (el ks k) bs.length)) ∧ W = w') := by
              unfold Hid
              intro W hW
              have := C1.out W hW
              rw [HQ.out] at this
              rw [HQ.out]
              exact this
            have HJ := Lib.hid hjk
            clear hq hp hR hjk hpq C1
            cases hf : f p q
            · rw [hf] at cq
              cases hh : hasL bs (el ks k) bs.length
              · have HR := Lib.hid (toldB_c (m := m) (cost := cost) (stTo_no hlt2 (hst.trans (by rw [hh, hf]; rfl))))
                clear hf hst
                go_wp2
                (refine wp_region_mq (by kernel_rfl) (by kernel_rfl) ?_; (repeat (first | go_big_quiet_step ((first | (go_at_call 118; ((with_reducible refine quietSb (C2.out _ ?_) hh) <;> (repeat' (first | (with_reducible first | assumption | exact Below.refl _ _ | refine Below.drew ?_ | refine Below.alloc ?_ ?_ _ | refine Below.setCell ?_ ?_ _ | refine below_setR ?_ ?_ _ | refine below_dn ?_ _ | refine Below.trans ?_ (below_mo _ _ _ ?_) | refine Below.trans ?_ (below_mq _ _ ?_) | exact Nat.le_refl _) | (simp; done) | (simp; omega) | omega)))))) | quiet_step ((first | (go_at_call 118; ((with_reducible refine quietSb (C2.out _ ?_) hh) <;> (repeat' (first | (with_reducible first | assumption | exact Below.refl _ _ | refine Below.drew ?_ | refine Below.alloc ?_ ?_ _ | refine Below.setCell ?_ ?_ _ | refine below_setR ?_ ?_ _ | refine below_dn ?_ _ | refine Below.trans ?_ (below_mo _ _ _ ?_) | refine Below.trans ?_ (below_mq _ _ ?_) | exact Nat.le_refl _) | (simp; done) | (simp; omega) | omega)))))))); refine wpQuiet_nil ?_; intro _ hq_; obtain ⟨q_, rfl⟩ := hq_)
                go_wp2
                go_ret
                exact ⟨by rw [HR.out]; first | done | rfl, (by repeat' (first | (with_reducible first | assumption | exact Below.refl _ _ | refine Below.drew ?_ | refine Below.alloc ?_ ?_ _ | refine Below.setCell ?_ ?_ _ | refine below_setR ?_ ?_ _ | refine below_dn ?_ _ | refine Below.trans ?_ (below_mo _ _ _ ?_) | refine Below.trans ?_ (below_mq _ _ ?_) | exact Nat.le_refl _) | (simp; done) | (simp; omega) | omega))⟩
              · have HN := Lib.hid (stTo_up HS.out (hst.trans (by rw [hh]; rfl)))
                clear hf hst
                go_wp2
                (refine wp_region_mq (by kernel_rfl) (by kernel_rfl) ?_; (repeat (first | go_big_quiet_step ((first | (go_at_call 118; ((with_reducible refine quietSb (C2.out _ ?_) hh) <;> (repeat' (first | (with_reducible first | assumption | exact Below.refl _ _ | refine Below.drew ?_ | refine Below.alloc ?_ ?_ _ | refine Below.setCell ?_ ?_ _ | refine below_setR ?_ ?_ _ | refine below_dn ?_ _ | refine Below.trans ?_ (below_mo _ _ _ ?_) | refine Below.trans ?_ (below_mq _ _ ?_) | exact Nat.le_refl _) | (simp; done) | (simp; omega) | omega)))))) | quiet_step ((first | (go_at_call 118; ((with_reducible refine quietSb (C2.out _ ?_) hh) <;> (repeat' (first | (with_reducible first | assumption | exact Below.refl _ _ | refine Below.drew ?_ | refine Below.alloc ?_ ?_ _ | refine Below.setCell ?_ ?_ _ | refine below_setR ?_ ?_ _ | refine below_dn ?_ _ | refine Below.trans ?_ (below_mo _ _ _ ?_) | refine Below.trans ?_ (below_mq _ _ ?_) | exact Nat.le_refl _) | (simp; done) | (simp; omega) | omega)))))))); refine wpQuiet_nil ?_; intro _ hq_; obtain ⟨q_, rfl⟩ := hq_)
                go_wp2
                exact ⟨rel_ka hlt2 hk1 HN (mo_of (by repeat' (first | (with_reducible first | assumption | exact Below.refl _ _ | refine Below.drew ?_ | refine Below.alloc ?_ ?_ _ | refine Below.setCell ?_ ?_ _ | refine below_setR ?_ ?_ _ | refine below_dn ?_ _ | refine Below.trans ?_ (below_mo _ _ _ ?_) | refine Below.trans ?_ (below_mq _ _ ?_) | exact Nat.le_refl _) | (simp; done) | (simp; omega) | omega))), by simp [intOf]; omega⟩
            · rw [hf] at cq
              have HN := Lib.hid (stTo_up HS.out (hst.trans (by rw [hf, Bool.or_true])))
              clear hf hst
              go_wp2
              (refine wp_region_mq (by kernel_rfl) (by kernel_rfl) ?_; (repeat (first | go_big_quiet_step ((first | (go_at_call 118; ((with_reducible refine quietS (C2.out _ ?_) ) <;> (repeat' (first | (with_reducible first | assumption | exact Below.refl _ _ | refine Below.drew ?_ | refine Below.alloc ?_ ?_ _ | refine Below.setCell ?_ ?_ _ | refine below_setR ?_ ?_ _ | refine below_dn ?_ _ | refine Below.trans ?_ (below_mo _ _ _ ?_) | refine Below.trans ?_ (below_mq _ _ ?_) | exact Nat.le_refl _) | (simp; done) | (simp; omega) | omega)))))) | quiet_step ((first | (go_at_call 118; ((with_reducible refine quietS (C2.out _ ?_) ) <;> (repeat' (first | (with_reducible first | assumption | exact Below.refl _ _ | refine Below.drew ?_ | refine Below.alloc ?_ ?_ _ | refine Below.setCell ?_ ?_ _ | refine below_setR ?_ ?_ _ | refine below_dn ?_ _ | refine Below.trans ?_ (below_mo _ _ _ ?_) | refine Below.trans ?_ (below_mq _ _ ?_) | exact Nat.le_refl _) | (simp; done) | (simp; omega) | omega)))))))); refine wpQuiet_nil ?_; intro _ hq_; obtain ⟨q_, rfl⟩ := hq_)
              go_wp2
              exact ⟨rel_ka hlt2 hk1 HN (mo_of (by repeat' (first | (with_reducible first | assumption | exact Below.refl _ _ | refine Below.drew ?_ | refine Below.alloc ?_ ?_ _ | refine Below.setCell ?_ ?_ _ | refine below_setR ?_ ?_ _ | refine below_dn ?_ _ | refine Below.trans ?_ (below_mo _ _ _ ?_) | refine Below.trans ?_ (below_mq _ _ ?_) | exact Nat.le_refl _) | (simp; done) | (simp; omega) | omega))), by simp [intOf]; omega⟩
          · have HSE : Hid (stTo f ks bs ks.length = true) := by
              unfold Hid
              by_cases e : k = ks.length
              · rw [← e]; exact HS.out
              · have : ks.length = 0 := by omega
                rw [this]; rfl
            have HR := Lib.hid (toldB_d (cost := cost) HA.out HBE.out HSE.out)
            have hle : ks.length ≤ 1048576 := hl1
            have w1 : IntKind.i64.wrap ((m : Int) - (ks.length : Int)) = (m : Int) - (ks.length : Int) := IntWalk.i64_in _ ⟨by omega, by omega⟩
            have w2 : IntKind.i64.wrap ((bs.length : Int) * 2) = (bs.length : Int) * 2 := IntWalk.i64_in _ ⟨by omega, by omega⟩
            have w3 : IntKind.i64.wrap ((m : Int) - (ks.length : Int) + (bs.length : Int) * 2) = (m : Int) - (ks.length : Int) + (bs.length : Int) * 2 := IntWalk.i64_in _ ⟨by omega, by omega⟩
            go_wp2
            go_ret
            exact ⟨by rw [HR.out, Int.mul_comm 2]; rfl, (by repeat' (first | (with_reducible first | assumption | exact Below.refl _ _ | refine Below.drew ?_ | refine Below.alloc ?_ ?_ _ | refine Below.setCell ?_ ?_ _ | refine below_setR ?_ ?_ _ | refine below_dn ?_ _ | refine Below.trans ?_ (below_mo _ _ _ ?_) | refine Below.trans ?_ (below_mq _ _ ?_) | exact Nat.le_refl _) | (simp; done) | (simp; omega) | omega))⟩
  · have b1 : ¬ (0 : Int) < (m : Int) := by omega
    go_enter Try.func116, Try.ntmps116
    (go_wp2_with fail; refine (R1.out _ (by repeat' (first | (with_reducible first | assumption | exact Below.refl _ _ | refine Below.drew ?_ | refine Below.alloc ?_ ?_ _ | refine Below.setCell ?_ ?_ _ | refine below_setR ?_ ?_ _ | refine below_dn ?_ _ | refine Below.trans ?_ (below_mo _ _ _ ?_) | refine Below.trans ?_ (below_mq _ _ ?_) | exact Nat.le_refl _) | (simp; done) | (simp; omega) | omega))).mono ?_; rintro e w' ⟨rfl, rfl⟩; rw [E1.out])
    (go_wp2_with fail; refine (R2.out _ (by repeat' (first | (with_reducible first | assumption | exact Below.refl _ _ | refine Below.drew ?_ | refine Below.alloc ?_ ?_ _ | refine Below.setCell ?_ ?_ _ | refine below_setR ?_ ?_ _ | refine below_dn ?_ _ | refine Below.trans ?_ (below_mo _ _ _ ?_) | refine Below.trans ?_ (below_mq _ _ ?_) | exact Nat.le_refl _) | (simp; done) | (simp; omega) | omega))).mono ?_; rintro e w' ⟨rfl, rfl⟩; rw [E2.out])
    go_wp2
    go_loopw [39] (fun i wr => ∃ k : Nat, k ≤ bs.length ∧ i = .int .i64 (k : Int) ∧ Hid (brTo ks bs k = true) ∧ wr = w.alloc (.cells #[.slice Ak ks.length ck, .slice Ab bs.length cb, .int .i64 cost] 88)) (fun i _ => bs.length - (intOf i).toNat)
    case atStart => exact ⟨0, Nat.zero_le _, rfl, (rfl : brTo ks bs 0 = true), rfl⟩
    case round =>
      obtain ⟨k, hk', rfl, HB, rfl⟩ := hrel
      by_cases hlt : k < bs.length
      · obtain ⟨b, off, rfl, hb3, hcb⟩ := hbs.at v2 hlt
        have g0 : (0 : Int) ≤ (k : Int) := by omega
        have g1 : (k : Int) < (bs.length : Int) := by omega
        have I1 := Lib.hid (fun W (hW : Below B1 W1 W) => index_any hk ck W hW (el bs k))
        cases hbr : brAt ks bs k
        · have HR : Hid (toldB f m ks bs cost = false) := toldB_b (brTo_no hlt hbr)
          have HD : Hid ((!(hasL ks (el bs k) ks.length && !decide (el ks 0 = el bs k))) = true) := by
            unfold Hid
            have : brAt ks bs k = (hasL ks (el bs k) ks.length && !decide (el ks 0 = el bs k)) := rfl
            rw [← this, hbr]; rfl
          clear hbr
          (go_wp2_with fail; refine (I1.out _ (by repeat' (first | (with_reducible first | assumption | exact Below.refl _ _ | refine Below.drew ?_ | refine Below.alloc ?_ ?_ _ | refine Below.setCell ?_ ?_ _ | refine below_setR ?_ ?_ _ | refine below_dn ?_ _ | refine Below.trans ?_ (below_mo _ _ _ ?_) | refine Below.trans ?_ (below_mq _ _ ?_) | exact Nat.le_refl _) | (simp; done) | (simp; omega) | omega))).mono ?_; rintro e w' ⟨⟨r, rfl, i1, i2⟩, rfl⟩)
          have i3 : r < 1 := of_decide_eq_true (i2.trans HD.out)
          clear i1 i2
          go_wp2
          go_ret
          exact ⟨by rw [HR.out]; first | done | rfl, (by repeat' (first | (with_reducible first | assumption | exact Below.refl _ _ | refine Below.drew ?_ | refine Below.alloc ?_ ?_ _ | refine Below.setCell ?_ ?_ _ | refine below_setR ?_ ?_ _ | refine below_dn ?_ _ | refine Below.trans ?_ (below_mo _ _ _ ?_) | refine Below.trans ?_ (below_mq _ _ ?_) | exact Nat.le_refl _) | (simp; done) | (simp; omega) | omega))⟩
        · have HN := Lib.hid (brTo_up HB.out hbr)
          have HD : Hid ((!(hasL ks (el bs k) ks.length && !decide (el ks 0 = el bs k))) = false) := by
            unfold Hid
            have : brAt ks bs k = (hasL ks (el bs k) ks.length && !decide (el ks 0 = el bs k)) := rfl
            rw [← this, hbr]; rfl
          clear hbr
          (go_wp2_with fail; refine (I1.out _ (by repeat' (first | (with_reducible first | assumption | exact Below.refl _ _ | refine Below.drew ?_ | refine Below.alloc ?_ ?_ _ | refine Below.setCell ?_ ?_ _ | refine below_setR ?_ ?_ _ | refine below_dn ?_ _ | refine Below.trans ?_ (below_mo _ _ _ ?_) | refine Below.trans ?_ (below_mq _ _ ?_) | exact Nat.le_refl _) | (simp; done) | (simp; omega) | omega))).mono ?_; rintro e w' ⟨⟨r, rfl, i1, i2⟩, rfl⟩)
          have i3 : ¬ r < 1 := of_decide_eq_false (i2.trans HD.out)
          clear i1 i2
          go_wp2
          exact ⟨⟨k + 1, hlt, by go_num, HN, by first | rfl | trivial⟩, by simp [intOf]; omega⟩
      · have HBE : Hid (brTo ks bs bs.length = true) := by
          have e : k = bs.length := by omega
          unfold Hid; rw [← e]; exact HB.out
        clear HB
        go_wp2
        go_loopw [8] (fun i wr => ∃ (k : Nat) (os : Array Obj) (d : Nat), 1 ≤ k ∧ (k ≤ ks.length ∨ k = 1) ∧ i = .int .i64 (k : Int) ∧ Hid (stTo f ks bs k = true) ∧ wr = mo (w.alloc (.cells #[.slice Ak ks.length ck, .slice Ab bs.length cb, .int .i64 cost] 88)) os d) (fun i _ => ks.length - (intOf i).toNat)
        case atStart => exact ⟨1, #[], _, Nat.le_refl _, .inr rfl, rfl, (rfl : stTo f ks bs 1 = true), (mo_nil _).symm⟩
        case round =>
          obtain ⟨k, os, d, hk1, hk2, rfl, HS, rfl⟩ := hrel
          by_cases hlt2 : k < ks.length
          · exfalso
            have := rs_bd E1.out hlt2
            omega
          · have HSE : Hid (stTo f ks bs ks.length = true) := by
              unfold Hid
              by_cases e : k = ks.length
              · rw [← e]; exact HS.out
              · have : ks.length = 0 := by omega
                rw [this]; rfl
            have HR := Lib.hid (toldB_d (cost := cost) HA.out HBE.out HSE.out)
            have hle : ks.length ≤ 1048576 := hl1
            have w1 : IntKind.i64.wrap ((m : Int) - (ks.length : Int)) = (m : Int) - (ks.length : Int) := IntWalk.i64_in _ ⟨by omega, by omega⟩
            have w2 : IntKind.i64.wrap ((bs.length : Int) * 2) = (bs.length : Int) * 2 := IntWalk.i64_in _ ⟨by omega, by omega⟩
            have w3 : IntKind.i64.wrap ((m : Int) - (ks.length : Int) + (bs.length : Int) * 2) = (m : Int) - (ks.length : Int) + (bs.length : Int) * 2 := IntWalk.i64_in _ ⟨by omega, by omega⟩
            go_wp2
            go_ret
            exact ⟨by rw [HR.out, Int.mul_comm 2]; rfl, (by repeat' (first | (with_reducible first | assumption | exact Below.refl _ _ | refine Below.drew ?_ | refine Below.alloc ?_ ?_ _ | refine Below.setCell ?_ ?_ _ | refine below_setR ?_ ?_ _ | refine below_dn ?_ _ | refine Below.trans ?_ (below_mo _ _ _ ?_) | refine Below.trans ?_ (below_mq _ _ ?_) | exact Nat.le_refl _) | (simp; done) | (simp; omega) | omega))⟩
end Go.Proofs.Ytcaaljcfdahpaaa.X
