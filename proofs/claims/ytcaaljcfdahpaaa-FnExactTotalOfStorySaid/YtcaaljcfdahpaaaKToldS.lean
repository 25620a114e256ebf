/- Whether a story is as told: the paper's way. Conditions: none. -/
import Derived.Test.YtcaaljcfdahpaaaKTold
namespace Go.Proofs.Ytcaaljcfdahpaaa.X
open Go.RowKit
set_option linter.unusedVariables false
set_option linter.unusedSimpArgs false
set_option maxRecDepth 100000
theorem rel_kb {f : Nat → Nat → Bool} {ks bs : List Int} {X W : World} {k : Nat} (hlt : k < bs.length) (h : Hid (brTo ks bs (k + 1) = true)) (hw : ∃ os d, W = mo X os d) : ∃ (k' : Nat) (os : Array Obj) (d : Nat), k' ≤ bs.length ∧ Value.int .i64 ((k : Int) + 1) = .int .i64 (k' : Int) ∧ Hid (brTo ks bs k' = true) ∧ W = mo X os d := by
  obtain ⟨os, d, e⟩ := hw
  exact ⟨k + 1, os, d, hlt, by rw [Int.natCast_succ], h, e⟩
theorem hasL_pos {ks : List Int} {v : Int} (h : hasL ks v ks.length = true) : 0 < ks.length := by
  rcases Nat.eq_zero_or_pos ks.length with e | e
  · rw [e] at h; exact absurd h (by simp [hasL])
  · exact e
set_option maxHeartbeats 4000000 in
theorem l04Told_any {A : Option Addr} {xs : List Int} {W : World} {B : Nat} (hs : Nums .u8 W B A xs) (h8 : b8 xs) (n c : Nat) (hn : xs.length = n) (w : World) (hb : Below B W w) {L : Option Addr} {log : List (Int × Int)} {V : World} {C : Nat} (hl : Prs .i64 .i64 V C L log) (cl : Nat) (hv : Below C V w) (fl fh : Int) {Ak : Option Addr} {ks : List Int} {W1 : World} {B1 : Nat} (hk : Nums .i64 W1 B1 Ak ks) (ck : Nat) {Ab : Option Addr} {bs : List Int} {W2 : World} {B2 : Nat} (hbs : Nums .i64 W2 B2 Ab bs) (cb : Nat) (cost : Int) (v1 : Below B1 W1 w) (v2 : Below B2 W2 w) (g : Nat) (k0 : w.cell? ⟨g, 0, none⟩ = some (.slice Ak ks.length ck)) (k1 : w.cell? ⟨g, 1, none⟩ = some (.slice Ab bs.length cb)) (k2 : w.cell? ⟨g, 2, none⟩ = some (.int .i64 cost)) (hok : okL xs log = true) (hfl : okF fl fh = true) :
    Calls Try.prog 114 #[.slice A n c, .slice L log.length cl, .agg #[.int .i64 fl, .int .i64 fh], .pointer (some ⟨g, 0, none⟩)] w fun e w' => e = .returned (.bool (toldB (can xs log fl fh) log.length ks bs cost)) ∧ Below w.heap.size w w' := by
  obtain rfl := hn
  have hB := hs.bsz hb
  have hC := hl.bsz hv
  have hB1 := hk.bsz v1
  have hB2 := hbs.bsz v2
  have hl1 := hk.len
  have hl2 := hbs.len
  have hg : g < w.heap.size := block_lt_of_cell k0
  have hm : log.length ≤ 40 := (okL_parts hok).2.1
  have R1 := Lib.hid (fun W (hW : Below B1 W1 W) => l04Rising_any hk ck W hW (log.length : Int) ⟨by omega, by omega⟩)
  have R2 := Lib.hid (fun W (hW : Below B2 W2 W) => l04Rising_any hbs cb W hW (log.length : Int) ⟨by omega, by omega⟩)
  have FT := Lib.hid (fun W' (hW : Below B W W') (hV : Below C V W') p q (h1 : p ≤ q) (h2 : q < log.length) => l04Fits_any hs h8 xs.length c rfl W' hW hl cl hV fl fh p q hok hfl h1 h2)
  clear hok hfl
  cases e1 : rsTo ks log.length ks.length
  · have HR : Hid (toldB (can xs log fl fh) log.length ks bs cost = false) := toldB_a (by rw [e1]; rfl)
    have E1 := Lib.hid e1
    clear e1
    go_enter Try.func114, Try.ntmps114
    (go_wp2_with fail; refine (R1.out _ (by repeat' (first | (with_reducible first | assumption | exact Below.refl _ _ | refine Below.drew ?_ | refine Below.alloc ?_ ?_ _ | refine Below.setCell ?_ ?_ _ | refine below_setR ?_ ?_ _ | refine below_dn ?_ _ | refine Below.trans ?_ (below_mo _ _ _ ?_) | refine Below.trans ?_ (below_mq _ _ ?_) | exact Nat.le_refl _) | (simp; done) | (simp; omega) | omega))).mono ?_; rintro e w' ⟨rfl, hb_⟩; rw [E1.out]; obtain ⟨os1, d1, rfl⟩ := mo_of hb_; clear hb_)
    go_wp2
    go_ret
    exact ⟨by rw [HR.out]; first | done | rfl, (by repeat' (first | (with_reducible first | assumption | exact Below.refl _ _ | refine Below.drew ?_ | refine Below.alloc ?_ ?_ _ | refine Below.setCell ?_ ?_ _ | refine below_setR ?_ ?_ _ | refine below_dn ?_ _ | refine Below.trans ?_ (below_mo _ _ _ ?_) | refine Below.trans ?_ (below_mq _ _ ?_) | exact Nat.le_refl _) | (simp; done) | (simp; omega) | omega))⟩
  cases e2 : rsTo bs log.length bs.length
  · have HR : Hid (toldB (can xs log fl fh) log.length ks bs cost = false) := toldB_a (by rw [e2, Bool.and_false]; rfl)
    have E1 := Lib.hid e1
    have E2 := Lib.hid e2
    clear e1 e2
    go_enter Try.func114, Try.ntmps114
    (go_wp2_with fail; refine (R1.out _ (by repeat' (first | (with_reducible first | assumption | exact Below.refl _ _ | refine Below.drew ?_ | refine Below.alloc ?_ ?_ _ | refine Below.setCell ?_ ?_ _ | refine below_setR ?_ ?_ _ | refine below_dn ?_ _ | refine Below.trans ?_ (below_mo _ _ _ ?_) | refine Below.trans ?_ (below_mq _ _ ?_) | exact Nat.le_refl _) | (simp; done) | (simp; omega) | omega))).mono ?_; rintro e w' ⟨rfl, hb_⟩; rw [E1.out]; obtain ⟨os1, d1, rfl⟩ := mo_of hb_; clear hb_)
    (go_wp2_with fail; refine (R2.out _ (by repeat' (first | (with_reducible first | assumption | exact Below.refl _ _ | refine Below.drew ?_ | refine Below.alloc ?_ ?_ _ | refine Below.setCell ?_ ?_ _ | refine below_setR ?_ ?_ _ | refine below_dn ?_ _ | refine Below.trans ?_ (below_mo _ _ _ ?_) | refine Below.trans ?_ (below_mq _ _ ?_) | exact Nat.le_refl _) | (simp; done) | (simp; omega) | omega))).mono ?_; rintro e w' ⟨rfl, hb_⟩; rw [E2.out]; obtain ⟨os2, d2, rfl⟩ := mo_of hb_; clear hb_)
    go_wp2
    go_ret
    exact ⟨by rw [HR.out]; first | done | rfl, (by repeat' (first | (with_reducible first | assumption | exact Below.refl _ _ | refine Below.drew ?_ | refine Below.alloc ?_ ?_ _ | refine Below.setCell ?_ ?_ _ | refine below_setR ?_ ?_ _ | refine below_dn ?_ _ | refine Below.trans ?_ (below_mo _ _ _ ?_) | refine Below.trans ?_ (below_mq _ _ ?_) | exact Nat.le_refl _) | (simp; done) | (simp; omega) | omega))⟩
  cases e3 : (decide (ks.length = 0) && decide (0 < log.length))
  case true =>
    have HR : Hid (toldB (can xs log fl fh) log.length ks bs cost = false) := toldB_a (by rw [e1, e2, e3]; rfl)
    obtain ⟨e4, e5⟩ := (Bool.and_eq_true _ _).mp e3
    have e4 := of_decide_eq_true e4
    have e5 := of_decide_eq_true e5
    have b1 : ((ks.length : Int) == 0) = true := by rw [e4]; rfl
    have b2 : (0 : Int) < (log.length : Int) := by omega
    have E1 := Lib.hid e1
    have E2 := Lib.hid e2
    clear e1 e2 e3 e4
    go_enter Try.func114, Try.ntmps114
    (go_wp2_with fail; refine (R1.out _ (by repeat' (first | (with_reducible first | assumption | exact Below.refl _ _ | refine Below.drew ?_ | refine Below.alloc ?_ ?_ _ | refine Below.setCell ?_ ?_ _ | refine below_setR ?_ ?_ _ | refine below_dn ?_ _ | refine Below.trans ?_ (below_mo _ _ _ ?_) | refine Below.trans ?_ (below_mq _ _ ?_) | exact Nat.le_refl _) | (simp; done) | (simp; omega) | omega))).mono ?_; rintro e w' ⟨rfl, hb_⟩; rw [E1.out]; obtain ⟨os1, d1, rfl⟩ := mo_of hb_; clear hb_)
    (go_wp2_with fail; refine (R2.out _ (by repeat' (first | (with_reducible first | assumption | exact Below.refl _ _ | refine Below.drew ?_ | refine Below.alloc ?_ ?_ _ | refine Below.setCell ?_ ?_ _ | refine below_setR ?_ ?_ _ | refine below_dn ?_ _ | refine Below.trans ?_ (below_mo _ _ _ ?_) | refine Below.trans ?_ (below_mq _ _ ?_) | exact Nat.le_refl _) | (simp; done) | (simp; omega) | omega))).mono ?_; rintro e w' ⟨rfl, hb_⟩; rw [E2.out]; obtain ⟨os2, d2, rfl⟩ := mo_of hb_; clear hb_)
    go_wp2
    go_ret
    exact ⟨by rw [HR.out]; first | done | rfl, (by repeat' (first | (with_reducible first | assumption | exact Below.refl _ _ | refine Below.drew ?_ | refine Below.alloc ?_ ?_ _ | refine Below.setCell ?_ ?_ _ | refine below_setR ?_ ?_ _ | refine below_dn ?_ _ | refine Below.trans ?_ (below_mo _ _ _ ?_) | refine Below.trans ?_ (below_mq _ _ ?_) | exact Nat.le_refl _) | (simp; done) | (simp; omega) | omega))⟩
  have HA : Hid ((rsTo ks log.length ks.length && rsTo bs log.length bs.length && !(decide (ks.length = 0) && decide (0 < log.length))) = true) := by unfold Hid; rw [e1, e2, e3]; rfl
  have E1 := Lib.hid e1
  have E2 := Lib.hid e2
  have hsplit : 0 < ks.length ∨ (¬ 0 < ks.length ∧ ¬ 0 < log.length) := by
    rcases Nat.eq_zero_or_pos ks.length with h | h
    · rcases Nat.eq_zero_or_pos log.length with h' | h'
      · exact .inr ⟨by omega, by omega⟩
      · rw [decide_eq_true h, decide_eq_true h'] at e3; exact absurd e3 (by decide)
    · exact .inl h
  clear e1 e2 e3
  rcases hsplit with kp | ⟨kn, mn⟩
  · have b1 : ((ks.length : Int) == 0) = false := beq_eq_false_iff_ne.2 (by omega)
    go_enter Try.func114, Try.ntmps114
    (go_wp2_with fail; refine (R1.out _ (by repeat' (first | (with_reducible first | assumption | exact Below.refl _ _ | refine Below.drew ?_ | refine Below.alloc ?_ ?_ _ | refine Below.setCell ?_ ?_ _ | refine below_setR ?_ ?_ _ | refine below_dn ?_ _ | refine Below.trans ?_ (below_mo _ _ _ ?_) | refine Below.trans ?_ (below_mq _ _ ?_) | exact Nat.le_refl _) | (simp; done) | (simp; omega) | omega))).mono ?_; rintro e w' ⟨rfl, hb_⟩; rw [E1.out]; obtain ⟨os1, d1, rfl⟩ := mo_of hb_; clear hb_)
    (go_wp2_with fail; refine (R2.out _ (by repeat' (first | (with_reducible first | assumption | exact Below.refl _ _ | refine Below.drew ?_ | refine Below.alloc ?_ ?_ _ | refine Below.setCell ?_ ?_ _ | refine below_setR ?_ ?_ _ | refine below_dn ?_ _ | refine Below.trans ?_ (below_mo _ _ _ ?_) | refine Below.trans ?_ (below_mq _ _ ?_) | exact Nat.le_refl _) | (simp; done) | (simp; omega) | omega))).mono ?_; rintro e w' ⟨rfl, hb_⟩; rw [E2.out]; obtain ⟨os2, d2, rfl⟩ := mo_of hb_; clear hb_)
    go_wp2
    go_loopw [11] (fun i wr => ∃ (k : Nat) (os : Array Obj) (d : Nat), k ≤ bs.length ∧ i = .int .i64 (k : Int) ∧ Hid (brTo ks bs k = true) ∧ wr = mo (w.alloc (.cells #[.int .i64 fl, .int .i64 fh] 27)) os d) (fun i _ => bs.length - (intOf i).toNat)
    case atStart => exact ⟨0, _, _, Nat.zero_le _, rfl, (rfl : brTo ks bs 0 = true), mo_mo _ _ _ _ _⟩
    case round =>
      obtain ⟨k, os, d, hk', rfl, HB, rfl⟩ := hrel
      by_cases hlt : k < bs.length
      · obtain ⟨b, off, rfl, hb3, hcb⟩ := hbs.at v2 hlt
        have g0 : (0 : Int) ≤ (k : Int) := by omega
        have g1 : (k : Int) < (bs.length : Int) := by omega
        have I1 := Lib.hid (fun W (hW : Below B1 W1 W) => l04Has_any hk ck W hW (el bs k))
        have hbr0 : brAt ks bs k = (hasL ks (el bs k) ks.length && !decide (el ks 0 = el bs k)) := rfl
        cases hh : hasL ks (el bs k) ks.length
        · have HR : Hid (toldB (can xs log fl fh) log.length ks bs cost = false) := toldB_b (brTo_no hlt (by rw [hbr0, hh]; rfl))
          clear hbr0
          go_wp2
          (refine wp_region_mq (by kernel_rfl) (by kernel_rfl) ?_; (repeat (first | go_big_quiet_step ((first | (go_at_call 117; ((with_reducible refine quietSb (I1.out _ ?_) hh) <;> (repeat' (first | (with_reducible first | assumption | exact Below.refl _ _ | refine Below.drew ?_ | refine Below.alloc ?_ ?_ _ | refine Below.setCell ?_ ?_ _ | refine below_setR ?_ ?_ _ | refine below_dn ?_ _ | refine Below.trans ?_ (below_mo _ _ _ ?_) | refine Below.trans ?_ (below_mq _ _ ?_) | exact Nat.le_refl _) | (simp; done) | (simp; omega) | omega)))))) | quiet_step ((first | (go_at_call 117; ((with_reducible refine quietSb (I1.out _ ?_) hh) <;> (repeat' (first | (with_reducible first | assumption | exact Below.refl _ _ | refine Below.drew ?_ | refine Below.alloc ?_ ?_ _ | refine Below.setCell ?_ ?_ _ | refine below_setR ?_ ?_ _ | refine below_dn ?_ _ | refine Below.trans ?_ (below_mo _ _ _ ?_) | refine Below.trans ?_ (below_mq _ _ ?_) | exact Nat.le_refl _) | (simp; done) | (simp; omega) | omega)))))))); refine wpQuiet_nil ?_; intro _ hq_; obtain ⟨q_, rfl⟩ := hq_)
          go_wp2
          go_ret
          exact ⟨by rw [HR.out]; first | done | rfl, (by repeat' (first | (with_reducible first | assumption | exact Below.refl _ _ | refine Below.drew ?_ | refine Below.alloc ?_ ?_ _ | refine Below.setCell ?_ ?_ _ | refine below_setR ?_ ?_ _ | refine below_dn ?_ _ | refine Below.trans ?_ (below_mo _ _ _ ?_) | refine Below.trans ?_ (below_mq _ _ ?_) | exact Nat.le_refl _) | (simp; done) | (simp; omega) | omega))⟩
        · obtain ⟨b0, off0, rfl, hb4, hc0_⟩ := hk.at v1 (k := 0) (hasL_pos hh)
          have hc0 : w.cell? ⟨b0, off0, none⟩ = some (.int .i64 (el ks 0)) := hc0_
          have q0 : (0 : Int) < (ks.length : Int) := by have := hasL_pos hh; omega
          have q1 : 0 < ks.length := hasL_pos hh
          clear hc0_
          by_cases hz : el bs k = el ks 0
          · have HR : Hid (toldB (can xs log fl fh) log.length ks bs cost = false) := toldB_b (brTo_no hlt (by rw [hbr0, hh, decide_eq_true hz.symm]; rfl))
            have b5 : (el bs k == el ks 0) = true := beq_iff_eq.2 hz
            clear hbr0 hz
            go_wp2
            (refine wp_region_mq (by kernel_rfl) (by kernel_rfl) ?_; (repeat (first | go_big_quiet_step ((first | (go_at_call 117; ((with_reducible refine quietSb (I1.out _ ?_) hh) <;> (repeat' (first | (with_reducible first | assumption | exact Below.refl _ _ | refine Below.drew ?_ | refine Below.alloc ?_ ?_ _ | refine Below.setCell ?_ ?_ _ | refine below_setR ?_ ?_ _ | refine below_dn ?_ _ | refine Below.trans ?_ (below_mo _ _ _ ?_) | refine Below.trans ?_ (below_mq _ _ ?_) | exact Nat.le_refl _) | (simp; done) | (simp; omega) | omega)))))) | quiet_step ((first | (go_at_call 117; ((with_reducible refine quietSb (I1.out _ ?_) hh) <;> (repeat' (first | (with_reducible first | assumption | exact Below.refl _ _ | refine Below.drew ?_ | refine Below.alloc ?_ ?_ _ | refine Below.setCell ?_ ?_ _ | refine below_setR ?_ ?_ _ | refine below_dn ?_ _ | refine Below.trans ?_ (below_mo _ _ _ ?_) | refine Below.trans ?_ (below_mq _ _ ?_) | exact Nat.le_refl _) | (simp; done) | (simp; omega) | omega)))))))); refine wpQuiet_nil ?_; intro _ hq_; obtain ⟨q_, rfl⟩ := hq_)
            go_wp2
            go_ret
            exact ⟨by rw [HR.out]; first | done | rfl, (by repeat' (first | (with_reducible first | assumption | exact Below.refl _ _ | refine Below.drew ?_ | refine Below.alloc ?_ ?_ _ | refine Below.setCell ?_ ?_ _ | refine below_setR ?_ ?_ _ | refine below_dn ?_ _ | refine Below.trans ?_ (below_mo _ _ _ ?_) | refine Below.trans ?_ (below_mq _ _ ?_) | exact Nat.le_refl _) | (simp; done) | (simp; omega) | omega))⟩
          · have HN := Lib.hid (brTo_up HB.out (by rw [hbr0, hh, decide_eq_false (fun h => hz h.symm)]; rfl))
            have b5 : (el bs k == el ks 0) = false := beq_eq_false_iff_ne.2 hz
            clear hbr0
            go_wp2
            (refine wp_region_mq (by kernel_rfl) (by kernel_rfl) ?_; (repeat (first | go_big_quiet_step ((first | (go_at_call 117; ((with_reducible refine quietSb (I1.out _ ?_) hh) <;> (repeat' (first | (with_reducible first | assumption | exact Below.refl _ _ | refine Below.drew ?_ | refine Below.alloc ?_ ?_ _ | refine Below.setCell ?_ ?_ _ | refine below_setR ?_ ?_ _ | refine below_dn ?_ _ | refine Below.trans ?_ (below_mo _ _ _ ?_) | refine Below.trans ?_ (below_mq _ _ ?_) | exact Nat.le_refl _) | (simp; done) | (simp; omega) | omega)))))) | quiet_step ((first | (go_at_call 117; ((with_reducible refine quietSb (I1.out _ ?_) hh) <;> (repeat' (first | (with_reducible first | assumption | exact Below.refl _ _ | refine Below.drew ?_ | refine Below.alloc ?_ ?_ _ | refine Below.setCell ?_ ?_ _ | refine below_setR ?_ ?_ _ | refine below_dn ?_ _ | refine Below.trans ?_ (below_mo _ _ _ ?_) | refine Below.trans ?_ (below_mq _ _ ?_) | exact Nat.le_refl _) | (simp; done) | (simp; omega) | omega)))))))); refine wpQuiet_nil ?_; intro _ hq_; obtain ⟨q_, rfl⟩ := hq_)
            go_wp2
            exact ⟨rel_kb (f := can xs log fl fh) hlt HN (mo_of (by repeat' (first | (with_reducible first | assumption | exact Below.refl _ _ | refine Below.drew ?_ | refine Below.alloc ?_ ?_ _ | refine Below.setCell ?_ ?_ _ | refine below_setR ?_ ?_ _ | refine below_dn ?_ _ | refine Below.trans ?_ (below_mo _ _ _ ?_) | refine Below.trans ?_ (below_mq _ _ ?_) | exact Nat.le_refl _) | (simp; done) | (simp; omega) | omega))), by simp [intOf]; omega⟩
      · have HBE : Hid (brTo ks bs bs.length = true) := by
          have e : k = bs.length := by omega
          unfold Hid; rw [← e]; exact HB.out
        clear HB
        go_wp2
        go_loopw [12] (fun i wr => ∃ (k : Nat) (os : Array Obj) (d : Nat), 1 ≤ k ∧ (k ≤ ks.length ∨ k = 1) ∧ i = .int .i64 (k : Int) ∧ Hid (stTo (can xs log fl fh) ks bs k = true) ∧ wr = mo (w.alloc (.cells #[.int .i64 fl, .int .i64 fh] 27)) os d) (fun i _ => ks.length - (intOf i).toNat)
        case atStart => exact ⟨1, _, _, Nat.le_refl _, .inr rfl, rfl, (rfl : stTo (can xs log fl fh) ks bs 1 = true), rfl⟩
        case round =>
          obtain ⟨k, os, d, hk1, hk2, rfl, HS, rfl⟩ := hrel
          by_cases hlt2 : k < ks.length
          · obtain ⟨j, hjk⟩ : ∃ j, j + 1 = k := ⟨k - 1, by omega⟩
            obtain ⟨b, off, rfl, hb3, hc1⟩ := hk.at v1 hlt2
            obtain ⟨b', off', he, _, hc0⟩ := hk.at v1 (k := j) (by omega)
            obtain ⟨rfl, rfl⟩ := addr_same he
            clear he
            obtain ⟨q0, q1⟩ := rs_bd E1.out hlt2
            obtain ⟨p0, p1'⟩ := rs_bd E1.out (k := j) (by omega)
            have hpq := rs_lt E1.out hjk hlt2
            obtain ⟨q, hq⟩ := Int.eq_ofNat_of_zero_le q0
            obtain ⟨p, hp⟩ := Int.eq_ofNat_of_zero_le p0
            have hst := stAt_s (f := can xs log fl fh) (bs := bs) hjk hp hq
            have C1 := Lib.hid (fun W (hW : Below B2 W2 W) => l04Has_any hbs cb W hW (el ks k))
            rw [hp] at hc0
            have HQ := Lib.hid hq
            have e1 : IntKind.i64.wrap ((k : Int) - 1) = (j : Int) := (IntWalk.i64_in _ ⟨by omega, by omega⟩).trans (by omega)
            have g0 : (0 : Int) ≤ (k : Int) := by omega
            have g1 : (k : Int) < (ks.length : Int) := by omega
            have g2 : (0 : Int) ≤ (j : Int) := by omega
            have g3 : (j : Int) < (ks.length : Int) := by omega
            have F1 := Lib.hid (fun W hW hV => FT.out W hW hV p q (by omega) (by omega))
            rw [hq] at hc1
            have C2 : Hid (∀ W, Below B2 W2 W → Calls Try.prog 117 #[.slice Ab bs.length cb, .int .i64 (q : Int)] W fun e w' => e = .returned (.bool (hasL bs (el ks k) bs.length)) ∧ W = w') := by
              unfold Hid
              intro W hW
              have := C1.out W hW
              rw [HQ.out] at this
              rw [HQ.out]
              exact this
            have HJ := Lib.hid hjk
            clear hq hp hjk hpq C1
            cases hh : hasL bs (el ks k) bs.length
            · cases hf : can xs log fl fh p q
              · have HR := Lib.hid (toldB_c (m := log.length) (cost := cost) (stTo_no hlt2 (hst.trans (by rw [hh, hf]; rfl))))
                clear hst
                go_wp2
                (refine wp_region_mq (by kernel_rfl) (by kernel_rfl) ?_; (repeat (first | go_big_quiet_step ((first | (go_at_call 117; ((with_reducible refine quietSb (C2.out _ ?_) hh) <;> (repeat' (first | (with_reducible first | assumption | exact Below.refl _ _ | refine Below.drew ?_ | refine Below.alloc ?_ ?_ _ | refine Below.setCell ?_ ?_ _ | refine below_setR ?_ ?_ _ | refine below_dn ?_ _ | refine Below.trans ?_ (below_mo _ _ _ ?_) | refine Below.trans ?_ (below_mq _ _ ?_) | exact Nat.le_refl _) | (simp; done) | (simp; omega) | omega)))) | (go_at_call 100; ((with_reducible refine quietQb (F1.out _ ?_ ?_) hf) <;> (repeat' (first | (with_reducible first | assumption | exact Below.refl _ _ | refine Below.drew ?_ | refine Below.alloc ?_ ?_ _ | refine Below.setCell ?_ ?_ _ | refine below_setR ?_ ?_ _ | refine below_dn ?_ _ | refine Below.trans ?_ (below_mo _ _ _ ?_) | refine Below.trans ?_ (below_mq _ _ ?_) | exact Nat.le_refl _) | (simp; done) | (simp; omega) | omega)))))) | quiet_step ((first | (go_at_call 117; ((with_reducible refine quietSb (C2.out _ ?_) hh) <;> (repeat' (first | (with_reducible first | assumption | exact Below.refl _ _ | refine Below.drew ?_ | refine Below.alloc ?_ ?_ _ | refine Below.setCell ?_ ?_ _ | refine below_setR ?_ ?_ _ | refine below_dn ?_ _ | refine Below.trans ?_ (below_mo _ _ _ ?_) | refine Below.trans ?_ (below_mq _ _ ?_) | exact Nat.le_refl _) | (simp; done) | (simp; omega) | omega)))) | (go_at_call 100; ((with_reducible refine quietQb (F1.out _ ?_ ?_) hf) <;> (repeat' (first | (with_reducible first | assumption | exact Below.refl _ _ | refine Below.drew ?_ | refine Below.alloc ?_ ?_ _ | refine Below.setCell ?_ ?_ _ | refine below_setR ?_ ?_ _ | refine below_dn ?_ _ | refine Below.trans ?_ (below_mo _ _ _ ?_) | refine Below.trans ?_ (below_mq _ _ ?_) | exact Nat.le_refl _) | (simp; done) | (simp; omega) | omega)))))))); refine wpQuiet_nil ?_; intro _ hq_; obtain ⟨q_, rfl⟩ := hq_)
                go_wp2
                go_ret
                exact ⟨by rw [HR.out]; first | done | rfl, (by repeat' (first | (with_reducible first | assumption | exact Below.refl _ _ | refine Below.drew ?_ | refine Below.alloc ?_ ?_ _ | refine Below.setCell ?_ ?_ _ | refine below_setR ?_ ?_ _ | refine below_dn ?_ _ | refine Below.trans ?_ (below_mo _ _ _ ?_) | refine Below.trans ?_ (below_mq _ _ ?_) | exact Nat.le_refl _) | (simp; done) | (simp; omega) | omega))⟩
              · have HN := Lib.hid (stTo_up HS.out (hst.trans (by rw [hf, Bool.or_true])))
                clear hst
                go_wp2
                (refine wp_region_mq (by kernel_rfl) (by kernel_rfl) ?_; (repeat (first | go_big_quiet_step ((first | (go_at_call 117; ((with_reducible refine quietSb (C2.out _ ?_) hh) <;> (repeat' (first | (with_reducible first | assumption | exact Below.refl _ _ | refine Below.drew ?_ | refine Below.alloc ?_ ?_ _ | refine Below.setCell ?_ ?_ _ | refine below_setR ?_ ?_ _ | refine below_dn ?_ _ | refine Below.trans ?_ (below_mo _ _ _ ?_) | refine Below.trans ?_ (below_mq _ _ ?_) | exact Nat.le_refl _) | (simp; done) | (simp; omega) | omega)))) | (go_at_call 100; ((with_reducible refine quietQb (F1.out _ ?_ ?_) hf) <;> (repeat' (first | (with_reducible first | assumption | exact Below.refl _ _ | refine Below.drew ?_ | refine Below.alloc ?_ ?_ _ | refine Below.setCell ?_ ?_ _ | refine below_setR ?_ ?_ _ | refine below_dn ?_ _ | refine Below.trans ?_ (below_mo _ _ _ ?_) | refine Below.trans ?_ (below_mq _ _ ?_) | exact Nat.le_refl _) | (simp; done) | (simp; omega) | omega)))))) | quiet_step ((first | (go_at_call 117; ((with_reducible refine quietSb (C2.out _ ?_) hh) <;> (repeat' (first | (with_reducible first | assumption | exact Below.refl _ _ | refine Below.drew ?_ | refine Below.alloc ?_ ?_ _ | refine Below.setCell ?_ ?_ _ | refine below_setR ?_ ?_ _ | refine below_dn ?_ _ | refine Below.trans ?_ (below_mo _ _ _ ?_) | refine Below.trans ?_ (below_mq _ _ ?_) | exact Nat.le_refl _) | (simp; done) | (simp; omega) | omega)))) | (go_at_call 100; ((with_reducible refine quietQb (F1.out _ ?_ ?_) hf) <;> (repeat' (first | (with_reducible first | assumption | exact Below.refl _ _ | refine Below.drew ?_ | refine Below.alloc ?_ ?_ _ | refine Below.setCell ?_ ?_ _ | refine below_setR ?_ ?_ _ | refine below_dn ?_ _ | refine Below.trans ?_ (below_mo _ _ _ ?_) | refine Below.trans ?_ (below_mq _ _ ?_) | exact Nat.le_refl _) | (simp; done) | (simp; omega) | omega)))))))); refine wpQuiet_nil ?_; intro _ hq_; obtain ⟨q_, rfl⟩ := hq_)
                go_wp2
                exact ⟨rel_ka hlt2 hk1 HN (mo_of (by repeat' (first | (with_reducible first | assumption | exact Below.refl _ _ | refine Below.drew ?_ | refine Below.alloc ?_ ?_ _ | refine Below.setCell ?_ ?_ _ | refine below_setR ?_ ?_ _ | refine below_dn ?_ _ | refine Below.trans ?_ (below_mo _ _ _ ?_) | refine Below.trans ?_ (below_mq _ _ ?_) | exact Nat.le_refl _) | (simp; done) | (simp; omega) | omega))), by simp [intOf]; omega⟩
            · have HN := Lib.hid (stTo_up HS.out (hst.trans (by rw [hh]; rfl)))
              clear hst
              go_wp2
              (refine wp_region_mq (by kernel_rfl) (by kernel_rfl) ?_; (repeat (first | go_big_quiet_step ((first | (go_at_call 117; ((with_reducible refine quietSb (C2.out _ ?_) hh) <;> (repeat' (first | (with_reducible first | assumption | exact Below.refl _ _ | refine Below.drew ?_ | refine Below.alloc ?_ ?_ _ | refine Below.setCell ?_ ?_ _ | refine below_setR ?_ ?_ _ | refine below_dn ?_ _ | refine Below.trans ?_ (below_mo _ _ _ ?_) | refine Below.trans ?_ (below_mq _ _ ?_) | exact Nat.le_refl _) | (simp; done) | (simp; omega) | omega)))))) | quiet_step ((first | (go_at_call 117; ((with_reducible refine quietSb (C2.out _ ?_) hh) <;> (repeat' (first | (with_reducible first | assumption | exact Below.refl _ _ | refine Below.drew ?_ | refine Below.alloc ?_ ?_ _ | refine Below.setCell ?_ ?_ _ | refine below_setR ?_ ?_ _ | refine below_dn ?_ _ | refine Below.trans ?_ (below_mo _ _ _ ?_) | refine Below.trans ?_ (below_mq _ _ ?_) | exact Nat.le_refl _) | (simp; done) | (simp; omega) | omega)))))))); refine wpQuiet_nil ?_; intro _ hq_; obtain ⟨q_, rfl⟩ := hq_)
              go_wp2
              exact ⟨rel_ka hlt2 hk1 HN (mo_of (by repeat' (first | (with_reducible first | assumption | exact Below.refl _ _ | refine Below.drew ?_ | refine Below.alloc ?_ ?_ _ | refine Below.setCell ?_ ?_ _ | refine below_setR ?_ ?_ _ | refine below_dn ?_ _ | refine Below.trans ?_ (below_mo _ _ _ ?_) | refine Below.trans ?_ (below_mq _ _ ?_) | exact Nat.le_refl _) | (simp; done) | (simp; omega) | omega))), by simp [intOf]; omega⟩
          · have HSE : Hid (stTo (can xs log fl fh) ks bs ks.length = true) := by
              unfold Hid
              by_cases e : k = ks.length
              · rw [← e]; exact HS.out
              · have : ks.length = 0 := by omega
                rw [this]; rfl
            have HR := Lib.hid (toldB_d (cost := cost) HA.out HBE.out HSE.out)
            have w0 : IntKind.i64.wrap ((log.length : Int) - (ks.length : Int)) = (log.length : Int) - (ks.length : Int) := IntWalk.i64_in _ ⟨by omega, by omega⟩
            have w1 : IntKind.i64.wrap (1 * ((log.length : Int) - (ks.length : Int))) = (log.length : Int) - (ks.length : Int) := (IntWalk.i64_in _ ⟨by omega, by omega⟩).trans (by omega)
            have w2 : IntKind.i64.wrap (2 * (bs.length : Int)) = 2 * (bs.length : Int) := IntWalk.i64_in _ ⟨by omega, by omega⟩
            have w3 : IntKind.i64.wrap ((log.length : Int) - (ks.length : Int) + 2 * (bs.length : Int)) = (log.length : Int) - (ks.length : Int) + 2 * (bs.length : Int) := IntWalk.i64_in _ ⟨by omega, by omega⟩
            go_wp2
            (refine wp_region_mq (by kernel_rfl) (by kernel_rfl) ?_; (repeat (first | go_big_quiet_step ((fail)) | quiet_step ((fail)))); refine wpQuiet_nil ?_; intro _ hq_; obtain ⟨q_, rfl⟩ := hq_)
            go_wp2
            go_ret
            exact ⟨by rw [HR.out]; rfl, (by repeat' (first | (with_reducible first | assumption | exact Below.refl _ _ | refine Below.drew ?_ | refine Below.alloc ?_ ?_ _ | refine Below.setCell ?_ ?_ _ | refine below_setR ?_ ?_ _ | refine below_dn ?_ _ | refine Below.trans ?_ (below_mo _ _ _ ?_) | refine Below.trans ?_ (below_mq _ _ ?_) | exact Nat.le_refl _) | (simp; done) | (simp; omega) | omega))⟩
  · have b1 : ((ks.length : Int) == 0) = true := beq_iff_eq.2 (by omega)
    have b2 : ¬ (0 : Int) < (log.length : Int) := by omega
    go_enter Try.func114, Try.ntmps114
    (go_wp2_with fail; refine (R1.out _ (by repeat' (first | (with_reducible first | assumption | exact Below.refl _ _ | refine Below.drew ?_ | refine Below.alloc ?_ ?_ _ | refine Below.setCell ?_ ?_ _ | refine below_setR ?_ ?_ _ | refine below_dn ?_ _ | refine Below.trans ?_ (below_mo _ _ _ ?_) | refine Below.trans ?_ (below_mq _ _ ?_) | exact Nat.le_refl _) | (simp; done) | (simp; omega) | omega))).mono ?_; rintro e w' ⟨rfl, hb_⟩; rw [E1.out]; obtain ⟨os1, d1, rfl⟩ := mo_of hb_; clear hb_)
    (go_wp2_with fail; refine (R2.out _ (by repeat' (first | (with_reducible first | assumption | exact Below.refl _ _ | refine Below.drew ?_ | refine Below.alloc ?_ ?_ _ | refine Below.setCell ?_ ?_ _ | refine below_setR ?_ ?_ _ | refine below_dn ?_ _ | refine Below.trans ?_ (below_mo _ _ _ ?_) | refine Below.trans ?_ (below_mq _ _ ?_) | exact Nat.le_refl _) | (simp; done) | (simp; omega) | omega))).mono ?_; rintro e w' ⟨rfl, hb_⟩; rw [E2.out]; obtain ⟨os2, d2, rfl⟩ := mo_of hb_; clear hb_)
    go_wp2
    go_loopw [11] (fun i wr => ∃ (k : Nat) (os : Array Obj) (d : Nat), k ≤ bs.length ∧ i = .int .i64 (k : Int) ∧ Hid (brTo ks bs k = true) ∧ wr = mo (w.alloc (.cells #[.int .i64 fl, .int .i64 fh] 27)) os d) (fun i _ => bs.length - (intOf i).toNat)
    case atStart => exact ⟨0, _, _, Nat.zero_le _, rfl, (rfl : brTo ks bs 0 = true), mo_mo _ _ _ _ _⟩
    case round =>
      obtain ⟨k, os, d, hk', rfl, HB, rfl⟩ := hrel
      by_cases hlt : k < bs.length
      · obtain ⟨b, off, rfl, hb3, hcb⟩ := hbs.at v2 hlt
        have g0 : (0 : Int) ≤ (k : Int) := by omega
        have g1 : (k : Int) < (bs.length : Int) := by omega
        have I1 := Lib.hid (fun W (hW : Below B1 W1 W) => l04Has_any hk ck W hW (el bs k))
        have hbr0 : brAt ks bs k = (hasL ks (el bs k) ks.length && !decide (el ks 0 = el bs k)) := rfl
        cases hh : hasL ks (el bs k) ks.length
        · have HR : Hid (toldB (can xs log fl fh) log.length ks bs cost = false) := toldB_b (brTo_no hlt (by rw [hbr0, hh]; rfl))
          clear hbr0
          go_wp2
          (refine wp_region_mq (by kernel_rfl) (by kernel_rfl) ?_; (repeat (first | go_big_quiet_step ((first | (go_at_call 117; ((with_reducible refine quietSb (I1.out _ ?_) hh) <;> (repeat' (first | (with_reducible first | assumption | exact Below.refl _ _ | refine Below.drew ?_ | refine Below.alloc ?_ ?_ _ | refine Below.setCell ?_ ?_ _ | refine below_setR ?_ ?_ _ | refine below_dn ?_ _ | refine Below.trans ?_ (below_mo _ _ _ ?_) | refine Below.trans ?_ (below_mq _ _ ?_) | exact Nat.le_refl _) | (simp; done) | (simp; omega) | omega)))))) | quiet_step ((first | (go_at_call 117; ((with_reducible refine quietSb (I1.out _ ?_) hh) <;> (repeat' (first | (with_reducible first | assumption | exact Below.refl _ _ | refine Below.drew ?_ | refine Below.alloc ?_ ?_ _ | refine Below.setCell ?_ ?_ _ | refine below_setR ?_ ?_ _ | refine below_dn ?_ _ | refine Below.trans ?_ (below_mo _ _ _ ?_) | refine Below.trans ?_ (below_mq _ _ ?_) | exact Nat.le_refl _) | (simp; done) | (simp; omega) | omega)))))))); refine wpQuiet_nil ?_; intro _ hq_; obtain ⟨q_, rfl⟩ := hq_)
          go_wp2
          go_ret
          exact ⟨by rw [HR.out]; first | done | rfl, (by repeat' (first | (with_reducible first | assumption | exact Below.refl _ _ | refine Below.drew ?_ | refine Below.alloc ?_ ?_ _ | refine Below.setCell ?_ ?_ _ | refine below_setR ?_ ?_ _ | refine below_dn ?_ _ | refine Below.trans ?_ (below_mo _ _ _ ?_) | refine Below.trans ?_ (below_mq _ _ ?_) | exact Nat.le_refl _) | (simp; done) | (simp; omega) | omega))⟩
        · exfalso
          have := hasL_pos hh
          omega
      · have HBE : Hid (brTo ks bs bs.length = true) := by
          have e : k = bs.length := by omega
          unfold Hid; rw [← e]; exact HB.out
        clear HB
        go_wp2
        go_loopw [12] (fun i wr => ∃ (k : Nat) (os : Array Obj) (d : Nat), 1 ≤ k ∧ (k ≤ ks.length ∨ k = 1) ∧ i = .int .i64 (k : Int) ∧ Hid (stTo (can xs log fl fh) ks bs k = true) ∧ wr = mo (w.alloc (.cells #[.int .i64 fl, .int .i64 fh] 27)) os d) (fun i _ => ks.length - (intOf i).toNat)
        case atStart => exact ⟨1, _, _, Nat.le_refl _, .inr rfl, rfl, (rfl : stTo (can xs log fl fh) ks bs 1 = true), rfl⟩
        case round =>
          obtain ⟨k, os, d, hk1, hk2, rfl, HS, rfl⟩ := hrel
          by_cases hlt2 : k < ks.length
          · exfalso
            omega
          · have HSE : Hid (stTo (can xs log fl fh) ks bs ks.length = true) := by
              unfold Hid
              by_cases e : k = ks.length
              · rw [← e]; exact HS.out
              · have : ks.length = 0 := by omega
                rw [this]; rfl
            have HR := Lib.hid (toldB_d (cost := cost) HA.out HBE.out HSE.out)
            have w0 : IntKind.i64.wrap ((log.length : Int) - (ks.length : Int)) = (log.length : Int) - (ks.length : Int) := IntWalk.i64_in _ ⟨by omega, by omega⟩
            have w1 : IntKind.i64.wrap (1 * ((log.length : Int) - (ks.length : Int))) = (log.length : Int) - (ks.length : Int) := (IntWalk.i64_in _ ⟨by omega, by omega⟩).trans (by omega)
            have w2 : IntKind.i64.wrap (2 * (bs.length : Int)) = 2 * (bs.length : Int) := IntWalk.i64_in _ ⟨by omega, by omega⟩
            have w3 : IntKind.i64.wrap ((log.length : Int) - (ks.length : Int) + 2 * (bs.length : Int)) = (log.length : Int) - (ks.length : Int) + 2 * (bs.length : Int) := IntWalk.i64_in _ ⟨by omega, by omega⟩
            go_wp2
            (refine wp_region_mq (by kernel_rfl) (by kernel_rfl) ?_; (repeat (first | go_big_quiet_step ((fail)) | quiet_step ((fail)))); refine wpQuiet_nil ?_; intro _ hq_; obtain ⟨q_, rfl⟩ := hq_)
            go_wp2
            go_ret
            exact ⟨by rw [HR.out]; rfl, (by repeat' (first | (with_reducible first | assumption | exact Below.refl _ _ | refine Below.drew ?_ | refine Below.alloc ?_ ?_ _ | refine Below.setCell ?_ ?_ _ | refine below_setR ?_ ?_ _ | refine below_dn ?_ _ | refine Below.trans ?_ (below_mo _ _ _ ?_) | refine Below.trans ?_ (below_mq _ _ ?_) | exact Nat.le_refl _) | (simp; done) | (simp; omega) | omega))⟩
end Go.Proofs.Ytcaaljcfdahpaaa.X
