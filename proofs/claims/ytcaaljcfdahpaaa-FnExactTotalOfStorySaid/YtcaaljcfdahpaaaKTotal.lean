/- TotalOfStory, both answers. Conditions: none. -/
import Derived.Test.YtcaaljcfdahpaaaKCheck
namespace Go.Proofs.Ytcaaljcfdahpaaa.X
open Go.RowKit
set_option linter.unusedVariables false
set_option linter.unusedSimpArgs false
set_option maxRecDepth 100000
theorem stTo_all {f : Nat → Nat → Bool} {ks bs : List Int} : ∀ {n : Nat}, stTo f ks bs n = true → ∀ k : Nat, k < n → stAt f ks bs k = true
  | 0, _, k, hk => absurd hk (by omega)
  | n + 1, h, k, hk => by
    unfold stTo at h
    rw [Bool.and_eq_true] at h
    by_cases e : k = n
    · subst e; exact h.2
    · exact stTo_all h.1 k (by omega)
theorem toldB_t {f : Nat → Nat → Bool} {m : Nat} {ks bs : List Int} {cost : Int} (h : toldB f m ks bs cost = true) : rsTo ks m ks.length = true ∧ stTo f ks bs ks.length = true := by
  unfold toldB at h
  simp only [Bool.and_eq_true] at h
  exact ⟨h.1.1.1, h.2.2.1⟩
def tLow (xs : List Int) (log : List (Int × Int)) (fl : Int) (a b : Int) : Int := cLow xs (p1 log a) (p2 log a) (p1 log b) (p2 log b) fl
def tHigh (xs : List Int) (log : List (Int × Int)) (fh : Int) (a b : Int) : Int := cHigh xs (p1 log a) (p2 log a) (p1 log b) (p2 log b) fh
/-- the least and the most that the first k readings kept tell of -/
def ttTo (xs : List Int) (log : List (Int × Int)) (fl fh : Int) (ks bs : List Int) : Nat → Int × Int
  | 0 => (0, 0)
  | k + 1 => if (decide (k = 0) || hasL bs (el ks k) bs.length) = true then ttTo xs log fl fh ks bs k else ((ttTo xs log fl fh ks bs k).1 + tLow xs log fl (el ks ((k : Int) - 1)) (el ks k), (ttTo xs log fl fh ks bs k).2 + tHigh xs log fh (el ks ((k : Int) - 1)) (el ks k))
theorem ttTo_no {xs : List Int} {log : List (Int × Int)} {fl fh : Int} {ks bs : List Int} {k : Nat} (h : hasL bs (el ks k) bs.length = true) : ttTo xs log fl fh ks bs (k + 1) = ttTo xs log fl fh ks bs k := by
  show (if _ then _ else _) = _
  rw [if_pos (by rw [h, Bool.or_true])]
theorem ttTo_up {xs : List Int} {log : List (Int × Int)} {fl fh : Int} {ks bs : List Int} {j k p q : Nat} (e : j + 1 = k) (h : hasL bs (el ks k) bs.length = false) (hp : el ks j = (p : Int)) (hq : el ks k = (q : Int)) : ttTo xs log fl fh ks bs (k + 1) = ((ttTo xs log fl fh ks bs k).1 + cLow xs (p1 log p) (p2 log p) (p1 log q) (p2 log q) fl, (ttTo xs log fl fh ks bs k).2 + cHigh xs (p1 log p) (p2 log p) (p1 log q) (p2 log q) fh) := by
  subst e
  show (if _ then _ else _) = _
  rw [if_neg (by rw [h]; simp), show (((j + 1 : Nat) : Int) - 1) = (j : Int) by omega, hp, hq]; rfl
theorem ttTo_1 {xs : List Int} {log : List (Int × Int)} {fl fh : Int} {ks bs : List Int} : ttTo xs log fl fh ks bs 1 = (0, 0) := rfl
/-- what is known of a step that is not broken -/
theorem step_ok {xs : List Int} {log : List (Int × Int)} {fl fh : Int} {ks bs : List Int} (hok : okL xs log = true) (hfl : okF fl fh = true) (h1 : rsTo ks log.length ks.length = true) (h2 : stTo (can xs log fl fh) ks bs ks.length = true) {j k p q : Nat} (e : j + 1 = k) (hk : k < ks.length) (h : hasL bs (el ks k) bs.length = false) (hp : el ks j = (p : Int)) (hq : el ks k = (q : Int)) :
    Fine xs (p1 log p) (p2 log p) (p1 log q) (p2 log q) fl fh ∧ cOk xs (p1 log p) (p2 log p) (p1 log q) (p2 log q) fl fh = true := by
  have a := rs_lt h1 e hk
  have b := rs_bd h1 hk
  have c := stTo_all h2 k hk
  rw [stAt_s e hp hq, h, Bool.false_or] at c
  exact ⟨okL_fine hok hfl (by omega) (by omega), c⟩
theorem cl_bd {xs : List Int} {ad av bd bv fl fh : Int} (h : Fine xs ad av bd bv fl fh) (ho : cOk xs ad av bd bv fl fh = true) : (0 ≤ cLow xs ad av bd bv fl ∧ cLow xs ad av bd bv fl ≤ 2000000000000) ∧ 0 ≤ cHigh xs ad av bd bv fh ∧ cHigh xs ad av bd bv fh ≤ 2000000000000 := by
  have a := h.bd
  have b := h.cs
  have c := h.high ho
  unfold cLow cHigh at *
  omega
theorem ttTo_bd {xs : List Int} {log : List (Int × Int)} {fl fh : Int} {ks bs : List Int} (hok : okL xs log = true) (hfl : okF fl fh = true) (h1 : rsTo ks log.length ks.length = true) (h2 : stTo (can xs log fl fh) ks bs ks.length = true) : ∀ k : Nat, k ≤ ks.length → (0 ≤ (ttTo xs log fl fh ks bs k).1 ∧ (ttTo xs log fl fh ks bs k).1 ≤ k * 2000000000000) ∧ 0 ≤ (ttTo xs log fl fh ks bs k).2 ∧ (ttTo xs log fl fh ks bs k).2 ≤ k * 2000000000000
  | 0, _ => by simp [ttTo]
  | k + 1, hk => by
    have ih := ttTo_bd hok hfl h1 h2 k (by omega)
    rcases Nat.eq_zero_or_pos k with e0 | e0
    · subst e0
      rw [ttTo_1]
      exact ⟨⟨by decide, by decide⟩, by decide, by decide⟩
    · cases hh : hasL bs (el ks k) bs.length
      · obtain ⟨j, hjk⟩ : ∃ j, j + 1 = k := ⟨k - 1, by omega⟩
        obtain ⟨q, hq⟩ := Int.eq_ofNat_of_zero_le (rs_bd h1 (k := k) (by omega)).1
        obtain ⟨p, hp⟩ := Int.eq_ofNat_of_zero_le (rs_bd h1 (k := j) (by omega)).1
        obtain ⟨hf, ho⟩ := step_ok hok hfl h1 h2 hjk (by omega) hh hp hq
        have b := cl_bd hf ho
        rw [ttTo_up hjk hh hp hq]
        refine ⟨⟨?_, ?_⟩, ?_, ?_⟩
        all_goals (dsimp only; omega)
      · rw [ttTo_no hh]
        omega
/-- what TotalOfStory returns -/
def ttV (xs : List Int) (log : List (Int × Int)) (fl fh : Int) (ks bs : List Int) (cost : Int) : Int × Int × Int :=
  if okL xs log && okF fl fh then if toldB (can xs log fl fh) log.length ks bs cost then ((ttTo xs log fl fh ks bs ks.length).1, (ttTo xs log fl fh ks bs ks.length).2, 0) else (0, 0, 4) else (0, 0, 1)
theorem rel_kt {xs : List Int} {log : List (Int × Int)} {fl fh : Int} {ks bs : List Int} {X W : World} {k : Nat} {a b : Int} (hlt : k < ks.length) (h : ttTo xs log fl fh ks bs (k + 1) = (a, b)) (hw : ∃ os d, W = mo X os d) : ∃ (k' : Nat) (os : Array Obj) (d : Nat), 1 ≤ k' ∧ (k' ≤ ks.length ∨ k' = 1) ∧ Value.int .i64 ((k : Int) + 1) = .int .i64 (k' : Int) ∧ Value.int .i64 a = .int .i64 (ttTo xs log fl fh ks bs k').1 ∧ Value.int .i64 b = .int .i64 (ttTo xs log fl fh ks bs k').2 ∧ W = mo X os d := by
  obtain ⟨os, d, e⟩ := hw
  exact ⟨k + 1, os, d, by omega, .inl hlt, by rw [Int.natCast_succ], by rw [h], by rw [h], e⟩
theorem rel_k1 {xs : List Int} {log : List (Int × Int)} {fl fh : Int} {ks bs : List Int} {X W : World} (hw : ∃ os d, W = mo X os d) : ∃ (k' : Nat) (os : Array Obj) (d : Nat), 1 ≤ k' ∧ (k' ≤ ks.length ∨ k' = 1) ∧ Value.int .i64 1 = .int .i64 (k' : Int) ∧ Value.int .i64 0 = .int .i64 (ttTo xs log fl fh ks bs k').1 ∧ Value.int .i64 0 = .int .i64 (ttTo xs log fl fh ks bs k').2 ∧ W = mo X os d := by
  obtain ⟨os, d, e⟩ := hw
  exact ⟨1, os, d, Nat.le_refl _, .inr rfl, rfl, rfl, rfl, e⟩
set_option maxHeartbeats 4000000 in
theorem implTotal_any {A : Option Addr} {xs : List Int} {W : World} {B : Nat} (hs : Nums .u8 W B A xs) (h8 : b8 xs) (n c : Nat) (hn : xs.length = n) (w : World) (hb : Below B W w) {L : Option Addr} {log : List (Int × Int)} {V : World} {C : Nat} (hl : Prs .i64 .i64 V C L log) (cl : Nat) (hv : Below C V w) (fl fh : Int) {Ak : Option Addr} {ks : List Int} {W1 : World} {B1 : Nat} (hk : Nums .i64 W1 B1 Ak ks) (ck : Nat) {Ab : Option Addr} {bs : List Int} {W2 : World} {B2 : Nat} (hbs : Nums .i64 W2 B2 Ab bs) (cb : Nat) (cost : Int) (v1 : Below B1 W1 w) (v2 : Below B2 W2 w) :
    Calls Try.prog 64 #[.slice A n c, .slice L log.length cl, .agg #[.int .i64 fl, .int .i64 fh], .agg #[.slice Ak ks.length ck, .slice Ab bs.length cb, .int .i64 cost]] w fun e w' => e = .returned (.tuple #[.int .i64 (ttV xs log fl fh ks bs cost).1, .int .i64 (ttV xs log fl fh ks bs cost).2.1, .int .i64 (ttV xs log fl fh ks bs cost).2.2]) ∧ Below w.heap.size w w' := by
  obtain rfl := hn
  have hB := hs.bsz hb
  have hC := hl.bsz hv
  have hB1 := hk.bsz v1
  have hB2 := hbs.bsz v2
  have hl1 := hk.len
  have hl2 := hbs.len
  cases h1 : (okL xs log && okF fl fh)
  · have HC : Hid (suC xs log fl fh = 1) := by unfold Hid suC; rw [h1]; rfl
    have HV : Hid (ttV xs log fl fh ks bs cost = (0, 0, 1)) := by unfold Hid ttV; rw [h1]; rfl
    have HO := Lib.hid h1
    clear h1
    go_enter Try.func64, Try.ntmps64
    (go_wp2_with fail; refine (detective_any hs h8 _ _ rfl _ (by repeat' (first | (with_reducible first | assumption | exact Below.refl _ _ | refine Below.drew ?_ | refine Below.alloc ?_ ?_ _ | refine Below.setCell ?_ ?_ _ | refine below_setR ?_ ?_ _ | refine below_dn ?_ _ | refine Below.trans ?_ (below_mo _ _ _ ?_) | refine Below.trans ?_ (below_mq _ _ ?_) | exact Nat.le_refl _) | (simp; done) | (simp; omega) | omega)) hl _ (by repeat' (first | (with_reducible first | assumption | exact Below.refl _ _ | refine Below.drew ?_ | refine Below.alloc ?_ ?_ _ | refine Below.setCell ?_ ?_ _ | refine below_setR ?_ ?_ _ | refine below_dn ?_ _ | refine Below.trans ?_ (below_mo _ _ _ ?_) | refine Below.trans ?_ (below_mq _ _ ?_) | exact Nat.le_refl _) | (simp; done) | (simp; omega) | omega)) fl fh).mono ?_)
    rintro e w1 ⟨hbl, ⟨hok, rfl⟩ | ⟨D, hok, rfl, hDb, hdet⟩⟩
    · obtain ⟨os1, d1, rfl⟩ := mo_of hbl
      clear hbl
      go_wp2
      go_returns
      exact ⟨by rw [HV.out]; first | done | rfl, (by repeat' (first | (with_reducible first | assumption | exact Below.refl _ _ | refine Below.drew ?_ | refine Below.alloc ?_ ?_ _ | refine Below.setCell ?_ ?_ _ | refine below_setR ?_ ?_ _ | refine below_dn ?_ _ | refine Below.trans ?_ (below_mo _ _ _ ?_) | refine Below.trans ?_ (below_mq _ _ ?_) | exact Nat.le_refl _) | (simp; done) | (simp; omega) | omega))⟩
    · rw [HO.out] at hok
      cases hok
  have HC : Hid (suC xs log fl fh = 0) := by unfold Hid suC; rw [h1]; rfl
  have HK := Lib.hid ((Bool.and_eq_true _ _).mp h1)
  have HO := Lib.hid h1
  have h40 : log.length ≤ 40 := (okL_parts ((Bool.and_eq_true _ _).mp h1).1).2.1
  cases h2 : toldB (can xs log fl fh) log.length ks bs cost
  · have HV : Hid (ttV xs log fl fh ks bs cost = (0, 0, 4)) := by unfold Hid ttV; rw [h1, h2]; rfl
    have HT := Lib.hid h2
    clear h1 h2
    go_enter Try.func64, Try.ntmps64
    (go_wp2_with fail; refine (detective_any hs h8 _ _ rfl _ (by repeat' (first | (with_reducible first | assumption | exact Below.refl _ _ | refine Below.drew ?_ | refine Below.alloc ?_ ?_ _ | refine Below.setCell ?_ ?_ _ | refine below_setR ?_ ?_ _ | refine below_dn ?_ _ | refine Below.trans ?_ (below_mo _ _ _ ?_) | refine Below.trans ?_ (below_mq _ _ ?_) | exact Nat.le_refl _) | (simp; done) | (simp; omega) | omega)) hl _ (by repeat' (first | (with_reducible first | assumption | exact Below.refl _ _ | refine Below.drew ?_ | refine Below.alloc ?_ ?_ _ | refine Below.setCell ?_ ?_ _ | refine below_setR ?_ ?_ _ | refine below_dn ?_ _ | refine Below.trans ?_ (below_mo _ _ _ ?_) | refine Below.trans ?_ (below_mq _ _ ?_) | exact Nat.le_refl _) | (simp; done) | (simp; omega) | omega)) fl fh).mono ?_)
    rintro e w1 ⟨hbl, ⟨hok, rfl⟩ | ⟨D, hok, rfl, hDb, hdet⟩⟩
    · rw [HO.out] at hok
      cases hok
    obtain ⟨os1, d1, rfl⟩ := mo_of hbl
    clear hbl
    have T1 := Lib.hid (fun W' hW hX hY => told_any hdet (Nat.le_refl _) hk ck hbs cb cost h40 W' hW hX hY)
    clear hdet
    (go_wp2_with fail; refine (T1.out _ (Below.refl _ _) (by repeat' (first | (with_reducible first | assumption | exact Below.refl _ _ | refine Below.drew ?_ | refine Below.alloc ?_ ?_ _ | refine Below.setCell ?_ ?_ _ | refine below_setR ?_ ?_ _ | refine below_dn ?_ _ | refine Below.trans ?_ (below_mo _ _ _ ?_) | refine Below.trans ?_ (below_mq _ _ ?_) | exact Nat.le_refl _) | (simp; done) | (simp; omega) | omega)) (by repeat' (first | (with_reducible first | assumption | exact Below.refl _ _ | refine Below.drew ?_ | refine Below.alloc ?_ ?_ _ | refine Below.setCell ?_ ?_ _ | refine below_setR ?_ ?_ _ | refine below_dn ?_ _ | refine Below.trans ?_ (below_mo _ _ _ ?_) | refine Below.trans ?_ (below_mq _ _ ?_) | exact Nat.le_refl _) | (simp; done) | (simp; omega) | omega))).mono ?_; rintro e w' ⟨rfl, hb_⟩; rw [HT.out]; obtain ⟨os2, d2, rfl⟩ := mo_of hb_; clear hb_)
    go_wp2
    go_returns
    exact ⟨by rw [HV.out]; first | done | rfl, (by repeat' (first | (with_reducible first | assumption | exact Below.refl _ _ | refine Below.drew ?_ | refine Below.alloc ?_ ?_ _ | refine Below.setCell ?_ ?_ _ | refine below_setR ?_ ?_ _ | refine below_dn ?_ _ | refine Below.trans ?_ (below_mo _ _ _ ?_) | refine Below.trans ?_ (below_mq _ _ ?_) | exact Nat.le_refl _) | (simp; done) | (simp; omega) | omega))⟩
  · have HV : Hid (ttV xs log fl fh ks bs cost = ((ttTo xs log fl fh ks bs ks.length).1, (ttTo xs log fl fh ks bs ks.length).2, 0)) := by unfold Hid ttV; rw [h1, h2]; rfl
    have HT := Lib.hid h2
    have HP := Lib.hid (toldB_t h2)
    have HBD := Lib.hid (ttTo_bd HK.out.1 HK.out.2 HP.out.1 HP.out.2)
    clear h1 h2
    go_enter Try.func64, Try.ntmps64
    (go_wp2_with fail; refine (detective_any hs h8 _ _ rfl _ (by repeat' (first | (with_reducible first | assumption | exact Below.refl _ _ | refine Below.drew ?_ | refine Below.alloc ?_ ?_ _ | refine Below.setCell ?_ ?_ _ | refine below_setR ?_ ?_ _ | refine below_dn ?_ _ | refine Below.trans ?_ (below_mo _ _ _ ?_) | refine Below.trans ?_ (below_mq _ _ ?_) | exact Nat.le_refl _) | (simp; done) | (simp; omega) | omega)) hl _ (by repeat' (first | (with_reducible first | assumption | exact Below.refl _ _ | refine Below.drew ?_ | refine Below.alloc ?_ ?_ _ | refine Below.setCell ?_ ?_ _ | refine below_setR ?_ ?_ _ | refine below_dn ?_ _ | refine Below.trans ?_ (below_mo _ _ _ ?_) | refine Below.trans ?_ (below_mq _ _ ?_) | exact Nat.le_refl _) | (simp; done) | (simp; omega) | omega)) fl fh).mono ?_)
    rintro e w1 ⟨hbl, ⟨hok, rfl⟩ | ⟨D, hok, rfl, hDb, hdet⟩⟩
    · rw [HO.out] at hok
      cases hok
    obtain ⟨os1, d1, rfl⟩ := mo_of hbl
    clear hbl
    have T1 := Lib.hid (fun W' hW hX hY => told_any hdet (Nat.le_refl _) hk ck hbs cb cost h40 W' hW hX hY)
    clear hdet
    (go_wp2_with fail; refine (T1.out _ (Below.refl _ _) (by repeat' (first | (with_reducible first | assumption | exact Below.refl _ _ | refine Below.drew ?_ | refine Below.alloc ?_ ?_ _ | refine Below.setCell ?_ ?_ _ | refine below_setR ?_ ?_ _ | refine below_dn ?_ _ | refine Below.trans ?_ (below_mo _ _ _ ?_) | refine Below.trans ?_ (below_mq _ _ ?_) | exact Nat.le_refl _) | (simp; done) | (simp; omega) | omega)) (by repeat' (first | (with_reducible first | assumption | exact Below.refl _ _ | refine Below.drew ?_ | refine Below.alloc ?_ ?_ _ | refine Below.setCell ?_ ?_ _ | refine below_setR ?_ ?_ _ | refine below_dn ?_ _ | refine Below.trans ?_ (below_mo _ _ _ ?_) | refine Below.trans ?_ (below_mq _ _ ?_) | exact Nat.le_refl _) | (simp; done) | (simp; omega) | omega))).mono ?_; rintro e w' ⟨rfl, hb_⟩; rw [HT.out]; obtain ⟨os2, d2, rfl⟩ := mo_of hb_; clear hb_)
    go_wp2
    go_loopw [12, 13, 14] (fun lo hi i wr => ∃ (k : Nat) (os : Array Obj) (d : Nat), 1 ≤ k ∧ (k ≤ ks.length ∨ k = 1) ∧ i = .int .i64 (k : Int) ∧ lo = .int .i64 (ttTo xs log fl fh ks bs k).1 ∧ hi = .int .i64 (ttTo xs log fl fh ks bs k).2 ∧ wr = mo ((w.alloc (.cells #[.int .i64 fl, .int .i64 fh] 27)).alloc (.cells #[.slice Ak ks.length ck, .slice Ab bs.length cb, .int .i64 cost] 88)) os d) (fun _ _ i _ => ks.length - (intOf i).toNat)
    case atStart => exact rel_k1 (mo_of (by repeat' (first | (with_reducible first | assumption | exact Below.refl _ _ | refine Below.drew ?_ | refine Below.alloc ?_ ?_ _ | refine Below.setCell ?_ ?_ _ | refine below_setR ?_ ?_ _ | refine below_dn ?_ _ | refine Below.trans ?_ (below_mo _ _ _ ?_) | refine Below.trans ?_ (below_mq _ _ ?_) | exact Nat.le_refl _) | (simp; done) | (simp; omega) | omega)))
    case round =>
      obtain ⟨k, os, d, hk1, hk2, rfl, rfl, rfl, rfl⟩ := hrel
      by_cases hlt2 : k < ks.length
      · obtain ⟨j, hjk⟩ : ∃ j, j + 1 = k := ⟨k - 1, by omega⟩
        obtain ⟨b, off, rfl, hb3, hc1⟩ := hk.at v1 hlt2
        obtain ⟨b', off', he, _, hc0⟩ := hk.at v1 (k := j) (by omega)
        obtain ⟨rfl, rfl⟩ := addr_same he
        clear he
        obtain ⟨q0, q1⟩ := rs_bd HP.out.1 hlt2
        obtain ⟨p0, p1'⟩ := rs_bd HP.out.1 (k := j) (by omega)
        obtain ⟨q, hq⟩ := Int.eq_ofNat_of_zero_le q0
        obtain ⟨p, hp⟩ := Int.eq_ofNat_of_zero_le p0
        have hqn : q < log.length := by omega
        have hpn : p < log.length := by omega
        obtain ⟨bl, ofl, rfl, hbl3, ld0, ld1⟩ := hl.at hv hqn
        obtain ⟨bl', ofl', he, _, le0, le1⟩ := hl.at hv hpn
        obtain ⟨rfl, rfl⟩ := addr_same he
        clear he
        have C1 := Lib.hid (fun W (hW : Below B2 W2 W) => contains_any hbs cb W hW (el ks k))
        have HQ := Lib.hid hq
        have C2 : Hid (∀ W, Below B2 W2 W → Calls Try.prog 118 #[.slice Ab bs.length cb, .int .i64 (q : Int)] W fun e w' => e = .returned (.bool (hasL bs (el ks k) bs.length)) ∧ W = w') := by
          unfold Hid
          intro W hW
          have := C1.out W hW
          rw [HQ.out] at this
          rw [HQ.out]
          exact this
        have e1 : IntKind.i64.wrap ((k : Int) - 1) = (j : Int) := (IntWalk.i64_in _ ⟨by omega, by omega⟩).trans (by omega)
        have g0 : (0 : Int) ≤ (k : Int) := by omega
        have g1 : (k : Int) < (ks.length : Int) := by omega
        have g2 : (0 : Int) ≤ (j : Int) := by omega
        have g3 : (j : Int) < (ks.length : Int) := by omega
        have g4 : (0 : Int) ≤ (p : Int) := by omega
        have g5 : (p : Int) < (log.length : Int) := by omega
        have g6 : (0 : Int) ≤ (q : Int) := by omega
        have g7 : (q : Int) < (log.length : Int) := by omega
        have HJ := Lib.hid hjk
        cases hh : hasL bs (el ks k) bs.length
        · have HU := Lib.hid (ttTo_up (xs := xs) (log := log) (fl := fl) (fh := fh) hjk hh hp hq)
          obtain ⟨hfine, hco⟩ := step_ok HK.out.1 HK.out.2 HP.out.1 HP.out.2 hjk hlt2 hh hp hq
          obtain ⟨⟨x0, x1⟩, x2, x3⟩ := cl_bd hfine hco
          obtain ⟨⟨y0, y1⟩, y2, y3⟩ := HBD.out k (by omega)
          have wl : IntKind.i64.wrap ((ttTo xs log fl fh ks bs k).1 + cLow xs (p1 log p) (p2 log p) (p1 log q) (p2 log q) fl) = (ttTo xs log fl fh ks bs k).1 + cLow xs (p1 log p) (p2 log p) (p1 log q) (p2 log q) fl := IntWalk.i64_in _ ⟨by omega, by omega⟩
          have wh : IntKind.i64.wrap ((ttTo xs log fl fh ks bs k).2 + cHigh xs (p1 log p) (p2 log p) (p1 log q) (p2 log q) fh) = (ttTo xs log fl fh ks bs k).2 + cHigh xs (p1 log p) (p2 log p) (p1 log q) (p2 log q) fh := IntWalk.i64_in _ ⟨by omega, by omega⟩
          have KC : Hid (∀ W', Below B W W' → Calls Try.prog 76 #[.slice A xs.length c, .agg #[.int .i64 (p1 log p), .int .i64 (p2 log p)], .agg #[.int .i64 (p1 log q), .int .i64 (p2 log q)], .agg #[.int .i64 fl, .int .i64 fh]] W' fun e w' => e = .returned (.tuple #[.int .i64 (cLow xs (p1 log p) (p2 log p) (p1 log q) (p2 log q) fl), .int .i64 (cHigh xs (p1 log p) (p2 log p) (p1 log q) (p2 log q) fh), .bool true]) ∧ Below W'.heap.size W' w') := fun W' hW => (counts_any hs h8 xs.length c rfl W' hW _ _ _ _ _ _ hfine).mono fun _ _ ⟨h1, h2⟩ => ⟨by rw [h1, hco], h2⟩
          rw [hp] at hc0
          rw [hq] at hc1
          clear hq hp hjk C1 hfine hco
          go_wp2
          (refine wp_region_mq (by kernel_rfl) (by kernel_rfl) ?_; (repeat (first | go_big_quiet_step ((first | (go_at_call 118; ((with_reducible refine quietSb (C2.out _ ?_) hh) <;> (repeat' (first | (with_reducible first | assumption | exact Below.refl _ _ | refine Below.drew ?_ | refine Below.alloc ?_ ?_ _ | refine Below.setCell ?_ ?_ _ | refine below_setR ?_ ?_ _ | refine below_dn ?_ _ | refine Below.trans ?_ (below_mo _ _ _ ?_) | refine Below.trans ?_ (below_mq _ _ ?_) | exact Nat.le_refl _) | (simp; done) | (simp; omega) | omega)))))) | quiet_step ((first | (go_at_call 118; ((with_reducible refine quietSb (C2.out _ ?_) hh) <;> (repeat' (first | (with_reducible first | assumption | exact Below.refl _ _ | refine Below.drew ?_ | refine Below.alloc ?_ ?_ _ | refine Below.setCell ?_ ?_ _ | refine below_setR ?_ ?_ _ | refine below_dn ?_ _ | refine Below.trans ?_ (below_mo _ _ _ ?_) | refine Below.trans ?_ (below_mq _ _ ?_) | exact Nat.le_refl _) | (simp; done) | (simp; omega) | omega)))))))); refine wpQuiet_nil ?_; intro _ hq_; obtain ⟨q_, rfl⟩ := hq_)
          go_wp2
          (refine wp_region_mq (by kernel_rfl) (by kernel_rfl) ?_; (repeat (first | go_big_quiet_step ((first | (go_at_call 76; ((with_reducible refine quietQ (KC.out _ ?_) ) <;> (repeat' (first | (with_reducible first | assumption | exact Below.refl _ _ | refine Below.drew ?_ | refine Below.alloc ?_ ?_ _ | refine Below.setCell ?_ ?_ _ | refine below_setR ?_ ?_ _ | refine below_dn ?_ _ | refine Below.trans ?_ (below_mo _ _ _ ?_) | refine Below.trans ?_ (below_mq _ _ ?_) | exact Nat.le_refl _) | (simp; done) | (simp; omega) | omega)))))) | quiet_step ((first | (go_at_call 76; ((with_reducible refine quietQ (KC.out _ ?_) ) <;> (repeat' (first | (with_reducible first | assumption | exact Below.refl _ _ | refine Below.drew ?_ | refine Below.alloc ?_ ?_ _ | refine Below.setCell ?_ ?_ _ | refine below_setR ?_ ?_ _ | refine below_dn ?_ _ | refine Below.trans ?_ (below_mo _ _ _ ?_) | refine Below.trans ?_ (below_mq _ _ ?_) | exact Nat.le_refl _) | (simp; done) | (simp; omega) | omega)))))))); refine wpQuiet_nil ?_; intro _ hq_; obtain ⟨q_, rfl⟩ := hq_)
          go_wp2
          exact ⟨rel_kt hlt2 HU.out (mo_of (by repeat' (first | (with_reducible first | assumption | exact Below.refl _ _ | refine Below.drew ?_ | refine Below.alloc ?_ ?_ _ | refine Below.setCell ?_ ?_ _ | refine below_setR ?_ ?_ _ | refine below_dn ?_ _ | refine Below.trans ?_ (below_mo _ _ _ ?_) | refine Below.trans ?_ (below_mq _ _ ?_) | exact Nat.le_refl _) | (simp; done) | (simp; omega) | omega))), by simp [intOf]; omega⟩
        · have HU := Lib.hid (ttTo_no (xs := xs) (log := log) (fl := fl) (fh := fh) hh)
          rw [hp] at hc0
          rw [hq] at hc1
          clear hq hp hjk C1
          go_wp2
          (refine wp_region_mq (by kernel_rfl) (by kernel_rfl) ?_; (repeat (first | go_big_quiet_step ((first | (go_at_call 118; ((with_reducible refine quietSb (C2.out _ ?_) hh) <;> (repeat' (first | (with_reducible first | assumption | exact Below.refl _ _ | refine Below.drew ?_ | refine Below.alloc ?_ ?_ _ | refine Below.setCell ?_ ?_ _ | refine below_setR ?_ ?_ _ | refine below_dn ?_ _ | refine Below.trans ?_ (below_mo _ _ _ ?_) | refine Below.trans ?_ (below_mq _ _ ?_) | exact Nat.le_refl _) | (simp; done) | (simp; omega) | omega)))))) | quiet_step ((first | (go_at_call 118; ((with_reducible refine quietSb (C2.out _ ?_) hh) <;> (repeat' (first | (with_reducible first | assumption | exact Below.refl _ _ | refine Below.drew ?_ | refine Below.alloc ?_ ?_ _ | refine Below.setCell ?_ ?_ _ | refine below_setR ?_ ?_ _ | refine below_dn ?_ _ | refine Below.trans ?_ (below_mo _ _ _ ?_) | refine Below.trans ?_ (below_mq _ _ ?_) | exact Nat.le_refl _) | (simp; done) | (simp; omega) | omega)))))))); refine wpQuiet_nil ?_; intro _ hq_; obtain ⟨q_, rfl⟩ := hq_)
          go_wp2
          exact ⟨rel_kt hlt2 HU.out (mo_of (by repeat' (first | (with_reducible first | assumption | exact Below.refl _ _ | refine Below.drew ?_ | refine Below.alloc ?_ ?_ _ | refine Below.setCell ?_ ?_ _ | refine below_setR ?_ ?_ _ | refine below_dn ?_ _ | refine Below.trans ?_ (below_mo _ _ _ ?_) | refine Below.trans ?_ (below_mq _ _ ?_) | exact Nat.le_refl _) | (simp; done) | (simp; omega) | omega))), by simp [intOf]; omega⟩
      · have HE : Hid (ttTo xs log fl fh ks bs k = ttTo xs log fl fh ks bs ks.length) := by
          unfold Hid
          by_cases e : k = ks.length
          · rw [e]
          · have e0 : ks.length = 0 := by omega
            have e1 : k = 1 := by omega
            rw [e0, e1]; rfl
        go_wp2
        go_returns
        exact ⟨by rw [HV.out, HE.out]; first | done | rfl, (by repeat' (first | (with_reducible first | assumption | exact Below.refl _ _ | refine Below.drew ?_ | refine Below.alloc ?_ ?_ _ | refine Below.setCell ?_ ?_ _ | refine below_setR ?_ ?_ _ | refine below_dn ?_ _ | refine Below.trans ?_ (below_mo _ _ _ ?_) | refine Below.trans ?_ (below_mq _ _ ?_) | exact Nat.le_refl _) | (simp; done) | (simp; omega) | omega))⟩
set_option maxHeartbeats 4000000 in
theorem specTotal_any {A : Option Addr} {xs : List Int} {W : World} {B : Nat} (hs : Nums .u8 W B A xs) (h8 : b8 xs) (n c : Nat) (hn : xs.length = n) (w : World) (hb : Below B W w) {L : Option Addr} {log : List (Int × Int)} {V : World} {C : Nat} (hl : Prs .i64 .i64 V C L log) (cl : Nat) (hv : Below C V w) (fl fh : Int) {Ak : Option Addr} {ks : List Int} {W1 : World} {B1 : Nat} (hk : Nums .i64 W1 B1 Ak ks) (ck : Nat) {Ab : Option Addr} {bs : List Int} {W2 : World} {B2 : Nat} (hbs : Nums .i64 W2 B2 Ab bs) (cb : Nat) (cost : Int) (v1 : Below B1 W1 w) (v2 : Below B2 W2 w) :
    Calls Try.prog 63 #[.slice A n c, .slice L log.length cl, .agg #[.int .i64 fl, .int .i64 fh], .agg #[.slice Ak ks.length ck, .slice Ab bs.length cb, .int .i64 cost]] w fun e w' => e = .returned (.tuple #[.int .i64 (ttV xs log fl fh ks bs cost).1, .int .i64 (ttV xs log fl fh ks bs cost).2.1, .int .i64 (ttV xs log fl fh ks bs cost).2.2]) ∧ Below w.heap.size w w' := by
  obtain rfl := hn
  have hB := hs.bsz hb
  have hC := hl.bsz hv
  have hB1 := hk.bsz v1
  have hB2 := hbs.bsz v2
  have hl1 := hk.len
  have hl2 := hbs.len
  cases h1 : (okL xs log && okF fl fh)
  · have HC : Hid (suC xs log fl fh = 1) := by unfold Hid suC; rw [h1]; rfl
    have HV : Hid (ttV xs log fl fh ks bs cost = (0, 0, 1)) := by unfold Hid ttV; rw [h1]; rfl
    have HO := Lib.hid h1
    clear h1
    go_enter Try.func63, Try.ntmps63
    (go_wp2_with fail; refine (l04Asked_any hs h8 _ _ rfl _ (by repeat' (first | (with_reducible first | assumption | exact Below.refl _ _ | refine Below.drew ?_ | refine Below.alloc ?_ ?_ _ | refine Below.setCell ?_ ?_ _ | refine below_setR ?_ ?_ _ | refine below_dn ?_ _ | refine Below.trans ?_ (below_mo _ _ _ ?_) | refine Below.trans ?_ (below_mq _ _ ?_) | exact Nat.le_refl _) | (simp; done) | (simp; omega) | omega)) hl _ (by repeat' (first | (with_reducible first | assumption | exact Below.refl _ _ | refine Below.drew ?_ | refine Below.alloc ?_ ?_ _ | refine Below.setCell ?_ ?_ _ | refine below_setR ?_ ?_ _ | refine below_dn ?_ _ | refine Below.trans ?_ (below_mo _ _ _ ?_) | refine Below.trans ?_ (below_mq _ _ ?_) | exact Nat.le_refl _) | (simp; done) | (simp; omega) | omega)) fl fh).mono ?_; rintro e w' ⟨rfl, hb_⟩; obtain ⟨os0, d0, rfl⟩ := mo_of hb_; clear hb_)
    rw [HC.out]
    go_wp2
    go_returns
    exact ⟨by rw [HV.out]; first | done | rfl, (by repeat' (first | (with_reducible first | assumption | exact Below.refl _ _ | refine Below.drew ?_ | refine Below.alloc ?_ ?_ _ | refine Below.setCell ?_ ?_ _ | refine below_setR ?_ ?_ _ | refine below_dn ?_ _ | refine Below.trans ?_ (below_mo _ _ _ ?_) | refine Below.trans ?_ (below_mq _ _ ?_) | exact Nat.le_refl _) | (simp; done) | (simp; omega) | omega))⟩
  have HC : Hid (suC xs log fl fh = 0) := by unfold Hid suC; rw [h1]; rfl
  have HK := Lib.hid ((Bool.and_eq_true _ _).mp h1)
  have HO := Lib.hid h1
  have h40 : log.length ≤ 40 := (okL_parts ((Bool.and_eq_true _ _).mp h1).1).2.1
  cases h2 : toldB (can xs log fl fh) log.length ks bs cost
  · have HV : Hid (ttV xs log fl fh ks bs cost = (0, 0, 4)) := by unfold Hid ttV; rw [h1, h2]; rfl
    have HT := Lib.hid h2
    clear h1 h2
    go_enter Try.func63, Try.ntmps63
    (go_wp2_with fail; refine (l04Asked_any hs h8 _ _ rfl _ (by repeat' (first | (with_reducible first | assumption | exact Below.refl _ _ | refine Below.drew ?_ | refine Below.alloc ?_ ?_ _ | refine Below.setCell ?_ ?_ _ | refine below_setR ?_ ?_ _ | refine below_dn ?_ _ | refine Below.trans ?_ (below_mo _ _ _ ?_) | refine Below.trans ?_ (below_mq _ _ ?_) | exact Nat.le_refl _) | (simp; done) | (simp; omega) | omega)) hl _ (by repeat' (first | (with_reducible first | assumption | exact Below.refl _ _ | refine Below.drew ?_ | refine Below.alloc ?_ ?_ _ | refine Below.setCell ?_ ?_ _ | refine below_setR ?_ ?_ _ | refine below_dn ?_ _ | refine Below.trans ?_ (below_mo _ _ _ ?_) | refine Below.trans ?_ (below_mq _ _ ?_) | exact Nat.le_refl _) | (simp; done) | (simp; omega) | omega)) fl fh).mono ?_; rintro e w' ⟨rfl, hb_⟩; obtain ⟨os0, d0, rfl⟩ := mo_of hb_; clear hb_)
    rw [HC.out]
    (go_wp2_with fail; refine (l04Told_any hs h8 _ _ rfl _ (by repeat' (first | (with_reducible first | assumption | exact Below.refl _ _ | refine Below.drew ?_ | refine Below.alloc ?_ ?_ _ | refine Below.setCell ?_ ?_ _ | refine below_setR ?_ ?_ _ | refine below_dn ?_ _ | refine Below.trans ?_ (below_mo _ _ _ ?_) | refine Below.trans ?_ (below_mq _ _ ?_) | exact Nat.le_refl _) | (simp; done) | (simp; omega) | omega)) hl _ (by repeat' (first | (with_reducible first | assumption | exact Below.refl _ _ | refine Below.drew ?_ | refine Below.alloc ?_ ?_ _ | refine Below.setCell ?_ ?_ _ | refine below_setR ?_ ?_ _ | refine below_dn ?_ _ | refine Below.trans ?_ (below_mo _ _ _ ?_) | refine Below.trans ?_ (below_mq _ _ ?_) | exact Nat.le_refl _) | (simp; done) | (simp; omega) | omega)) fl fh hk ck hbs cb cost (by repeat' (first | (with_reducible first | assumption | exact Below.refl _ _ | refine Below.drew ?_ | refine Below.alloc ?_ ?_ _ | refine Below.setCell ?_ ?_ _ | refine below_setR ?_ ?_ _ | refine below_dn ?_ _ | refine Below.trans ?_ (below_mo _ _ _ ?_) | refine Below.trans ?_ (below_mq _ _ ?_) | exact Nat.le_refl _) | (simp; done) | (simp; omega) | omega)) (by repeat' (first | (with_reducible first | assumption | exact Below.refl _ _ | refine Below.drew ?_ | refine Below.alloc ?_ ?_ _ | refine Below.setCell ?_ ?_ _ | refine below_setR ?_ ?_ _ | refine below_dn ?_ _ | refine Below.trans ?_ (below_mo _ _ _ ?_) | refine Below.trans ?_ (below_mq _ _ ?_) | exact Nat.le_refl _) | (simp; done) | (simp; omega) | omega)) _ (by first | assumption | (simp [go_sem]; done) | (simp [go_sem, *]; done) | (simp [go_sem]; rfl)) (by first | assumption | (simp [go_sem]; done) | (simp [go_sem, *]; done) | (simp [go_sem]; rfl)) (by first | assumption | (simp [go_sem]; done) | (simp [go_sem, *]; done) | (simp [go_sem]; rfl)) HK.out.1 HK.out.2).mono ?_; rintro e w' ⟨rfl, hb_⟩; rw [HT.out]; obtain ⟨os2, d2, rfl⟩ := mo_of hb_; clear hb_)
    go_wp2
    go_returns
    exact ⟨by rw [HV.out]; first | done | rfl, (by repeat' (first | (with_reducible first | assumption | exact Below.refl _ _ | refine Below.drew ?_ | refine Below.alloc ?_ ?_ _ | refine Below.setCell ?_ ?_ _ | refine below_setR ?_ ?_ _ | refine below_dn ?_ _ | refine Below.trans ?_ (below_mo _ _ _ ?_) | refine Below.trans ?_ (below_mq _ _ ?_) | exact Nat.le_refl _) | (simp; done) | (simp; omega) | omega))⟩
  · have HV : Hid (ttV xs log fl fh ks bs cost = ((ttTo xs log fl fh ks bs ks.length).1, (ttTo xs log fl fh ks bs ks.length).2, 0)) := by unfold Hid ttV; rw [h1, h2]; rfl
    have HT := Lib.hid h2
    have HP := Lib.hid (toldB_t h2)
    have HBD := Lib.hid (ttTo_bd HK.out.1 HK.out.2 HP.out.1 HP.out.2)
    clear h1 h2
    go_enter Try.func63, Try.ntmps63
    (go_wp2_with fail; refine (l04Asked_any hs h8 _ _ rfl _ (by repeat' (first | (with_reducible first | assumption | exact Below.refl _ _ | refine Below.drew ?_ | refine Below.alloc ?_ ?_ _ | refine Below.setCell ?_ ?_ _ | refine below_setR ?_ ?_ _ | refine below_dn ?_ _ | refine Below.trans ?_ (below_mo _ _ _ ?_) | refine Below.trans ?_ (below_mq _ _ ?_) | exact Nat.le_refl _) | (simp; done) | (simp; omega) | omega)) hl _ (by repeat' (first | (with_reducible first | assumption | exact Below.refl _ _ | refine Below.drew ?_ | refine Below.alloc ?_ ?_ _ | refine Below.setCell ?_ ?_ _ | refine below_setR ?_ ?_ _ | refine below_dn ?_ _ | refine Below.trans ?_ (below_mo _ _ _ ?_) | refine Below.trans ?_ (below_mq _ _ ?_) | exact Nat.le_refl _) | (simp; done) | (simp; omega) | omega)) fl fh).mono ?_; rintro e w' ⟨rfl, hb_⟩; obtain ⟨os0, d0, rfl⟩ := mo_of hb_; clear hb_)
    rw [HC.out]
    (go_wp2_with fail; refine (l04Told_any hs h8 _ _ rfl _ (by repeat' (first | (with_reducible first | assumption | exact Below.refl _ _ | refine Below.drew ?_ | refine Below.alloc ?_ ?_ _ | refine Below.setCell ?_ ?_ _ | refine below_setR ?_ ?_ _ | refine below_dn ?_ _ | refine Below.trans ?_ (below_mo _ _ _ ?_) | refine Below.trans ?_ (below_mq _ _ ?_) | exact Nat.le_refl _) | (simp; done) | (simp; omega) | omega)) hl _ (by repeat' (first | (with_reducible first | assumption | exact Below.refl _ _ | refine Below.drew ?_ | refine Below.alloc ?_ ?_ _ | refine Below.setCell ?_ ?_ _ | refine below_setR ?_ ?_ _ | refine below_dn ?_ _ | refine Below.trans ?_ (below_mo _ _ _ ?_) | refine Below.trans ?_ (below_mq _ _ ?_) | exact Nat.le_refl _) | (simp; done) | (simp; omega) | omega)) fl fh hk ck hbs cb cost (by repeat' (first | (with_reducible first | assumption | exact Below.refl _ _ | refine Below.drew ?_ | refine Below.alloc ?_ ?_ _ | refine Below.setCell ?_ ?_ _ | refine below_setR ?_ ?_ _ | refine below_dn ?_ _ | refine Below.trans ?_ (below_mo _ _ _ ?_) | refine Below.trans ?_ (below_mq _ _ ?_) | exact Nat.le_refl _) | (simp; done) | (simp; omega) | omega)) (by repeat' (first | (with_reducible first | assumption | exact Below.refl _ _ | refine Below.drew ?_ | refine Below.alloc ?_ ?_ _ | refine Below.setCell ?_ ?_ _ | refine below_setR ?_ ?_ _ | refine below_dn ?_ _ | refine Below.trans ?_ (below_mo _ _ _ ?_) | refine Below.trans ?_ (below_mq _ _ ?_) | exact Nat.le_refl _) | (simp; done) | (simp; omega) | omega)) _ (by first | assumption | (simp [go_sem]; done) | (simp [go_sem, *]; done) | (simp [go_sem]; rfl)) (by first | assumption | (simp [go_sem]; done) | (simp [go_sem, *]; done) | (simp [go_sem]; rfl)) (by first | assumption | (simp [go_sem]; done) | (simp [go_sem, *]; done) | (simp [go_sem]; rfl)) HK.out.1 HK.out.2).mono ?_; rintro e w' ⟨rfl, hb_⟩; rw [HT.out]; obtain ⟨os2, d2, rfl⟩ := mo_of hb_; clear hb_)
    go_wp2
    go_loopw [12, 13, 14] (fun lo hi i wr => ∃ (k : Nat) (os : Array Obj) (d : Nat), 1 ≤ k ∧ (k ≤ ks.length ∨ k = 1) ∧ i = .int .i64 (k : Int) ∧ lo = .int .i64 (ttTo xs log fl fh ks bs k).1 ∧ hi = .int .i64 (ttTo xs log fl fh ks bs k).2 ∧ wr = mo ((w.alloc (.cells #[.int .i64 fl, .int .i64 fh] 27)).alloc (.cells #[.slice Ak ks.length ck, .slice Ab bs.length cb, .int .i64 cost] 88)) os d) (fun _ _ i _ => ks.length - (intOf i).toNat)
    case atStart => exact rel_k1 (mo_of (by repeat' (first | (with_reducible first | assumption | exact Below.refl _ _ | refine Below.drew ?_ | refine Below.alloc ?_ ?_ _ | refine Below.setCell ?_ ?_ _ | refine below_setR ?_ ?_ _ | refine below_dn ?_ _ | refine Below.trans ?_ (below_mo _ _ _ ?_) | refine Below.trans ?_ (below_mq _ _ ?_) | exact Nat.le_refl _) | (simp; done) | (simp; omega) | omega)))
    case round =>
      obtain ⟨k, os, d, hk1, hk2, rfl, rfl, rfl, rfl⟩ := hrel
      by_cases hlt2 : k < ks.length
      · obtain ⟨j, hjk⟩ : ∃ j, j + 1 = k := ⟨k - 1, by omega⟩
        obtain ⟨b, off, rfl, hb3, hc1⟩ := hk.at v1 hlt2
        obtain ⟨b', off', he, _, hc0⟩ := hk.at v1 (k := j) (by omega)
        obtain ⟨rfl, rfl⟩ := addr_same he
        clear he
        obtain ⟨q0, q1⟩ := rs_bd HP.out.1 hlt2
        obtain ⟨p0, p1'⟩ := rs_bd HP.out.1 (k := j) (by omega)
        obtain ⟨q, hq⟩ := Int.eq_ofNat_of_zero_le q0
        obtain ⟨p, hp⟩ := Int.eq_ofNat_of_zero_le p0
        have hqn : q < log.length := by omega
        have hpn : p < log.length := by omega
        obtain ⟨bl, ofl, rfl, hbl3, ld0, ld1⟩ := hl.at hv hqn
        obtain ⟨bl', ofl', he, _, le0, le1⟩ := hl.at hv hpn
        obtain ⟨rfl, rfl⟩ := addr_same he
        clear he
        have C1 := Lib.hid (fun W (hW : Below B2 W2 W) => l04Has_any hbs cb W hW (el ks k))
        have HQ := Lib.hid hq
        have C2 : Hid (∀ W, Below B2 W2 W → Calls Try.prog 117 #[.slice Ab bs.length cb, .int .i64 (q : Int)] W fun e w' => e = .returned (.bool (hasL bs (el ks k) bs.length)) ∧ W = w') := by
          unfold Hid
          intro W hW
          have := C1.out W hW
          rw [HQ.out] at this
          rw [HQ.out]
          exact this
        have e1 : IntKind.i64.wrap ((k : Int) - 1) = (j : Int) := (IntWalk.i64_in _ ⟨by omega, by omega⟩).trans (by omega)
        have g0 : (0 : Int) ≤ (k : Int) := by omega
        have g1 : (k : Int) < (ks.length : Int) := by omega
        have g2 : (0 : Int) ≤ (j : Int) := by omega
        have g3 : (j : Int) < (ks.length : Int) := by omega
        have g4 : (0 : Int) ≤ (p : Int) := by omega
        have g5 : (p : Int) < (log.length : Int) := by omega
        have g6 : (0 : Int) ≤ (q : Int) := by omega
        have g7 : (q : Int) < (log.length : Int) := by omega
        have HJ := Lib.hid hjk
        cases hh : hasL bs (el ks k) bs.length
        · have HU := Lib.hid (ttTo_up (xs := xs) (log := log) (fl := fl) (fh := fh) hjk hh hp hq)
          obtain ⟨hfine, hco⟩ := step_ok HK.out.1 HK.out.2 HP.out.1 HP.out.2 hjk hlt2 hh hp hq
          obtain ⟨⟨x0, x1⟩, x2, x3⟩ := cl_bd hfine hco
          obtain ⟨⟨y0, y1⟩, y2, y3⟩ := HBD.out k (by omega)
          have wl : IntKind.i64.wrap ((ttTo xs log fl fh ks bs k).1 + cLow xs (p1 log p) (p2 log p) (p1 log q) (p2 log q) fl) = (ttTo xs log fl fh ks bs k).1 + cLow xs (p1 log p) (p2 log p) (p1 log q) (p2 log q) fl := IntWalk.i64_in _ ⟨by omega, by omega⟩
          have wh : IntKind.i64.wrap ((ttTo xs log fl fh ks bs k).2 + cHigh xs (p1 log p) (p2 log p) (p1 log q) (p2 log q) fh) = (ttTo xs log fl fh ks bs k).2 + cHigh xs (p1 log p) (p2 log p) (p1 log q) (p2 log q) fh := IntWalk.i64_in _ ⟨by omega, by omega⟩
          have KC : Hid (∀ W', Below B W W' → Calls Try.prog 78 #[.slice A xs.length c, .agg #[.int .i64 (p1 log p), .int .i64 (p2 log p)], .agg #[.int .i64 (p1 log q), .int .i64 (p2 log q)], .agg #[.int .i64 fl, .int .i64 fh]] W' fun e w' => e = .returned (.tuple #[.int .i64 (cLow xs (p1 log p) (p2 log p) (p1 log q) (p2 log q) fl), .int .i64 (cHigh xs (p1 log p) (p2 log p) (p1 log q) (p2 log q) fh), .bool true]) ∧ Below W'.heap.size W' w') := fun W' hW => (l04Counts_any hs h8 xs.length c rfl W' hW _ _ _ _ _ _ hfine).mono fun _ _ ⟨h1, h2⟩ => ⟨by rw [h1, hco]; rfl, h2⟩
          rw [hp] at hc0
          rw [hq] at hc1
          clear hq hp hjk C1 hfine hco
          go_wp2
          (refine wp_region_mq (by kernel_rfl) (by kernel_rfl) ?_; (repeat (first | go_big_quiet_step ((first | (go_at_call 117; ((with_reducible refine quietSb (C2.out _ ?_) hh) <;> (repeat' (first | (with_reducible first | assumption | exact Below.refl _ _ | refine Below.drew ?_ | refine Below.alloc ?_ ?_ _ | refine Below.setCell ?_ ?_ _ | refine below_setR ?_ ?_ _ | refine below_dn ?_ _ | refine Below.trans ?_ (below_mo _ _ _ ?_) | refine Below.trans ?_ (below_mq _ _ ?_) | exact Nat.le_refl _) | (simp; done) | (simp; omega) | omega)))))) | quiet_step ((first | (go_at_call 117; ((with_reducible refine quietSb (C2.out _ ?_) hh) <;> (repeat' (first | (with_reducible first | assumption | exact Below.refl _ _ | refine Below.drew ?_ | refine Below.alloc ?_ ?_ _ | refine Below.setCell ?_ ?_ _ | refine below_setR ?_ ?_ _ | refine below_dn ?_ _ | refine Below.trans ?_ (below_mo _ _ _ ?_) | refine Below.trans ?_ (below_mq _ _ ?_) | exact Nat.le_refl _) | (simp; done) | (simp; omega) | omega)))))))); refine wpQuiet_nil ?_; intro _ hq_; obtain ⟨q_, rfl⟩ := hq_)
          go_wp2
          (refine wp_region_mq (by kernel_rfl) (by kernel_rfl) ?_; (repeat (first | go_big_quiet_step ((first | (go_at_call 78; ((with_reducible refine quietQ (KC.out _ ?_) ) <;> (repeat' (first | (with_reducible first | assumption | exact Below.refl _ _ | refine Below.drew ?_ | refine Below.alloc ?_ ?_ _ | refine Below.setCell ?_ ?_ _ | refine below_setR ?_ ?_ _ | refine below_dn ?_ _ | refine Below.trans ?_ (below_mo _ _ _ ?_) | refine Below.trans ?_ (below_mq _ _ ?_) | exact Nat.le_refl _) | (simp; done) | (simp; omega) | omega)))))) | quiet_step ((first | (go_at_call 78; ((with_reducible refine quietQ (KC.out _ ?_) ) <;> (repeat' (first | (with_reducible first | assumption | exact Below.refl _ _ | refine Below.drew ?_ | refine Below.alloc ?_ ?_ _ | refine Below.setCell ?_ ?_ _ | refine below_setR ?_ ?_ _ | refine below_dn ?_ _ | refine Below.trans ?_ (below_mo _ _ _ ?_) | refine Below.trans ?_ (below_mq _ _ ?_) | exact Nat.le_refl _) | (simp; done) | (simp; omega) | omega)))))))); refine wpQuiet_nil ?_; intro _ hq_; obtain ⟨q_, rfl⟩ := hq_)
          go_wp2
          exact ⟨rel_kt hlt2 HU.out (mo_of (by repeat' (first | (with_reducible first | assumption | exact Below.refl _ _ | refine Below.drew ?_ | refine Below.alloc ?_ ?_ _ | refine Below.setCell ?_ ?_ _ | refine below_setR ?_ ?_ _ | refine below_dn ?_ _ | refine Below.trans ?_ (below_mo _ _ _ ?_) | refine Below.trans ?_ (below_mq _ _ ?_) | exact Nat.le_refl _) | (simp; done) | (simp; omega) | omega))), by simp [intOf]; omega⟩
        · have HU := Lib.hid (ttTo_no (xs := xs) (log := log) (fl := fl) (fh := fh) hh)
          rw [hp] at hc0
          rw [hq] at hc1
          clear hq hp hjk C1
          go_wp2
          (refine wp_region_mq (by kernel_rfl) (by kernel_rfl) ?_; (repeat (first | go_big_quiet_step ((first | (go_at_call 117; ((with_reducible refine quietSb (C2.out _ ?_) hh) <;> (repeat' (first | (with_reducible first | assumption | exact Below.refl _ _ | refine Below.drew ?_ | refine Below.alloc ?_ ?_ _ | refine Below.setCell ?_ ?_ _ | refine below_setR ?_ ?_ _ | refine below_dn ?_ _ | refine Below.trans ?_ (below_mo _ _ _ ?_) | refine Below.trans ?_ (below_mq _ _ ?_) | exact Nat.le_refl _) | (simp; done) | (simp; omega) | omega)))))) | quiet_step ((first | (go_at_call 117; ((with_reducible refine quietSb (C2.out _ ?_) hh) <;> (repeat' (first | (with_reducible first | assumption | exact Below.refl _ _ | refine Below.drew ?_ | refine Below.alloc ?_ ?_ _ | refine Below.setCell ?_ ?_ _ | refine below_setR ?_ ?_ _ | refine below_dn ?_ _ | refine Below.trans ?_ (below_mo _ _ _ ?_) | refine Below.trans ?_ (below_mq _ _ ?_) | exact Nat.le_refl _) | (simp; done) | (simp; omega) | omega)))))))); refine wpQuiet_nil ?_; intro _ hq_; obtain ⟨q_, rfl⟩ := hq_)
          go_wp2
          exact ⟨rel_kt hlt2 HU.out (mo_of (by repeat' (first | (with_reducible first | assumption | exact Below.refl _ _ | refine Below.drew ?_ | refine Below.alloc ?_ ?_ _ | refine Below.setCell ?_ ?_ _ | refine below_setR ?_ ?_ _ | refine below_dn ?_ _ | refine Below.trans ?_ (below_mo _ _ _ ?_) | refine Below.trans ?_ (below_mq _ _ ?_) | exact Nat.le_refl _) | (simp; done) | (simp; omega) | omega))), by simp [intOf]; omega⟩
      · have HE : Hid (ttTo xs log fl fh ks bs k = ttTo xs log fl fh ks bs ks.length) := by
          unfold Hid
          by_cases e : k = ks.length
          · rw [e]
          · have e0 : ks.length = 0 := by omega
            have e1 : k = 1 := by omega
            rw [e0, e1]; rfl
        go_wp2
        go_returns
        exact ⟨by rw [HV.out, HE.out]; first | done | rfl, (by repeat' (first | (with_reducible first | assumption | exact Below.refl _ _ | refine Below.drew ?_ | refine Below.alloc ?_ ?_ _ | refine Below.setCell ?_ ?_ _ | refine below_setR ?_ ?_ _ | refine below_dn ?_ _ | refine Below.trans ?_ (below_mo _ _ _ ?_) | refine Below.trans ?_ (below_mq _ _ ?_) | exact Nat.le_refl _) | (simp; done) | (simp; omega) | omega))⟩
end Go.Proofs.Ytcaaljcfdahpaaa.X
