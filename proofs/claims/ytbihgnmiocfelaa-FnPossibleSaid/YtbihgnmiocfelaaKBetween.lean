/- CountsBetween, RoundsBetween, SetBackBy of the program and of the reference. Conditions: none. -/
import Derived.Test.YtbihgnmiocfelaaKCounts
namespace Go.Proofs.Ytbihgnmiocfelaa.X
open Go.RowKit
set_option linter.unusedVariables false
set_option linter.unusedSimpArgs false
set_option maxRecDepth 100000
/-- the code of two readings and a flow -/
def pairC (xs : List Int) (ad av bd bv fl fh : Int) : Int := if okS xs && okR xs ad av && okR xs bd bv && okF fl fh then if bd ≤ ad then 2 else 0 else 1
theorem pairC_1 {xs : List Int} (ad av bd bv fl fh : Int) (h : okS xs = false ∨ okR xs ad av = false ∨ okR xs bd bv = false ∨ okF fl fh = false) : pairC xs ad av bd bv fl fh = 1 := by
  unfold pairC
  rcases h with h | h | h | h <;> rw [h] <;> simp
theorem pairC_2 {xs : List Int} {ad av bd bv fl fh : Int} (h1 : okS xs = true) (h2 : okR xs ad av = true) (h3 : okR xs bd bv = true) (h4 : okF fl fh = true) (h5 : bd ≤ ad) : pairC xs ad av bd bv fl fh = 2 := by
  unfold pairC
  rw [h1, h2, h3, h4, if_pos h5]
  rfl
theorem pairC_0 {xs : List Int} {ad av bd bv fl fh : Int} (h1 : okS xs = true) (h2 : okR xs ad av = true) (h3 : okR xs bd bv = true) (h4 : okF fl fh = true) (h5 : ¬ bd ≤ ad) : pairC xs ad av bd bv fl fh = 0 := by
  unfold pairC
  rw [h1, h2, h3, h4, if_neg h5]
  rfl
theorem pairC_fine {xs : List Int} {ad av bd bv fl fh : Int} (h : pairC xs ad av bd bv fl fh = 0) : Fine xs ad av bd bv fl fh := by
  unfold pairC at h
  split at h
  · rename_i h1
    simp only [Bool.and_eq_true] at h1
    split at h
    · cases h
    · obtain ⟨⟨⟨g1, g2⟩, g3⟩, g4⟩ := h1
      have e1 := okR_t g2
      have e2 := okR_t g3
      exact ⟨g1, e1.2, e2.2, e1.1, e2.1, by omega, okF_t g4⟩
  · cases h
set_option maxHeartbeats 2000000 in
theorem betweenFault_any {A : Option Addr} {xs : List Int} {W : World} {B : Nat} (hs : Nums .u8 W B A xs) (h8 : b8 xs) (n c : Nat) (hn : xs.length = n) (w : World) (hb : Below B W w) (ad av bd bv fl fh : Int) : Calls Try.prog 148 #[.slice A n c, .agg #[.int .i64 ad, .int .i64 av], .agg #[.int .i64 bd, .int .i64 bv], .agg #[.int .i64 fl, .int .i64 fh]] w fun e w' => e = .returned (.int .i64 (pairC xs ad av bd bv fl fh)) ∧ Below w.heap.size w w' := by
  obtain rfl := hn
  have hB := hs.bsz hb
  cases h1 : okS xs
  · have HR := Lib.hid (pairC_1 (xs := xs) ad av bd bv fl fh (Or.inl h1))
    go_enter Try.func148, Try.ntmps148
    go_wp2_with (go_at_call 65; refine (ValidStack_any hs h8 _ _ rfl _ (by repeat' (first | (with_reducible first | assumption | exact Below.refl _ _ | refine Below.drew ?_ | refine Below.alloc ?_ ?_ _ | refine Below.setCell ?_ ?_ _ | refine below_setR ?_ ?_ _ | refine below_dn ?_ _ | refine Below.trans ?_ (below_mo _ _ _ ?_) | refine Below.trans ?_ (below_mq _ _ ?_) | exact Nat.le_refl _) | (simp; done) | (simp; omega) | omega))).mono ?_; rintro e w' ⟨rfl, rfl⟩)
    go_ret
    exact ⟨(by first | (rw [HR.out]; done) | (rw [HR.out]; rfl)), (by repeat' (first | (with_reducible first | assumption | exact Below.refl _ _ | refine Below.drew ?_ | refine Below.alloc ?_ ?_ _ | refine Below.setCell ?_ ?_ _ | refine below_setR ?_ ?_ _ | refine below_dn ?_ _ | refine Below.trans ?_ (below_mo _ _ _ ?_) | refine Below.trans ?_ (below_mq _ _ ?_) | exact Nat.le_refl _) | (simp; done) | (simp; omega) | omega))⟩
  cases h2 : okR xs ad av
  · have HR := Lib.hid (pairC_1 (xs := xs) ad av bd bv fl fh (Or.inr (Or.inl h2)))
    go_enter Try.func148, Try.ntmps148
    go_wp2_with (first | (go_at_call 65; refine (ValidStack_any hs h8 _ _ rfl _ (by repeat' (first | (with_reducible first | assumption | exact Below.refl _ _ | refine Below.drew ?_ | refine Below.alloc ?_ ?_ _ | refine Below.setCell ?_ ?_ _ | refine below_setR ?_ ?_ _ | refine below_dn ?_ _ | refine Below.trans ?_ (below_mo _ _ _ ?_) | refine Below.trans ?_ (below_mq _ _ ?_) | exact Nat.le_refl _) | (simp; done) | (simp; omega) | omega))).mono ?_; rintro e w' ⟨rfl, rfl⟩) | (go_at_call 249; refine (readingOK_any hs h8 _ _ rfl _ (by repeat' (first | (with_reducible first | assumption | exact Below.refl _ _ | refine Below.drew ?_ | refine Below.alloc ?_ ?_ _ | refine Below.setCell ?_ ?_ _ | refine below_setR ?_ ?_ _ | refine below_dn ?_ _ | refine Below.trans ?_ (below_mo _ _ _ ?_) | refine Below.trans ?_ (below_mq _ _ ?_) | exact Nat.le_refl _) | (simp; done) | (simp; omega) | omega)) _ _).mono ?_; rintro e w' ⟨rfl, hb_⟩; obtain ⟨os_, d_, rfl⟩ := mo_of hb_; clear hb_))
    go_ret
    exact ⟨(by first | (rw [HR.out]; done) | (rw [HR.out]; rfl)), (by repeat' (first | (with_reducible first | assumption | exact Below.refl _ _ | refine Below.drew ?_ | refine Below.alloc ?_ ?_ _ | refine Below.setCell ?_ ?_ _ | refine below_setR ?_ ?_ _ | refine below_dn ?_ _ | refine Below.trans ?_ (below_mo _ _ _ ?_) | refine Below.trans ?_ (below_mq _ _ ?_) | exact Nat.le_refl _) | (simp; done) | (simp; omega) | omega))⟩
  cases h3 : okR xs bd bv
  · have HR := Lib.hid (pairC_1 (xs := xs) ad av bd bv fl fh (Or.inr (Or.inr (Or.inl h3))))
    go_enter Try.func148, Try.ntmps148
    go_wp2_with (first | (go_at_call 65; refine (ValidStack_any hs h8 _ _ rfl _ (by repeat' (first | (with_reducible first | assumption | exact Below.refl _ _ | refine Below.drew ?_ | refine Below.alloc ?_ ?_ _ | refine Below.setCell ?_ ?_ _ | refine below_setR ?_ ?_ _ | refine below_dn ?_ _ | refine Below.trans ?_ (below_mo _ _ _ ?_) | refine Below.trans ?_ (below_mq _ _ ?_) | exact Nat.le_refl _) | (simp; done) | (simp; omega) | omega))).mono ?_; rintro e w' ⟨rfl, rfl⟩) | (go_at_call 249; refine (readingOK_any hs h8 _ _ rfl _ (by repeat' (first | (with_reducible first | assumption | exact Below.refl _ _ | refine Below.drew ?_ | refine Below.alloc ?_ ?_ _ | refine Below.setCell ?_ ?_ _ | refine below_setR ?_ ?_ _ | refine below_dn ?_ _ | refine Below.trans ?_ (below_mo _ _ _ ?_) | refine Below.trans ?_ (below_mq _ _ ?_) | exact Nat.le_refl _) | (simp; done) | (simp; omega) | omega)) _ _).mono ?_; rintro e w' ⟨rfl, hb_⟩; obtain ⟨os_, d_, rfl⟩ := mo_of hb_; clear hb_))
    go_ret
    exact ⟨(by first | (rw [HR.out]; done) | (rw [HR.out]; rfl)), (by repeat' (first | (with_reducible first | assumption | exact Below.refl _ _ | refine Below.drew ?_ | refine Below.alloc ?_ ?_ _ | refine Below.setCell ?_ ?_ _ | refine below_setR ?_ ?_ _ | refine below_dn ?_ _ | refine Below.trans ?_ (below_mo _ _ _ ?_) | refine Below.trans ?_ (below_mq _ _ ?_) | exact Nat.le_refl _) | (simp; done) | (simp; omega) | omega))⟩
  cases h4 : okF fl fh
  · have HR := Lib.hid (pairC_1 (xs := xs) ad av bd bv fl fh (Or.inr (Or.inr (Or.inr h4))))
    go_enter Try.func148, Try.ntmps148
    go_wp2_with (first | (go_at_call 65; refine (ValidStack_any hs h8 _ _ rfl _ (by repeat' (first | (with_reducible first | assumption | exact Below.refl _ _ | refine Below.drew ?_ | refine Below.alloc ?_ ?_ _ | refine Below.setCell ?_ ?_ _ | refine below_setR ?_ ?_ _ | refine below_dn ?_ _ | refine Below.trans ?_ (below_mo _ _ _ ?_) | refine Below.trans ?_ (below_mq _ _ ?_) | exact Nat.le_refl _) | (simp; done) | (simp; omega) | omega))).mono ?_; rintro e w' ⟨rfl, rfl⟩) | (go_at_call 249; refine (readingOK_any hs h8 _ _ rfl _ (by repeat' (first | (with_reducible first | assumption | exact Below.refl _ _ | refine Below.drew ?_ | refine Below.alloc ?_ ?_ _ | refine Below.setCell ?_ ?_ _ | refine below_setR ?_ ?_ _ | refine below_dn ?_ _ | refine Below.trans ?_ (below_mo _ _ _ ?_) | refine Below.trans ?_ (below_mq _ _ ?_) | exact Nat.le_refl _) | (simp; done) | (simp; omega) | omega)) _ _).mono ?_; rintro e w' ⟨rfl, hb_⟩; obtain ⟨os_, d_, rfl⟩ := mo_of hb_; clear hb_) | (go_at_call 250; refine (ValidFlow_any _ _ _).mono ?_; rintro e w' ⟨rfl, hb_⟩; obtain ⟨os_, d_, rfl⟩ := mo_of hb_; clear hb_))
    go_ret
    exact ⟨(by first | (rw [HR.out]; done) | (rw [HR.out]; rfl)), (by repeat' (first | (with_reducible first | assumption | exact Below.refl _ _ | refine Below.drew ?_ | refine Below.alloc ?_ ?_ _ | refine Below.setCell ?_ ?_ _ | refine below_setR ?_ ?_ _ | refine below_dn ?_ _ | refine Below.trans ?_ (below_mo _ _ _ ?_) | refine Below.trans ?_ (below_mq _ _ ?_) | exact Nat.le_refl _) | (simp; done) | (simp; omega) | omega))⟩
  by_cases h5 : bd ≤ ad
  · have HR := Lib.hid (pairC_2 h1 h2 h3 h4 h5)
    go_enter Try.func148, Try.ntmps148
    go_wp2_with (first | (go_at_call 65; refine (ValidStack_any hs h8 _ _ rfl _ (by repeat' (first | (with_reducible first | assumption | exact Below.refl _ _ | refine Below.drew ?_ | refine Below.alloc ?_ ?_ _ | refine Below.setCell ?_ ?_ _ | refine below_setR ?_ ?_ _ | refine below_dn ?_ _ | refine Below.trans ?_ (below_mo _ _ _ ?_) | refine Below.trans ?_ (below_mq _ _ ?_) | exact Nat.le_refl _) | (simp; done) | (simp; omega) | omega))).mono ?_; rintro e w' ⟨rfl, rfl⟩) | (go_at_call 249; refine (readingOK_any hs h8 _ _ rfl _ (by repeat' (first | (with_reducible first | assumption | exact Below.refl _ _ | refine Below.drew ?_ | refine Below.alloc ?_ ?_ _ | refine Below.setCell ?_ ?_ _ | refine below_setR ?_ ?_ _ | refine below_dn ?_ _ | refine Below.trans ?_ (below_mo _ _ _ ?_) | refine Below.trans ?_ (below_mq _ _ ?_) | exact Nat.le_refl _) | (simp; done) | (simp; omega) | omega)) _ _).mono ?_; rintro e w' ⟨rfl, hb_⟩; obtain ⟨os_, d_, rfl⟩ := mo_of hb_; clear hb_) | (go_at_call 250; refine (ValidFlow_any _ _ _).mono ?_; rintro e w' ⟨rfl, hb_⟩; obtain ⟨os_, d_, rfl⟩ := mo_of hb_; clear hb_))
    go_ret
    exact ⟨(by first | (rw [HR.out]; done) | (rw [HR.out]; rfl)), (by repeat' (first | (with_reducible first | assumption | exact Below.refl _ _ | refine Below.drew ?_ | refine Below.alloc ?_ ?_ _ | refine Below.setCell ?_ ?_ _ | refine below_setR ?_ ?_ _ | refine below_dn ?_ _ | refine Below.trans ?_ (below_mo _ _ _ ?_) | refine Below.trans ?_ (below_mq _ _ ?_) | exact Nat.le_refl _) | (simp; done) | (simp; omega) | omega))⟩
  · have HR := Lib.hid (pairC_0 h1 h2 h3 h4 h5)
    go_enter Try.func148, Try.ntmps148
    go_wp2_with (first | (go_at_call 65; refine (ValidStack_any hs h8 _ _ rfl _ (by repeat' (first | (with_reducible first | assumption | exact Below.refl _ _ | refine Below.drew ?_ | refine Below.alloc ?_ ?_ _ | refine Below.setCell ?_ ?_ _ | refine below_setR ?_ ?_ _ | refine below_dn ?_ _ | refine Below.trans ?_ (below_mo _ _ _ ?_) | refine Below.trans ?_ (below_mq _ _ ?_) | exact Nat.le_refl _) | (simp; done) | (simp; omega) | omega))).mono ?_; rintro e w' ⟨rfl, rfl⟩) | (go_at_call 249; refine (readingOK_any hs h8 _ _ rfl _ (by repeat' (first | (with_reducible first | assumption | exact Below.refl _ _ | refine Below.drew ?_ | refine Below.alloc ?_ ?_ _ | refine Below.setCell ?_ ?_ _ | refine below_setR ?_ ?_ _ | refine below_dn ?_ _ | refine Below.trans ?_ (below_mo _ _ _ ?_) | refine Below.trans ?_ (below_mq _ _ ?_) | exact Nat.le_refl _) | (simp; done) | (simp; omega) | omega)) _ _).mono ?_; rintro e w' ⟨rfl, hb_⟩; obtain ⟨os_, d_, rfl⟩ := mo_of hb_; clear hb_) | (go_at_call 250; refine (ValidFlow_any _ _ _).mono ?_; rintro e w' ⟨rfl, hb_⟩; obtain ⟨os_, d_, rfl⟩ := mo_of hb_; clear hb_))
    go_ret
    exact ⟨(by first | (rw [HR.out]; done) | (rw [HR.out]; rfl)), (by repeat' (first | (with_reducible first | assumption | exact Below.refl _ _ | refine Below.drew ?_ | refine Below.alloc ?_ ?_ _ | refine Below.setCell ?_ ?_ _ | refine below_setR ?_ ?_ _ | refine below_dn ?_ _ | refine Below.trans ?_ (below_mo _ _ _ ?_) | refine Below.trans ?_ (below_mq _ _ ?_) | exact Nat.le_refl _) | (simp; done) | (simp; omega) | omega))⟩
set_option maxHeartbeats 2000000 in
theorem l04Pair_any {A : Option Addr} {xs : List Int} {W : World} {B : Nat} (hs : Nums .u8 W B A xs) (h8 : b8 xs) (n c : Nat) (hn : xs.length = n) (w : World) (hb : Below B W w) (ad av bd bv fl fh : Int) : Calls Try.prog 150 #[.slice A n c, .agg #[.int .i64 ad, .int .i64 av], .agg #[.int .i64 bd, .int .i64 bv], .agg #[.int .i64 fl, .int .i64 fh]] w fun e w' => e = .returned (.int .i64 (pairC xs ad av bd bv fl fh)) ∧ Below w.heap.size w w' := by
  obtain rfl := hn
  have hB := hs.bsz hb
  cases h1 : okS xs
  · have HR := Lib.hid (pairC_1 (xs := xs) ad av bd bv fl fh (Or.inl h1))
    go_enter Try.func150, Try.ntmps150
    go_wp2_with (go_at_call 146; refine (l01Ok_any hs h8 _ _ rfl _ (by repeat' (first | (with_reducible first | assumption | exact Below.refl _ _ | refine Below.drew ?_ | refine Below.alloc ?_ ?_ _ | refine Below.setCell ?_ ?_ _ | refine below_setR ?_ ?_ _ | refine below_dn ?_ _ | refine Below.trans ?_ (below_mo _ _ _ ?_) | refine Below.trans ?_ (below_mq _ _ ?_) | exact Nat.le_refl _) | (simp; done) | (simp; omega) | omega))).mono ?_; rintro e w' ⟨rfl, rfl⟩)
    go_ret
    exact ⟨(by first | (rw [HR.out]; done) | (rw [HR.out]; rfl)), (by repeat' (first | (with_reducible first | assumption | exact Below.refl _ _ | refine Below.drew ?_ | refine Below.alloc ?_ ?_ _ | refine Below.setCell ?_ ?_ _ | refine below_setR ?_ ?_ _ | refine below_dn ?_ _ | refine Below.trans ?_ (below_mo _ _ _ ?_) | refine Below.trans ?_ (below_mq _ _ ?_) | exact Nat.le_refl _) | (simp; done) | (simp; omega) | omega))⟩
  cases h2 : okR xs ad av
  · have HR := Lib.hid (pairC_1 (xs := xs) ad av bd bv fl fh (Or.inr (Or.inl h2)))
    go_enter Try.func150, Try.ntmps150
    go_wp2_with (first | (go_at_call 146; refine (l01Ok_any hs h8 _ _ rfl _ (by repeat' (first | (with_reducible first | assumption | exact Below.refl _ _ | refine Below.drew ?_ | refine Below.alloc ?_ ?_ _ | refine Below.setCell ?_ ?_ _ | refine below_setR ?_ ?_ _ | refine below_dn ?_ _ | refine Below.trans ?_ (below_mo _ _ _ ?_) | refine Below.trans ?_ (below_mq _ _ ?_) | exact Nat.le_refl _) | (simp; done) | (simp; omega) | omega))).mono ?_; rintro e w' ⟨rfl, rfl⟩) | (go_at_call 251; refine (l04Reading_any hs h8 _ _ rfl _ (by repeat' (first | (with_reducible first | assumption | exact Below.refl _ _ | refine Below.drew ?_ | refine Below.alloc ?_ ?_ _ | refine Below.setCell ?_ ?_ _ | refine below_setR ?_ ?_ _ | refine below_dn ?_ _ | refine Below.trans ?_ (below_mo _ _ _ ?_) | refine Below.trans ?_ (below_mq _ _ ?_) | exact Nat.le_refl _) | (simp; done) | (simp; omega) | omega)) _ _).mono ?_; rintro e w' ⟨rfl, hb_⟩; obtain ⟨os_, d_, rfl⟩ := mo_of hb_; clear hb_))
    go_ret
    exact ⟨(by first | (rw [HR.out]; done) | (rw [HR.out]; rfl)), (by repeat' (first | (with_reducible first | assumption | exact Below.refl _ _ | refine Below.drew ?_ | refine Below.alloc ?_ ?_ _ | refine Below.setCell ?_ ?_ _ | refine below_setR ?_ ?_ _ | refine below_dn ?_ _ | refine Below.trans ?_ (below_mo _ _ _ ?_) | refine Below.trans ?_ (below_mq _ _ ?_) | exact Nat.le_refl _) | (simp; done) | (simp; omega) | omega))⟩
  cases h3 : okR xs bd bv
  · have HR := Lib.hid (pairC_1 (xs := xs) ad av bd bv fl fh (Or.inr (Or.inr (Or.inl h3))))
    go_enter Try.func150, Try.ntmps150
    go_wp2_with (first | (go_at_call 146; refine (l01Ok_any hs h8 _ _ rfl _ (by repeat' (first | (with_reducible first | assumption | exact Below.refl _ _ | refine Below.drew ?_ | refine Below.alloc ?_ ?_ _ | refine Below.setCell ?_ ?_ _ | refine below_setR ?_ ?_ _ | refine below_dn ?_ _ | refine Below.trans ?_ (below_mo _ _ _ ?_) | refine Below.trans ?_ (below_mq _ _ ?_) | exact Nat.le_refl _) | (simp; done) | (simp; omega) | omega))).mono ?_; rintro e w' ⟨rfl, rfl⟩) | (go_at_call 251; refine (l04Reading_any hs h8 _ _ rfl _ (by repeat' (first | (with_reducible first | assumption | exact Below.refl _ _ | refine Below.drew ?_ | refine Below.alloc ?_ ?_ _ | refine Below.setCell ?_ ?_ _ | refine below_setR ?_ ?_ _ | refine below_dn ?_ _ | refine Below.trans ?_ (below_mo _ _ _ ?_) | refine Below.trans ?_ (below_mq _ _ ?_) | exact Nat.le_refl _) | (simp; done) | (simp; omega) | omega)) _ _).mono ?_; rintro e w' ⟨rfl, hb_⟩; obtain ⟨os_, d_, rfl⟩ := mo_of hb_; clear hb_))
    go_ret
    exact ⟨(by first | (rw [HR.out]; done) | (rw [HR.out]; rfl)), (by repeat' (first | (with_reducible first | assumption | exact Below.refl _ _ | refine Below.drew ?_ | refine Below.alloc ?_ ?_ _ | refine Below.setCell ?_ ?_ _ | refine below_setR ?_ ?_ _ | refine below_dn ?_ _ | refine Below.trans ?_ (below_mo _ _ _ ?_) | refine Below.trans ?_ (below_mq _ _ ?_) | exact Nat.le_refl _) | (simp; done) | (simp; omega) | omega))⟩
  cases h4 : okF fl fh
  · have HR := Lib.hid (pairC_1 (xs := xs) ad av bd bv fl fh (Or.inr (Or.inr (Or.inr h4))))
    go_enter Try.func150, Try.ntmps150
    go_wp2_with (first | (go_at_call 146; refine (l01Ok_any hs h8 _ _ rfl _ (by repeat' (first | (with_reducible first | assumption | exact Below.refl _ _ | refine Below.drew ?_ | refine Below.alloc ?_ ?_ _ | refine Below.setCell ?_ ?_ _ | refine below_setR ?_ ?_ _ | refine below_dn ?_ _ | refine Below.trans ?_ (below_mo _ _ _ ?_) | refine Below.trans ?_ (below_mq _ _ ?_) | exact Nat.le_refl _) | (simp; done) | (simp; omega) | omega))).mono ?_; rintro e w' ⟨rfl, rfl⟩) | (go_at_call 251; refine (l04Reading_any hs h8 _ _ rfl _ (by repeat' (first | (with_reducible first | assumption | exact Below.refl _ _ | refine Below.drew ?_ | refine Below.alloc ?_ ?_ _ | refine Below.setCell ?_ ?_ _ | refine below_setR ?_ ?_ _ | refine below_dn ?_ _ | refine Below.trans ?_ (below_mo _ _ _ ?_) | refine Below.trans ?_ (below_mq _ _ ?_) | exact Nat.le_refl _) | (simp; done) | (simp; omega) | omega)) _ _).mono ?_; rintro e w' ⟨rfl, hb_⟩; obtain ⟨os_, d_, rfl⟩ := mo_of hb_; clear hb_) | (go_at_call 252; refine (l04Flow_any _ _ _).mono ?_; rintro e w' ⟨rfl, hb_⟩; obtain ⟨os_, d_, rfl⟩ := mo_of hb_; clear hb_))
    go_ret
    exact ⟨(by first | (rw [HR.out]; done) | (rw [HR.out]; rfl)), (by repeat' (first | (with_reducible first | assumption | exact Below.refl _ _ | refine Below.drew ?_ | refine Below.alloc ?_ ?_ _ | refine Below.setCell ?_ ?_ _ | refine below_setR ?_ ?_ _ | refine below_dn ?_ _ | refine Below.trans ?_ (below_mo _ _ _ ?_) | refine Below.trans ?_ (below_mq _ _ ?_) | exact Nat.le_refl _) | (simp; done) | (simp; omega) | omega))⟩
  by_cases h5 : bd ≤ ad
  · have HR := Lib.hid (pairC_2 h1 h2 h3 h4 h5)
    go_enter Try.func150, Try.ntmps150
    go_wp2_with (first | (go_at_call 146; refine (l01Ok_any hs h8 _ _ rfl _ (by repeat' (first | (with_reducible first | assumption | exact Below.refl _ _ | refine Below.drew ?_ | refine Below.alloc ?_ ?_ _ | refine Below.setCell ?_ ?_ _ | refine below_setR ?_ ?_ _ | refine below_dn ?_ _ | refine Below.trans ?_ (below_mo _ _ _ ?_) | refine Below.trans ?_ (below_mq _ _ ?_) | exact Nat.le_refl _) | (simp; done) | (simp; omega) | omega))).mono ?_; rintro e w' ⟨rfl, rfl⟩) | (go_at_call 251; refine (l04Reading_any hs h8 _ _ rfl _ (by repeat' (first | (with_reducible first | assumption | exact Below.refl _ _ | refine Below.drew ?_ | refine Below.alloc ?_ ?_ _ | refine Below.setCell ?_ ?_ _ | refine below_setR ?_ ?_ _ | refine below_dn ?_ _ | refine Below.trans ?_ (below_mo _ _ _ ?_) | refine Below.trans ?_ (below_mq _ _ ?_) | exact Nat.le_refl _) | (simp; done) | (simp; omega) | omega)) _ _).mono ?_; rintro e w' ⟨rfl, hb_⟩; obtain ⟨os_, d_, rfl⟩ := mo_of hb_; clear hb_) | (go_at_call 252; refine (l04Flow_any _ _ _).mono ?_; rintro e w' ⟨rfl, hb_⟩; obtain ⟨os_, d_, rfl⟩ := mo_of hb_; clear hb_))
    go_ret
    exact ⟨(by first | (rw [HR.out]; done) | (rw [HR.out]; rfl)), (by repeat' (first | (with_reducible first | assumption | exact Below.refl _ _ | refine Below.drew ?_ | refine Below.alloc ?_ ?_ _ | refine Below.setCell ?_ ?_ _ | refine below_setR ?_ ?_ _ | refine below_dn ?_ _ | refine Below.trans ?_ (below_mo _ _ _ ?_) | refine Below.trans ?_ (below_mq _ _ ?_) | exact Nat.le_refl _) | (simp; done) | (simp; omega) | omega))⟩
  · have HR := Lib.hid (pairC_0 h1 h2 h3 h4 h5)
    go_enter Try.func150, Try.ntmps150
    go_wp2_with (first | (go_at_call 146; refine (l01Ok_any hs h8 _ _ rfl _ (by repeat' (first | (with_reducible first | assumption | exact Below.refl _ _ | refine Below.drew ?_ | refine Below.alloc ?_ ?_ _ | refine Below.setCell ?_ ?_ _ | refine below_setR ?_ ?_ _ | refine below_dn ?_ _ | refine Below.trans ?_ (below_mo _ _ _ ?_) | refine Below.trans ?_ (below_mq _ _ ?_) | exact Nat.le_refl _) | (simp; done) | (simp; omega) | omega))).mono ?_; rintro e w' ⟨rfl, rfl⟩) | (go_at_call 251; refine (l04Reading_any hs h8 _ _ rfl _ (by repeat' (first | (with_reducible first | assumption | exact Below.refl _ _ | refine Below.drew ?_ | refine Below.alloc ?_ ?_ _ | refine Below.setCell ?_ ?_ _ | refine below_setR ?_ ?_ _ | refine below_dn ?_ _ | refine Below.trans ?_ (below_mo _ _ _ ?_) | refine Below.trans ?_ (below_mq _ _ ?_) | exact Nat.le_refl _) | (simp; done) | (simp; omega) | omega)) _ _).mono ?_; rintro e w' ⟨rfl, hb_⟩; obtain ⟨os_, d_, rfl⟩ := mo_of hb_; clear hb_) | (go_at_call 252; refine (l04Flow_any _ _ _).mono ?_; rintro e w' ⟨rfl, hb_⟩; obtain ⟨os_, d_, rfl⟩ := mo_of hb_; clear hb_))
    go_ret
    exact ⟨(by first | (rw [HR.out]; done) | (rw [HR.out]; rfl)), (by repeat' (first | (with_reducible first | assumption | exact Below.refl _ _ | refine Below.drew ?_ | refine Below.alloc ?_ ?_ _ | refine Below.setCell ?_ ?_ _ | refine below_setR ?_ ?_ _ | refine below_dn ?_ _ | refine Below.trans ?_ (below_mo _ _ _ ?_) | refine Below.trans ?_ (below_mq _ _ ?_) | exact Nat.le_refl _) | (simp; done) | (simp; omega) | omega))⟩
/-- what CountsBetween returns -/
def cbV (xs : List Int) (ad av bd bv fl fh : Int) : Int × Int × Int := if pairC xs ad av bd bv fl fh = 0 then if cOk xs ad av bd bv fl fh then (cLow xs ad av bd bv fl, cHigh xs ad av bd bv fh, 0) else (0, 0, 6) else (0, 0, pairC xs ad av bd bv fl fh)
theorem cbV_1 {xs : List Int} {ad av bd bv fl fh : Int} (h : ¬ pairC xs ad av bd bv fl fh = 0) : cbV xs ad av bd bv fl fh = (0, 0, pairC xs ad av bd bv fl fh) := by unfold cbV; rw [if_neg h]
theorem cbV_2 {xs : List Int} {ad av bd bv fl fh : Int} (h : pairC xs ad av bd bv fl fh = 0) (g : cOk xs ad av bd bv fl fh = false) : cbV xs ad av bd bv fl fh = (0, 0, 6) := by unfold cbV; rw [if_pos h, g]; rfl
theorem cbV_3 {xs : List Int} {ad av bd bv fl fh : Int} (h : pairC xs ad av bd bv fl fh = 0) (g : cOk xs ad av bd bv fl fh = true) : cbV xs ad av bd bv fl fh = (cLow xs ad av bd bv fl, cHigh xs ad av bd bv fh, 0) := by unfold cbV; rw [if_pos h, g]; rfl
theorem bne_f {a : Int} (h : ¬ a = 0) : (a == 0) = false ∧ (a != 0) = true := ⟨beq_eq_false_iff_ne.2 h, by simp [bne, h]⟩
theorem bne_t {a : Int} (h : a = 0) : (a == 0) = true ∧ (a != 0) = false := ⟨beq_iff_eq.2 h, by simp [bne, h]⟩
set_option maxHeartbeats 2000000 in
theorem implCountsBetween_any {A : Option Addr} {xs : List Int} {W : World} {B : Nat} (hs : Nums .u8 W B A xs) (h8 : b8 xs) (n c : Nat) (hn : xs.length = n) (w : World) (hb : Below B W w) (ad av bd bv fl fh : Int) : Calls Try.prog 39 #[.slice A n c, .agg #[.int .i64 ad, .int .i64 av], .agg #[.int .i64 bd, .int .i64 bv], .agg #[.int .i64 fl, .int .i64 fh]] w fun e w' => e = .returned (.tuple #[.int .i64 (cbV xs ad av bd bv fl fh).1, .int .i64 (cbV xs ad av bd bv fl fh).2.1, .int .i64 (cbV xs ad av bd bv fl fh).2.2]) ∧ Below w.heap.size w w' := by
  obtain rfl := hn
  have hB := hs.bsz hb
  by_cases h0 : pairC xs ad av bd bv fl fh = 0
  · have HF := Lib.hid (pairC_fine h0)
    cases ho : cOk xs ad av bd bv fl fh
    · have HR := Lib.hid (cbV_2 h0 ho)
      go_enter Try.func39, Try.ntmps39
      go_wp2_with (first | (go_at_call 148; refine (betweenFault_any hs h8 _ _ rfl _ (by repeat' (first | (with_reducible first | assumption | exact Below.refl _ _ | refine Below.drew ?_ | refine Below.alloc ?_ ?_ _ | refine Below.setCell ?_ ?_ _ | refine below_setR ?_ ?_ _ | refine below_dn ?_ _ | refine Below.trans ?_ (below_mo _ _ _ ?_) | refine Below.trans ?_ (below_mq _ _ ?_) | exact Nat.le_refl _) | (simp; done) | (simp; omega) | omega)) ad av bd bv fl fh).mono ?_; rintro e w' ⟨rfl, hb_⟩; obtain ⟨os_, d_, rfl⟩ := mo_of hb_; clear hb_) | (go_at_call 149; refine (counts_any hs h8 _ _ rfl _ (by repeat' (first | (with_reducible first | assumption | exact Below.refl _ _ | refine Below.drew ?_ | refine Below.alloc ?_ ?_ _ | refine Below.setCell ?_ ?_ _ | refine below_setR ?_ ?_ _ | refine below_dn ?_ _ | refine Below.trans ?_ (below_mo _ _ _ ?_) | refine Below.trans ?_ (below_mq _ _ ?_) | exact Nat.le_refl _) | (simp; done) | (simp; omega) | omega)) ad av bd bv fl fh HF.out).mono ?_; rintro e w' ⟨rfl, hb_⟩; obtain ⟨os_, d_, rfl⟩ := mo_of hb_; clear hb_))
      go_returns
      exact ⟨(by first | (rw [HR.out]; done) | (rw [HR.out]; rfl)), (by repeat' (first | (with_reducible first | assumption | exact Below.refl _ _ | refine Below.drew ?_ | refine Below.alloc ?_ ?_ _ | refine Below.setCell ?_ ?_ _ | refine below_setR ?_ ?_ _ | refine below_dn ?_ _ | refine Below.trans ?_ (below_mo _ _ _ ?_) | refine Below.trans ?_ (below_mq _ _ ?_) | exact Nat.le_refl _) | (simp; done) | (simp; omega) | omega))⟩
    · have HR := Lib.hid (cbV_3 h0 ho)
      go_enter Try.func39, Try.ntmps39
      go_wp2_with (first | (go_at_call 148; refine (betweenFault_any hs h8 _ _ rfl _ (by repeat' (first | (with_reducible first | assumption | exact Below.refl _ _ | refine Below.drew ?_ | refine Below.alloc ?_ ?_ _ | refine Below.setCell ?_ ?_ _ | refine below_setR ?_ ?_ _ | refine below_dn ?_ _ | refine Below.trans ?_ (below_mo _ _ _ ?_) | refine Below.trans ?_ (below_mq _ _ ?_) | exact Nat.le_refl _) | (simp; done) | (simp; omega) | omega)) ad av bd bv fl fh).mono ?_; rintro e w' ⟨rfl, hb_⟩; obtain ⟨os_, d_, rfl⟩ := mo_of hb_; clear hb_) | (go_at_call 149; refine (counts_any hs h8 _ _ rfl _ (by repeat' (first | (with_reducible first | assumption | exact Below.refl _ _ | refine Below.drew ?_ | refine Below.alloc ?_ ?_ _ | refine Below.setCell ?_ ?_ _ | refine below_setR ?_ ?_ _ | refine below_dn ?_ _ | refine Below.trans ?_ (below_mo _ _ _ ?_) | refine Below.trans ?_ (below_mq _ _ ?_) | exact Nat.le_refl _) | (simp; done) | (simp; omega) | omega)) ad av bd bv fl fh HF.out).mono ?_; rintro e w' ⟨rfl, hb_⟩; obtain ⟨os_, d_, rfl⟩ := mo_of hb_; clear hb_))
      go_returns
      exact ⟨(by first | (rw [HR.out]; done) | (rw [HR.out]; rfl)), (by repeat' (first | (with_reducible first | assumption | exact Below.refl _ _ | refine Below.drew ?_ | refine Below.alloc ?_ ?_ _ | refine Below.setCell ?_ ?_ _ | refine below_setR ?_ ?_ _ | refine below_dn ?_ _ | refine Below.trans ?_ (below_mo _ _ _ ?_) | refine Below.trans ?_ (below_mq _ _ ?_) | exact Nat.le_refl _) | (simp; done) | (simp; omega) | omega))⟩
  · have HR := Lib.hid (cbV_1 h0)
    obtain ⟨n1, n2⟩ := bne_f h0
    go_enter Try.func39, Try.ntmps39
    go_wp2_with (go_at_call 148; refine (betweenFault_any hs h8 _ _ rfl _ (by repeat' (first | (with_reducible first | assumption | exact Below.refl _ _ | refine Below.drew ?_ | refine Below.alloc ?_ ?_ _ | refine Below.setCell ?_ ?_ _ | refine below_setR ?_ ?_ _ | refine below_dn ?_ _ | refine Below.trans ?_ (below_mo _ _ _ ?_) | refine Below.trans ?_ (below_mq _ _ ?_) | exact Nat.le_refl _) | (simp; done) | (simp; omega) | omega)) ad av bd bv fl fh).mono ?_; rintro e w' ⟨rfl, hb_⟩; obtain ⟨os_, d_, rfl⟩ := mo_of hb_; clear hb_)
    go_returns
    exact ⟨(by first | (rw [HR.out]; done) | (rw [HR.out]; rfl)), (by repeat' (first | (with_reducible first | assumption | exact Below.refl _ _ | refine Below.drew ?_ | refine Below.alloc ?_ ?_ _ | refine Below.setCell ?_ ?_ _ | refine below_setR ?_ ?_ _ | refine below_dn ?_ _ | refine Below.trans ?_ (below_mo _ _ _ ?_) | refine Below.trans ?_ (below_mq _ _ ?_) | exact Nat.le_refl _) | (simp; done) | (simp; omega) | omega))⟩
set_option maxHeartbeats 2000000 in
theorem specCountsBetween_any {A : Option Addr} {xs : List Int} {W : World} {B : Nat} (hs : Nums .u8 W B A xs) (h8 : b8 xs) (n c : Nat) (hn : xs.length = n) (w : World) (hb : Below B W w) (ad av bd bv fl fh : Int) : Calls Try.prog 40 #[.slice A n c, .agg #[.int .i64 ad, .int .i64 av], .agg #[.int .i64 bd, .int .i64 bv], .agg #[.int .i64 fl, .int .i64 fh]] w fun e w' => e = .returned (.tuple #[.int .i64 (cbV xs ad av bd bv fl fh).1, .int .i64 (cbV xs ad av bd bv fl fh).2.1, .int .i64 (cbV xs ad av bd bv fl fh).2.2]) ∧ Below w.heap.size w w' := by
  obtain rfl := hn
  have hB := hs.bsz hb
  by_cases h0 : pairC xs ad av bd bv fl fh = 0
  · have HC := fun w hb => l04Counts_any hs h8 xs.length c rfl w hb ad av bd bv fl fh (pairC_fine h0)
    cases ho : cOk xs ad av bd bv fl fh
    · have HR := Lib.hid (cbV_2 h0 ho)
      rw [ho] at HC
      have HC := Lib.hid HC
      go_enter Try.func40, Try.ntmps40
      go_wp2_with (first | (go_at_call 150; refine (l04Pair_any hs h8 _ _ rfl _ (by repeat' (first | (with_reducible first | assumption | exact Below.refl _ _ | refine Below.drew ?_ | refine Below.alloc ?_ ?_ _ | refine Below.setCell ?_ ?_ _ | refine below_setR ?_ ?_ _ | refine below_dn ?_ _ | refine Below.trans ?_ (below_mo _ _ _ ?_) | refine Below.trans ?_ (below_mq _ _ ?_) | exact Nat.le_refl _) | (simp; done) | (simp; omega) | omega)) ad av bd bv fl fh).mono ?_; rintro e w' ⟨rfl, hb_⟩; obtain ⟨os_, d_, rfl⟩ := mo_of hb_; clear hb_) | (go_at_call 151; refine (HC.out _ (by repeat' (first | (with_reducible first | assumption | exact Below.refl _ _ | refine Below.drew ?_ | refine Below.alloc ?_ ?_ _ | refine Below.setCell ?_ ?_ _ | refine below_setR ?_ ?_ _ | refine below_dn ?_ _ | refine Below.trans ?_ (below_mo _ _ _ ?_) | refine Below.trans ?_ (below_mq _ _ ?_) | exact Nat.le_refl _) | (simp; done) | (simp; omega) | omega))).mono ?_; rintro e w' ⟨rfl, hb_⟩; obtain ⟨os_, d_, rfl⟩ := mo_of hb_; clear hb_))
      go_returns
      exact ⟨(by first | (rw [HR.out]; done) | (rw [HR.out]; rfl)), (by repeat' (first | (with_reducible first | assumption | exact Below.refl _ _ | refine Below.drew ?_ | refine Below.alloc ?_ ?_ _ | refine Below.setCell ?_ ?_ _ | refine below_setR ?_ ?_ _ | refine below_dn ?_ _ | refine Below.trans ?_ (below_mo _ _ _ ?_) | refine Below.trans ?_ (below_mq _ _ ?_) | exact Nat.le_refl _) | (simp; done) | (simp; omega) | omega))⟩
    · have HR := Lib.hid (cbV_3 h0 ho)
      rw [ho] at HC
      have HC := Lib.hid HC
      go_enter Try.func40, Try.ntmps40
      go_wp2_with (first | (go_at_call 150; refine (l04Pair_any hs h8 _ _ rfl _ (by repeat' (first | (with_reducible first | assumption | exact Below.refl _ _ | refine Below.drew ?_ | refine Below.alloc ?_ ?_ _ | refine Below.setCell ?_ ?_ _ | refine below_setR ?_ ?_ _ | refine below_dn ?_ _ | refine Below.trans ?_ (below_mo _ _ _ ?_) | refine Below.trans ?_ (below_mq _ _ ?_) | exact Nat.le_refl _) | (simp; done) | (simp; omega) | omega)) ad av bd bv fl fh).mono ?_; rintro e w' ⟨rfl, hb_⟩; obtain ⟨os_, d_, rfl⟩ := mo_of hb_; clear hb_) | (go_at_call 151; refine (HC.out _ (by repeat' (first | (with_reducible first | assumption | exact Below.refl _ _ | refine Below.drew ?_ | refine Below.alloc ?_ ?_ _ | refine Below.setCell ?_ ?_ _ | refine below_setR ?_ ?_ _ | refine below_dn ?_ _ | refine Below.trans ?_ (below_mo _ _ _ ?_) | refine Below.trans ?_ (below_mq _ _ ?_) | exact Nat.le_refl _) | (simp; done) | (simp; omega) | omega))).mono ?_; rintro e w' ⟨rfl, hb_⟩; obtain ⟨os_, d_, rfl⟩ := mo_of hb_; clear hb_))
      go_returns
      exact ⟨(by first | (rw [HR.out]; done) | (rw [HR.out]; rfl)), (by repeat' (first | (with_reducible first | assumption | exact Below.refl _ _ | refine Below.drew ?_ | refine Below.alloc ?_ ?_ _ | refine Below.setCell ?_ ?_ _ | refine below_setR ?_ ?_ _ | refine below_dn ?_ _ | refine Below.trans ?_ (below_mo _ _ _ ?_) | refine Below.trans ?_ (below_mq _ _ ?_) | exact Nat.le_refl _) | (simp; done) | (simp; omega) | omega))⟩
  · have HR := Lib.hid (cbV_1 h0)
    obtain ⟨n1, n2⟩ := bne_f h0
    go_enter Try.func40, Try.ntmps40
    go_wp2_with (go_at_call 150; refine (l04Pair_any hs h8 _ _ rfl _ (by repeat' (first | (with_reducible first | assumption | exact Below.refl _ _ | refine Below.drew ?_ | refine Below.alloc ?_ ?_ _ | refine Below.setCell ?_ ?_ _ | refine below_setR ?_ ?_ _ | refine below_dn ?_ _ | refine Below.trans ?_ (below_mo _ _ _ ?_) | refine Below.trans ?_ (below_mq _ _ ?_) | exact Nat.le_refl _) | (simp; done) | (simp; omega) | omega)) ad av bd bv fl fh).mono ?_; rintro e w' ⟨rfl, hb_⟩; obtain ⟨os_, d_, rfl⟩ := mo_of hb_; clear hb_)
    go_returns
    exact ⟨(by first | (rw [HR.out]; done) | (rw [HR.out]; rfl)), (by repeat' (first | (with_reducible first | assumption | exact Below.refl _ _ | refine Below.drew ?_ | refine Below.alloc ?_ ?_ _ | refine Below.setCell ?_ ?_ _ | refine below_setR ?_ ?_ _ | refine below_dn ?_ _ | refine Below.trans ?_ (below_mo _ _ _ ?_) | refine Below.trans ?_ (below_mq _ _ ?_) | exact Nat.le_refl _) | (simp; done) | (simp; omega) | omega))⟩
/-- what RoundsBetween returns -/
def rbV (xs : List Int) (ad av bd bv fl fh : Int) : Int × Int × Int := if (cbV xs ad av bd bv fl fh).2.2 = 0 then ((av + (cbV xs ad av bd bv fl fh).1) / szS xs, (av + (cbV xs ad av bd bv fl fh).2.1) / szS xs, 0) else (0, 0, (cbV xs ad av bd bv fl fh).2.2)
theorem cbV_0 {xs : List Int} {ad av bd bv fl fh : Int} (h : (cbV xs ad av bd bv fl fh).2.2 = 0) : pairC xs ad av bd bv fl fh = 0 ∧ cOk xs ad av bd bv fl fh = true := by
  unfold cbV at h
  split at h
  · rename_i h1
    cases ho : cOk xs ad av bd bv fl fh
    · rw [ho] at h; cases h
    · exact ⟨h1, rfl⟩
  · rename_i h1; exact absurd h h1
theorem rb_bd {xs : List Int} {ad av bd bv fl fh : Int} (h : (cbV xs ad av bd bv fl fh).2.2 = 0) : (0 ≤ av + (cbV xs ad av bd bv fl fh).1 ∧ av + (cbV xs ad av bd bv fl fh).1 ≤ 4000000000000) ∧ (0 ≤ av + (cbV xs ad av bd bv fl fh).2.1 ∧ av + (cbV xs ad av bd bv fl fh).2.1 ≤ 4000000000000) ∧ (2 ≤ szS xs ∧ szS xs ≤ 1000000000000) := by
  obtain ⟨h1, h2⟩ := cbV_0 h
  have hf := pairC_fine h1
  obtain ⟨⟨e1, e2⟩, ⟨e3, e4⟩, e5, e6, e7⟩ := hf.bd
  obtain ⟨⟨u0, u1⟩, u2, u3⟩ := hf.cs
  have e8 := hf.high h2
  have e9 := hf.a
  rw [cbV_3 h1 h2]
  simp only
  unfold cLow cHigh at *
  omega
set_option maxHeartbeats 2000000 in
theorem implRoundsBetween_any {A : Option Addr} {xs : List Int} {W : World} {B : Nat} (hs : Nums .u8 W B A xs) (h8 : b8 xs) (n c : Nat) (hn : xs.length = n) (w : World) (hb : Below B W w) (ad av bd bv fl fh : Int) : Calls Try.prog 43 #[.slice A n c, .agg #[.int .i64 ad, .int .i64 av], .agg #[.int .i64 bd, .int .i64 bv], .agg #[.int .i64 fl, .int .i64 fh]] w fun e w' => e = .returned (.tuple #[.int .i64 (rbV xs ad av bd bv fl fh).1, .int .i64 (rbV xs ad av bd bv fl fh).2.1, .int .i64 (rbV xs ad av bd bv fl fh).2.2]) ∧ Below w.heap.size w w' := by
  obtain rfl := hn
  have hB := hs.bsz hb
  by_cases h0 : (cbV xs ad av bd bv fl fh).2.2 = 0
  · have HR : Hid (rbV xs ad av bd bv fl fh = ((av + (cbV xs ad av bd bv fl fh).1) / szS xs, (av + (cbV xs ad av bd bv fl fh).2.1) / szS xs, 0)) := by unfold Hid rbV; rw [if_pos h0]
    obtain ⟨⟨r0, r1⟩, ⟨r2, r3⟩, r4, r5⟩ := rb_bd h0
    have HS : Hid (szS xs = sizeTo xs xs.length) := rfl
    have z0 : (szS xs == 0) = false := beq_eq_false_iff_ne.2 (by omega)
    have b0 : (cbV xs ad av bd bv fl fh).1 ≤ 9000000000000000000 := by have := (pairC_fine (cbV_0 h0).1).a; omega
    go_enter Try.func43, Try.ntmps43
    go_wp2_with (go_at_call 39; refine (implCountsBetween_any hs h8 _ _ rfl _ (by repeat' (first | (with_reducible first | assumption | exact Below.refl _ _ | refine Below.drew ?_ | refine Below.alloc ?_ ?_ _ | refine Below.setCell ?_ ?_ _ | refine below_setR ?_ ?_ _ | refine below_dn ?_ _ | refine Below.trans ?_ (below_mo _ _ _ ?_) | refine Below.trans ?_ (below_mq _ _ ?_) | exact Nat.le_refl _) | (simp; done) | (simp; omega) | omega)) ad av bd bv fl fh).mono ?_; rintro e w' ⟨rfl, hb_⟩; obtain ⟨os_, d_, rfl⟩ := mo_of hb_; clear hb_)
    (refine wp_region_mq (by kernel_rfl) (by kernel_rfl) ?_; (repeat (first | go_big_quiet_step ((first | (go_at_call 154; ((with_reducible refine quietS (HS.out ▸ size_any hs h8 _ _ rfl _ ?_) ) <;> (repeat' (first | (with_reducible first | assumption | exact Below.refl _ _ | refine Below.drew ?_ | refine Below.alloc ?_ ?_ _ | refine Below.setCell ?_ ?_ _ | refine below_setR ?_ ?_ _ | refine below_dn ?_ _ | refine Below.trans ?_ (below_mo _ _ _ ?_) | refine Below.trans ?_ (below_mq _ _ ?_) | exact Nat.le_refl _) | (simp; done) | (simp; omega) | omega)))))) | quiet_step ((first | (go_at_call 154; ((with_reducible refine quietS (HS.out ▸ size_any hs h8 _ _ rfl _ ?_) ) <;> (repeat' (first | (with_reducible first | assumption | exact Below.refl _ _ | refine Below.drew ?_ | refine Below.alloc ?_ ?_ _ | refine Below.setCell ?_ ?_ _ | refine below_setR ?_ ?_ _ | refine below_dn ?_ _ | refine Below.trans ?_ (below_mo _ _ _ ?_) | refine Below.trans ?_ (below_mq _ _ ?_) | exact Nat.le_refl _) | (simp; done) | (simp; omega) | omega)))))))); refine wpQuiet_nil ?_; intro _ hq_; obtain ⟨q_, rfl⟩ := hq_)
    go_wp2
    go_returns
    exact ⟨(by first | (rw [HR.out]; done) | (rw [HR.out]; rfl)), (by repeat' (first | (with_reducible first | assumption | exact Below.refl _ _ | refine Below.drew ?_ | refine Below.alloc ?_ ?_ _ | refine Below.setCell ?_ ?_ _ | refine below_setR ?_ ?_ _ | refine below_dn ?_ _ | refine Below.trans ?_ (below_mo _ _ _ ?_) | refine Below.trans ?_ (below_mq _ _ ?_) | exact Nat.le_refl _) | (simp; done) | (simp; omega) | omega))⟩
  · have HR : Hid (rbV xs ad av bd bv fl fh = (0, 0, (cbV xs ad av bd bv fl fh).2.2)) := by unfold Hid rbV; rw [if_neg h0]
    obtain ⟨n1, n2⟩ := bne_f h0
    go_enter Try.func43, Try.ntmps43
    go_wp2_with (go_at_call 39; refine (implCountsBetween_any hs h8 _ _ rfl _ (by repeat' (first | (with_reducible first | assumption | exact Below.refl _ _ | refine Below.drew ?_ | refine Below.alloc ?_ ?_ _ | refine Below.setCell ?_ ?_ _ | refine below_setR ?_ ?_ _ | refine below_dn ?_ _ | refine Below.trans ?_ (below_mo _ _ _ ?_) | refine Below.trans ?_ (below_mq _ _ ?_) | exact Nat.le_refl _) | (simp; done) | (simp; omega) | omega)) ad av bd bv fl fh).mono ?_; rintro e w' ⟨rfl, hb_⟩; obtain ⟨os_, d_, rfl⟩ := mo_of hb_; clear hb_)
    go_returns
    exact ⟨(by first | (rw [HR.out]; done) | (rw [HR.out]; rfl)), (by repeat' (first | (with_reducible first | assumption | exact Below.refl _ _ | refine Below.drew ?_ | refine Below.alloc ?_ ?_ _ | refine Below.setCell ?_ ?_ _ | refine below_setR ?_ ?_ _ | refine below_dn ?_ _ | refine Below.trans ?_ (below_mo _ _ _ ?_) | refine Below.trans ?_ (below_mq _ _ ?_) | exact Nat.le_refl _) | (simp; done) | (simp; omega) | omega))⟩
def sbFirst (xs : List Int) (ad av bd bv fl : Int) : Int := (av + fl * (bd - ad) - bv) % szS xs
/-- what SetBackBy returns -/
def sbV (xs : List Int) (ad av bd bv fl fh : Int) : Int × Int := if pairC xs ad av bd bv fl fh = 0 then if szS xs ≤ sbFirst xs ad av bd bv fl + fh * (bd - ad) - fl * (bd - ad) then (0, 0) else (sbFirst xs ad av bd bv fl, 0) else (0, pairC xs ad av bd bv fl fh)
theorem sbV_1 {xs : List Int} {ad av bd bv fl fh : Int} (h : ¬ pairC xs ad av bd bv fl fh = 0) : sbV xs ad av bd bv fl fh = (0, pairC xs ad av bd bv fl fh) := by unfold sbV; rw [if_neg h]
theorem sbV_2 {xs : List Int} {ad av bd bv fl fh : Int} (h : pairC xs ad av bd bv fl fh = 0) (g : szS xs ≤ sbFirst xs ad av bd bv fl + fh * (bd - ad) - fl * (bd - ad)) : sbV xs ad av bd bv fl fh = (0, 0) := by unfold sbV; rw [if_pos h, if_pos g]
theorem sbV_3 {xs : List Int} {ad av bd bv fl fh : Int} (h : pairC xs ad av bd bv fl fh = 0) (g : ¬ szS xs ≤ sbFirst xs ad av bd bv fl + fh * (bd - ad) - fl * (bd - ad)) : sbV xs ad av bd bv fl fh = (sbFirst xs ad av bd bv fl, 0) := by unfold sbV; rw [if_pos h, if_neg g]
set_option maxHeartbeats 2000000 in
theorem implSetBackBy_any {A : Option Addr} {xs : List Int} {W : World} {B : Nat} (hs : Nums .u8 W B A xs) (h8 : b8 xs) (n c : Nat) (hn : xs.length = n) (w : World) (hb : Below B W w) (ad av bd bv fl fh : Int) : Calls Try.prog 41 #[.slice A n c, .agg #[.int .i64 ad, .int .i64 av], .agg #[.int .i64 bd, .int .i64 bv], .agg #[.int .i64 fl, .int .i64 fh]] w fun e w' => e = .returned (.tuple #[.int .i64 (sbV xs ad av bd bv fl fh).1, .int .i64 (sbV xs ad av bd bv fl fh).2]) ∧ Below w.heap.size w w' := by
  obtain rfl := hn
  have hB := hs.bsz hb
  by_cases h0 : pairC xs ad av bd bv fl fh = 0
  · have hf := pairC_fine h0
    have HF := Lib.hid hf
    obtain ⟨⟨e1, e2⟩, ⟨e3, e4⟩, e5, e6, e7⟩ := hf.bd
    obtain ⟨a0, a1⟩ := hf.a
    obtain ⟨b0, b1⟩ := hf.b
    obtain ⟨_, m0, m1⟩ := ediv_bd (a := av + fl * (bd - ad) - bv) (show 0 < szS xs by omega)
    have HS : Hid (szS xs = sizeTo xs xs.length) := rfl
    clear hf
    by_cases hx : szS xs ≤ sbFirst xs ad av bd bv fl + fh * (bd - ad) - fl * (bd - ad)
    · have HR := Lib.hid (sbV_2 h0 hx)
      unfold sbFirst at hx
      go_enter Try.func41, Try.ntmps41
      go_wp2_with (first | (go_at_call 148; refine (betweenFault_any hs h8 _ _ rfl _ (by repeat' (first | (with_reducible first | assumption | exact Below.refl _ _ | refine Below.drew ?_ | refine Below.alloc ?_ ?_ _ | refine Below.setCell ?_ ?_ _ | refine below_setR ?_ ?_ _ | refine below_dn ?_ _ | refine Below.trans ?_ (below_mo _ _ _ ?_) | refine Below.trans ?_ (below_mq _ _ ?_) | exact Nat.le_refl _) | (simp; done) | (simp; omega) | omega)) ad av bd bv fl fh).mono ?_; rintro e w' ⟨rfl, hb_⟩; obtain ⟨os_, d_, rfl⟩ := mo_of hb_; clear hb_) | (go_at_call 152; refine (bounds_any ad av bd bv fl fh HF.out _).mono ?_; rintro e w' ⟨rfl, hb_⟩; obtain ⟨os_, d_, rfl⟩ := mo_of hb_; clear hb_))
      (refine wp_region_mq (by kernel_rfl) (by kernel_rfl) ?_; (repeat (first | go_big_quiet_step ((first | (go_at_call 154; ((with_reducible refine quietS (HS.out ▸ size_any hs h8 _ _ rfl _ ?_) ) <;> (repeat' (first | (with_reducible first | assumption | exact Below.refl _ _ | refine Below.drew ?_ | refine Below.alloc ?_ ?_ _ | refine Below.setCell ?_ ?_ _ | refine below_setR ?_ ?_ _ | refine below_dn ?_ _ | refine Below.trans ?_ (below_mo _ _ _ ?_) | refine Below.trans ?_ (below_mq _ _ ?_) | exact Nat.le_refl _) | (simp; done) | (simp; omega) | omega)))) | (go_at_call 153; with_reducible exact quietS (wrapped_any (av + fl * (bd - ad) - bv) (szS xs) _ (by omega) (by omega)) ))) | quiet_step ((first | (go_at_call 154; ((with_reducible refine quietS (HS.out ▸ size_any hs h8 _ _ rfl _ ?_) ) <;> (repeat' (first | (with_reducible first | assumption | exact Below.refl _ _ | refine Below.drew ?_ | refine Below.alloc ?_ ?_ _ | refine Below.setCell ?_ ?_ _ | refine below_setR ?_ ?_ _ | refine below_dn ?_ _ | refine Below.trans ?_ (below_mo _ _ _ ?_) | refine Below.trans ?_ (below_mq _ _ ?_) | exact Nat.le_refl _) | (simp; done) | (simp; omega) | omega)))) | (go_at_call 153; with_reducible exact quietS (wrapped_any (av + fl * (bd - ad) - bv) (szS xs) _ (by omega) (by omega)) ))))); refine wpQuiet_nil ?_; intro _ hq_; obtain ⟨q_, rfl⟩ := hq_)
      go_wp2_with (go_at_call 154; refine (size_any hs h8 _ _ rfl _ (by repeat' (first | (with_reducible first | assumption | exact Below.refl _ _ | refine Below.drew ?_ | refine Below.alloc ?_ ?_ _ | refine Below.setCell ?_ ?_ _ | refine below_setR ?_ ?_ _ | refine below_dn ?_ _ | refine Below.trans ?_ (below_mo _ _ _ ?_) | refine Below.trans ?_ (below_mq _ _ ?_) | exact Nat.le_refl _) | (simp; done) | (simp; omega) | omega))).mono ?_; rintro e w' ⟨rfl, rfl⟩; rw [← HS.out])
      go_returns
      exact ⟨(by first | (rw [HR.out]; done) | (rw [HR.out]; rfl)), (by repeat' (first | (with_reducible first | assumption | exact Below.refl _ _ | refine Below.drew ?_ | refine Below.alloc ?_ ?_ _ | refine Below.setCell ?_ ?_ _ | refine below_setR ?_ ?_ _ | refine below_dn ?_ _ | refine Below.trans ?_ (below_mo _ _ _ ?_) | refine Below.trans ?_ (below_mq _ _ ?_) | exact Nat.le_refl _) | (simp; done) | (simp; omega) | omega))⟩
    · have HR := Lib.hid (sbV_3 h0 hx)
      unfold sbFirst at hx
      go_enter Try.func41, Try.ntmps41
      go_wp2_with (first | (go_at_call 148; refine (betweenFault_any hs h8 _ _ rfl _ (by repeat' (first | (with_reducible first | assumption | exact Below.refl _ _ | refine Below.drew ?_ | refine Below.alloc ?_ ?_ _ | refine Below.setCell ?_ ?_ _ | refine below_setR ?_ ?_ _ | refine below_dn ?_ _ | refine Below.trans ?_ (below_mo _ _ _ ?_) | refine Below.trans ?_ (below_mq _ _ ?_) | exact Nat.le_refl _) | (simp; done) | (simp; omega) | omega)) ad av bd bv fl fh).mono ?_; rintro e w' ⟨rfl, hb_⟩; obtain ⟨os_, d_, rfl⟩ := mo_of hb_; clear hb_) | (go_at_call 152; refine (bounds_any ad av bd bv fl fh HF.out _).mono ?_; rintro e w' ⟨rfl, hb_⟩; obtain ⟨os_, d_, rfl⟩ := mo_of hb_; clear hb_))
      (refine wp_region_mq (by kernel_rfl) (by kernel_rfl) ?_; (repeat (first | go_big_quiet_step ((first | (go_at_call 154; ((with_reducible refine quietS (HS.out ▸ size_any hs h8 _ _ rfl _ ?_) ) <;> (repeat' (first | (with_reducible first | assumption | exact Below.refl _ _ | refine Below.drew ?_ | refine Below.alloc ?_ ?_ _ | refine Below.setCell ?_ ?_ _ | refine below_setR ?_ ?_ _ | refine below_dn ?_ _ | refine Below.trans ?_ (below_mo _ _ _ ?_) | refine Below.trans ?_ (below_mq _ _ ?_) | exact Nat.le_refl _) | (simp; done) | (simp; omega) | omega)))) | (go_at_call 153; with_reducible exact quietS (wrapped_any (av + fl * (bd - ad) - bv) (szS xs) _ (by omega) (by omega)) ))) | quiet_step ((first | (go_at_call 154; ((with_reducible refine quietS (HS.out ▸ size_any hs h8 _ _ rfl _ ?_) ) <;> (repeat' (first | (with_reducible first | assumption | exact Below.refl _ _ | refine Below.drew ?_ | refine Below.alloc ?_ ?_ _ | refine Below.setCell ?_ ?_ _ | refine below_setR ?_ ?_ _ | refine below_dn ?_ _ | refine Below.trans ?_ (below_mo _ _ _ ?_) | refine Below.trans ?_ (below_mq _ _ ?_) | exact Nat.le_refl _) | (simp; done) | (simp; omega) | omega)))) | (go_at_call 153; with_reducible exact quietS (wrapped_any (av + fl * (bd - ad) - bv) (szS xs) _ (by omega) (by omega)) ))))); refine wpQuiet_nil ?_; intro _ hq_; obtain ⟨q_, rfl⟩ := hq_)
      go_wp2_with (go_at_call 154; refine (size_any hs h8 _ _ rfl _ (by repeat' (first | (with_reducible first | assumption | exact Below.refl _ _ | refine Below.drew ?_ | refine Below.alloc ?_ ?_ _ | refine Below.setCell ?_ ?_ _ | refine below_setR ?_ ?_ _ | refine below_dn ?_ _ | refine Below.trans ?_ (below_mo _ _ _ ?_) | refine Below.trans ?_ (below_mq _ _ ?_) | exact Nat.le_refl _) | (simp; done) | (simp; omega) | omega))).mono ?_; rintro e w' ⟨rfl, rfl⟩; rw [← HS.out])
      go_returns
      exact ⟨(by first | (rw [HR.out]; done) | (rw [HR.out]; rfl)), (by repeat' (first | (with_reducible first | assumption | exact Below.refl _ _ | refine Below.drew ?_ | refine Below.alloc ?_ ?_ _ | refine Below.setCell ?_ ?_ _ | refine below_setR ?_ ?_ _ | refine below_dn ?_ _ | refine Below.trans ?_ (below_mo _ _ _ ?_) | refine Below.trans ?_ (below_mq _ _ ?_) | exact Nat.le_refl _) | (simp; done) | (simp; omega) | omega))⟩
  · have HR := Lib.hid (sbV_1 h0)
    obtain ⟨n1, n2⟩ := bne_f h0
    go_enter Try.func41, Try.ntmps41
    go_wp2_with (go_at_call 148; refine (betweenFault_any hs h8 _ _ rfl _ (by repeat' (first | (with_reducible first | assumption | exact Below.refl _ _ | refine Below.drew ?_ | refine Below.alloc ?_ ?_ _ | refine Below.setCell ?_ ?_ _ | refine below_setR ?_ ?_ _ | refine below_dn ?_ _ | refine Below.trans ?_ (below_mo _ _ _ ?_) | refine Below.trans ?_ (below_mq _ _ ?_) | exact Nat.le_refl _) | (simp; done) | (simp; omega) | omega)) ad av bd bv fl fh).mono ?_; rintro e w' ⟨rfl, hb_⟩; obtain ⟨os_, d_, rfl⟩ := mo_of hb_; clear hb_)
    go_returns
    exact ⟨(by first | (rw [HR.out]; done) | (rw [HR.out]; rfl)), (by repeat' (first | (with_reducible first | assumption | exact Below.refl _ _ | refine Below.drew ?_ | refine Below.alloc ?_ ?_ _ | refine Below.setCell ?_ ?_ _ | refine below_setR ?_ ?_ _ | refine below_dn ?_ _ | refine Below.trans ?_ (below_mo _ _ _ ?_) | refine Below.trans ?_ (below_mq _ _ ?_) | exact Nat.le_refl _) | (simp; done) | (simp; omega) | omega))⟩
set_option maxHeartbeats 2000000 in
theorem specSetBackBy_any {A : Option Addr} {xs : List Int} {W : World} {B : Nat} (hs : Nums .u8 W B A xs) (h8 : b8 xs) (n c : Nat) (hn : xs.length = n) (w : World) (hb : Below B W w) (ad av bd bv fl fh : Int) : Calls Try.prog 42 #[.slice A n c, .agg #[.int .i64 ad, .int .i64 av], .agg #[.int .i64 bd, .int .i64 bv], .agg #[.int .i64 fl, .int .i64 fh]] w fun e w' => e = .returned (.tuple #[.int .i64 (sbV xs ad av bd bv fl fh).1, .int .i64 (sbV xs ad av bd bv fl fh).2]) ∧ Below w.heap.size w w' := by
  obtain rfl := hn
  have hB := hs.bsz hb
  by_cases h0 : pairC xs ad av bd bv fl fh = 0
  · have hf := pairC_fine h0
    obtain ⟨⟨e1, e2⟩, ⟨e3, e4⟩, e5, e6, e7⟩ := hf.bd
    obtain ⟨a0, a1⟩ := hf.a
    obtain ⟨b0, b1⟩ := hf.b
    obtain ⟨d1, d2⟩ := hf.d0
    obtain ⟨d3, d4⟩ := hf.d1
    obtain ⟨f1, f2, f3⟩ := hf.f
    have hd := hf.d
    obtain ⟨_, m0, m1⟩ := ediv_bd (a := av + fl * (bd - ad) - bv) (show 0 < szS xs by omega)
    have HS : Hid (szS xs = sizeTo xs xs.length) := rfl
    have em : (fh - fl) * (bd - ad) = fh * (bd - ad) - fl * (bd - ad) := Int.sub_mul _ _ _
    have em0 : 0 ≤ (fh - fl) * (bd - ad) := by omega
    have em1 : (fh - fl) * (bd - ad) ≤ 100000000000 := by omega
    clear hf
    by_cases hx : szS xs ≤ sbFirst xs ad av bd bv fl + fh * (bd - ad) - fl * (bd - ad)
    · have HR := Lib.hid (sbV_2 h0 hx)
      unfold sbFirst at hx
      have hx' : szS xs ≤ (av + fl * (bd - ad) - bv) % szS xs + (fh - fl) * (bd - ad) := by omega
      clear em hx
      go_enter Try.func42, Try.ntmps42
      go_wp2_with (first | (go_at_call 150; refine (l04Pair_any hs h8 _ _ rfl _ (by repeat' (first | (with_reducible first | assumption | exact Below.refl _ _ | refine Below.drew ?_ | refine Below.alloc ?_ ?_ _ | refine Below.setCell ?_ ?_ _ | refine below_setR ?_ ?_ _ | refine below_dn ?_ _ | refine Below.trans ?_ (below_mo _ _ _ ?_) | refine Below.trans ?_ (below_mq _ _ ?_) | exact Nat.le_refl _) | (simp; done) | (simp; omega) | omega)) ad av bd bv fl fh).mono ?_; rintro e w' ⟨rfl, hb_⟩; obtain ⟨os_, d_, rfl⟩ := mo_of hb_; clear hb_) | (go_at_call 147; refine (l01Size_any hs h8 _ _ rfl _ (by repeat' (first | (with_reducible first | assumption | exact Below.refl _ _ | refine Below.drew ?_ | refine Below.alloc ?_ ?_ _ | refine Below.setCell ?_ ?_ _ | refine below_setR ?_ ?_ _ | refine below_dn ?_ _ | refine Below.trans ?_ (below_mo _ _ _ ?_) | refine Below.trans ?_ (below_mq _ _ ?_) | exact Nat.le_refl _) | (simp; done) | (simp; omega) | omega))).mono ?_; rintro e w' ⟨rfl, rfl⟩; rw [← HS.out]) | (go_at_call 155; refine (l04Mod_any (av + fl * (bd - ad) - bv) (szS xs) _ (by omega) (by omega)).mono ?_; rintro e w' ⟨rfl, rfl⟩))
      go_returns
      exact ⟨(by first | (rw [HR.out]; done) | (rw [HR.out]; rfl)), (by repeat' (first | (with_reducible first | assumption | exact Below.refl _ _ | refine Below.drew ?_ | refine Below.alloc ?_ ?_ _ | refine Below.setCell ?_ ?_ _ | refine below_setR ?_ ?_ _ | refine below_dn ?_ _ | refine Below.trans ?_ (below_mo _ _ _ ?_) | refine Below.trans ?_ (below_mq _ _ ?_) | exact Nat.le_refl _) | (simp; done) | (simp; omega) | omega))⟩
    · have HR := Lib.hid (sbV_3 h0 hx)
      unfold sbFirst at hx
      have hx' : (av + fl * (bd - ad) - bv) % szS xs + (fh - fl) * (bd - ad) < szS xs := by omega
      clear em hx
      go_enter Try.func42, Try.ntmps42
      go_wp2_with (first | (go_at_call 150; refine (l04Pair_any hs h8 _ _ rfl _ (by repeat' (first | (with_reducible first | assumption | exact Below.refl _ _ | refine Below.drew ?_ | refine Below.alloc ?_ ?_ _ | refine Below.setCell ?_ ?_ _ | refine below_setR ?_ ?_ _ | refine below_dn ?_ _ | refine Below.trans ?_ (below_mo _ _ _ ?_) | refine Below.trans ?_ (below_mq _ _ ?_) | exact Nat.le_refl _) | (simp; done) | (simp; omega) | omega)) ad av bd bv fl fh).mono ?_; rintro e w' ⟨rfl, hb_⟩; obtain ⟨os_, d_, rfl⟩ := mo_of hb_; clear hb_) | (go_at_call 147; refine (l01Size_any hs h8 _ _ rfl _ (by repeat' (first | (with_reducible first | assumption | exact Below.refl _ _ | refine Below.drew ?_ | refine Below.alloc ?_ ?_ _ | refine Below.setCell ?_ ?_ _ | refine below_setR ?_ ?_ _ | refine below_dn ?_ _ | refine Below.trans ?_ (below_mo _ _ _ ?_) | refine Below.trans ?_ (below_mq _ _ ?_) | exact Nat.le_refl _) | (simp; done) | (simp; omega) | omega))).mono ?_; rintro e w' ⟨rfl, rfl⟩; rw [← HS.out]) | (go_at_call 155; refine (l04Mod_any (av + fl * (bd - ad) - bv) (szS xs) _ (by omega) (by omega)).mono ?_; rintro e w' ⟨rfl, rfl⟩))
      go_returns
      exact ⟨(by first | (rw [HR.out]; done) | (rw [HR.out]; rfl)), (by repeat' (first | (with_reducible first | assumption | exact Below.refl _ _ | refine Below.drew ?_ | refine Below.alloc ?_ ?_ _ | refine Below.setCell ?_ ?_ _ | refine below_setR ?_ ?_ _ | refine below_dn ?_ _ | refine Below.trans ?_ (below_mo _ _ _ ?_) | refine Below.trans ?_ (below_mq _ _ ?_) | exact Nat.le_refl _) | (simp; done) | (simp; omega) | omega))⟩
  · have HR := Lib.hid (sbV_1 h0)
    obtain ⟨n1, n2⟩ := bne_f h0
    go_enter Try.func42, Try.ntmps42
    go_wp2_with (go_at_call 150; refine (l04Pair_any hs h8 _ _ rfl _ (by repeat' (first | (with_reducible first | assumption | exact Below.refl _ _ | refine Below.drew ?_ | refine Below.alloc ?_ ?_ _ | refine Below.setCell ?_ ?_ _ | refine below_setR ?_ ?_ _ | refine below_dn ?_ _ | refine Below.trans ?_ (below_mo _ _ _ ?_) | refine Below.trans ?_ (below_mq _ _ ?_) | exact Nat.le_refl _) | (simp; done) | (simp; omega) | omega)) ad av bd bv fl fh).mono ?_; rintro e w' ⟨rfl, hb_⟩; obtain ⟨os_, d_, rfl⟩ := mo_of hb_; clear hb_)
    go_returns
    exact ⟨(by first | (rw [HR.out]; done) | (rw [HR.out]; rfl)), (by repeat' (first | (with_reducible first | assumption | exact Below.refl _ _ | refine Below.drew ?_ | refine Below.alloc ?_ ?_ _ | refine Below.setCell ?_ ?_ _ | refine below_setR ?_ ?_ _ | refine below_dn ?_ _ | refine Below.trans ?_ (below_mo _ _ _ ?_) | refine Below.trans ?_ (below_mq _ _ ?_) | exact Nat.le_refl _) | (simp; done) | (simp; omega) | omega))⟩
end Go.Proofs.Ytbihgnmiocfelaa.X
