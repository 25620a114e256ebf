/- CheckStory, both answers. Conditions: none. -/
import Derived.Test.YtcaaljcfdahpaaaKToldS
namespace Go.Proofs.Ytcaaljcfdahpaaa.X
open Go.RowKit
set_option linter.unusedVariables false
set_option linter.unusedSimpArgs false
set_option maxRecDepth 100000
/-- what CheckStory returns -/
def csV (xs : List Int) (log : List (Int × Int)) (fl fh : Int) (ks bs : List Int) (cost : Int) : Bool := (okL xs log && okF fl fh) && toldB (can xs log fl fh) log.length ks bs cost
set_option maxHeartbeats 2000000 in
theorem implCheck_any {A : Option Addr} {xs : List Int} {W : World} {B : Nat} (hs : Nums .u8 W B A xs) (h8 : b8 xs) (n c : Nat) (hn : xs.length = n) (w : World) (hb : Below B W w) {L : Option Addr} {log : List (Int × Int)} {V : World} {C : Nat} (hl : Prs .i64 .i64 V C L log) (cl : Nat) (hv : Below C V w) (fl fh : Int) {Ak : Option Addr} {ks : List Int} {W1 : World} {B1 : Nat} (hk : Nums .i64 W1 B1 Ak ks) (ck : Nat) {Ab : Option Addr} {bs : List Int} {W2 : World} {B2 : Nat} (hbs : Nums .i64 W2 B2 Ab bs) (cb : Nat) (cost : Int) (v1 : Below B1 W1 w) (v2 : Below B2 W2 w) :
    Calls Try.prog 59 #[.slice A n c, .slice L log.length cl, .agg #[.int .i64 fl, .int .i64 fh], .agg #[.slice Ak ks.length ck, .slice Ab bs.length cb, .int .i64 cost]] w fun e w' => e = .returned (.tuple #[.bool (csV xs log fl fh ks bs cost), .int .i64 (suC xs log fl fh)]) ∧ Below w.heap.size w w' := by
  obtain rfl := hn
  have hB := hs.bsz hb
  have hC := hl.bsz hv
  have hB1 := hk.bsz v1
  have hB2 := hbs.bsz v2
  cases h1 : (okL xs log && okF fl fh)
  · have HR : Hid (suC xs log fl fh = 1) := by unfold Hid suC; rw [h1]; rfl
    have HV : Hid (csV xs log fl fh ks bs cost = false) := by unfold Hid csV; rw [h1]; rfl
    have HK := Lib.hid h1
    clear h1
    go_enter Try.func59, Try.ntmps59
    (go_wp2_with fail; refine (detective_any hs h8 _ _ rfl _ (by repeat' (first | (with_reducible first | assumption | exact Below.refl _ _ | refine Below.drew ?_ | refine Below.alloc ?_ ?_ _ | refine Below.setCell ?_ ?_ _ | refine below_setR ?_ ?_ _ | refine below_dn ?_ _ | refine Below.trans ?_ (below_mo _ _ _ ?_) | refine Below.trans ?_ (below_mq _ _ ?_) | exact Nat.le_refl _) | (simp; done) | (simp; omega) | omega)) hl _ (by repeat' (first | (with_reducible first | assumption | exact Below.refl _ _ | refine Below.drew ?_ | refine Below.alloc ?_ ?_ _ | refine Below.setCell ?_ ?_ _ | refine below_setR ?_ ?_ _ | refine below_dn ?_ _ | refine Below.trans ?_ (below_mo _ _ _ ?_) | refine Below.trans ?_ (below_mq _ _ ?_) | exact Nat.le_refl _) | (simp; done) | (simp; omega) | omega)) fl fh).mono ?_)
    rintro e w1 ⟨hbl, ⟨hok, rfl⟩ | ⟨D, hok, rfl, hDb, hdet⟩⟩
    · obtain ⟨os1, d1, rfl⟩ := mo_of hbl
      clear hbl
      go_wp2
      go_returns
      exact ⟨by rw [HR.out, HV.out]; first | done | rfl, (by repeat' (first | (with_reducible first | assumption | exact Below.refl _ _ | refine Below.drew ?_ | refine Below.alloc ?_ ?_ _ | refine Below.setCell ?_ ?_ _ | refine below_setR ?_ ?_ _ | refine below_dn ?_ _ | refine Below.trans ?_ (below_mo _ _ _ ?_) | refine Below.trans ?_ (below_mq _ _ ?_) | exact Nat.le_refl _) | (simp; done) | (simp; omega) | omega))⟩
    · rw [HK.out] at hok
      cases hok
  · have HR : Hid (suC xs log fl fh = 0) := by unfold Hid suC; rw [h1]; rfl
    have HV : Hid (csV xs log fl fh ks bs cost = toldB (can xs log fl fh) log.length ks bs cost) := by unfold Hid csV; rw [h1]; rfl
    have HK := Lib.hid h1
    have h40 : log.length ≤ 40 := (okL_parts ((Bool.and_eq_true _ _).mp h1).1).2.1
    clear h1
    go_enter Try.func59, Try.ntmps59
    (go_wp2_with fail; refine (detective_any hs h8 _ _ rfl _ (by repeat' (first | (with_reducible first | assumption | exact Below.refl _ _ | refine Below.drew ?_ | refine Below.alloc ?_ ?_ _ | refine Below.setCell ?_ ?_ _ | refine below_setR ?_ ?_ _ | refine below_dn ?_ _ | refine Below.trans ?_ (below_mo _ _ _ ?_) | refine Below.trans ?_ (below_mq _ _ ?_) | exact Nat.le_refl _) | (simp; done) | (simp; omega) | omega)) hl _ (by repeat' (first | (with_reducible first | assumption | exact Below.refl _ _ | refine Below.drew ?_ | refine Below.alloc ?_ ?_ _ | refine Below.setCell ?_ ?_ _ | refine below_setR ?_ ?_ _ | refine below_dn ?_ _ | refine Below.trans ?_ (below_mo _ _ _ ?_) | refine Below.trans ?_ (below_mq _ _ ?_) | exact Nat.le_refl _) | (simp; done) | (simp; omega) | omega)) fl fh).mono ?_)
    rintro e w1 ⟨hbl, ⟨hok, rfl⟩ | ⟨D, hok, rfl, hDb, hdet⟩⟩
    · rw [HK.out] at hok
      cases hok
    obtain ⟨os1, d1, rfl⟩ := mo_of hbl
    clear hbl
    have T1 := Lib.hid (fun W' hW hX hY => told_any hdet (Nat.le_refl _) hk ck hbs cb cost h40 W' hW hX hY)
    clear hdet
    (go_wp2_with fail; refine (T1.out _ (Below.refl _ _) (by repeat' (first | (with_reducible first | assumption | exact Below.refl _ _ | refine Below.drew ?_ | refine Below.alloc ?_ ?_ _ | refine Below.setCell ?_ ?_ _ | refine below_setR ?_ ?_ _ | refine below_dn ?_ _ | refine Below.trans ?_ (below_mo _ _ _ ?_) | refine Below.trans ?_ (below_mq _ _ ?_) | exact Nat.le_refl _) | (simp; done) | (simp; omega) | omega)) (by repeat' (first | (with_reducible first | assumption | exact Below.refl _ _ | refine Below.drew ?_ | refine Below.alloc ?_ ?_ _ | refine Below.setCell ?_ ?_ _ | refine below_setR ?_ ?_ _ | refine below_dn ?_ _ | refine Below.trans ?_ (below_mo _ _ _ ?_) | refine Below.trans ?_ (below_mq _ _ ?_) | exact Nat.le_refl _) | (simp; done) | (simp; omega) | omega))).mono ?_; rintro e w' ⟨rfl, hb_⟩; obtain ⟨os2, d2, rfl⟩ := mo_of hb_; clear hb_)
    go_wp2
    go_returns
    exact ⟨by rw [HR.out, HV.out]; first | done | rfl, (by repeat' (first | (with_reducible first | assumption | exact Below.refl _ _ | refine Below.drew ?_ | refine Below.alloc ?_ ?_ _ | refine Below.setCell ?_ ?_ _ | refine below_setR ?_ ?_ _ | refine below_dn ?_ _ | refine Below.trans ?_ (below_mo _ _ _ ?_) | refine Below.trans ?_ (below_mq _ _ ?_) | exact Nat.le_refl _) | (simp; done) | (simp; omega) | omega))⟩
set_option maxHeartbeats 2000000 in
theorem specCheck_any {A : Option Addr} {xs : List Int} {W : World} {B : Nat} (hs : Nums .u8 W B A xs) (h8 : b8 xs) (n c : Nat) (hn : xs.length = n) (w : World) (hb : Below B W w) {L : Option Addr} {log : List (Int × Int)} {V : World} {C : Nat} (hl : Prs .i64 .i64 V C L log) (cl : Nat) (hv : Below C V w) (fl fh : Int) {Ak : Option Addr} {ks : List Int} {W1 : World} {B1 : Nat} (hk : Nums .i64 W1 B1 Ak ks) (ck : Nat) {Ab : Option Addr} {bs : List Int} {W2 : World} {B2 : Nat} (hbs : Nums .i64 W2 B2 Ab bs) (cb : Nat) (cost : Int) (v1 : Below B1 W1 w) (v2 : Below B2 W2 w) :
    Calls Try.prog 57 #[.slice A n c, .slice L log.length cl, .agg #[.int .i64 fl, .int .i64 fh], .agg #[.slice Ak ks.length ck, .slice Ab bs.length cb, .int .i64 cost]] w fun e w' => e = .returned (.tuple #[.bool (csV xs log fl fh ks bs cost), .int .i64 (suC xs log fl fh)]) ∧ Below w.heap.size w w' := by
  obtain rfl := hn
  have hB := hs.bsz hb
  have hC := hl.bsz hv
  have hB1 := hk.bsz v1
  have hB2 := hbs.bsz v2
  cases h1 : (okL xs log && okF fl fh)
  · have HR : Hid (suC xs log fl fh = 1) := by unfold Hid suC; rw [h1]; rfl
    have HV : Hid (csV xs log fl fh ks bs cost = false) := by unfold Hid csV; rw [h1]; rfl
    clear h1
    go_enter Try.func57, Try.ntmps57
    (go_wp2_with fail; refine (l04Asked_any hs h8 _ _ rfl _ (by repeat' (first | (with_reducible first | assumption | exact Below.refl _ _ | refine Below.drew ?_ | refine Below.alloc ?_ ?_ _ | refine Below.setCell ?_ ?_ _ | refine below_setR ?_ ?_ _ | refine below_dn ?_ _ | refine Below.trans ?_ (below_mo _ _ _ ?_) | refine Below.trans ?_ (below_mq _ _ ?_) | exact Nat.le_refl _) | (simp; done) | (simp; omega) | omega)) hl _ (by repeat' (first | (with_reducible first | assumption | exact Below.refl _ _ | refine Below.drew ?_ | refine Below.alloc ?_ ?_ _ | refine Below.setCell ?_ ?_ _ | refine below_setR ?_ ?_ _ | refine below_dn ?_ _ | refine Below.trans ?_ (below_mo _ _ _ ?_) | refine Below.trans ?_ (below_mq _ _ ?_) | exact Nat.le_refl _) | (simp; done) | (simp; omega) | omega)) fl fh).mono ?_; rintro e w' ⟨rfl, hb_⟩; obtain ⟨os0, d0, rfl⟩ := mo_of hb_; clear hb_)
    rw [HR.out]
    go_wp2
    go_returns
    exact ⟨by rw [HR.out, HV.out]; first | done | rfl, (by repeat' (first | (with_reducible first | assumption | exact Below.refl _ _ | refine Below.drew ?_ | refine Below.alloc ?_ ?_ _ | refine Below.setCell ?_ ?_ _ | refine below_setR ?_ ?_ _ | refine below_dn ?_ _ | refine Below.trans ?_ (below_mo _ _ _ ?_) | refine Below.trans ?_ (below_mq _ _ ?_) | exact Nat.le_refl _) | (simp; done) | (simp; omega) | omega))⟩
  · have HR : Hid (suC xs log fl fh = 0) := by unfold Hid suC; rw [h1]; rfl
    have HV : Hid (csV xs log fl fh ks bs cost = toldB (can xs log fl fh) log.length ks bs cost) := by unfold Hid csV; rw [h1]; rfl
    have HK := Lib.hid ((Bool.and_eq_true _ _).mp h1)
    clear h1
    go_enter Try.func57, Try.ntmps57
    (go_wp2_with fail; refine (l04Asked_any hs h8 _ _ rfl _ (by repeat' (first | (with_reducible first | assumption | exact Below.refl _ _ | refine Below.drew ?_ | refine Below.alloc ?_ ?_ _ | refine Below.setCell ?_ ?_ _ | refine below_setR ?_ ?_ _ | refine below_dn ?_ _ | refine Below.trans ?_ (below_mo _ _ _ ?_) | refine Below.trans ?_ (below_mq _ _ ?_) | exact Nat.le_refl _) | (simp; done) | (simp; omega) | omega)) hl _ (by repeat' (first | (with_reducible first | assumption | exact Below.refl _ _ | refine Below.drew ?_ | refine Below.alloc ?_ ?_ _ | refine Below.setCell ?_ ?_ _ | refine below_setR ?_ ?_ _ | refine below_dn ?_ _ | refine Below.trans ?_ (below_mo _ _ _ ?_) | refine Below.trans ?_ (below_mq _ _ ?_) | exact Nat.le_refl _) | (simp; done) | (simp; omega) | omega)) fl fh).mono ?_; rintro e w' ⟨rfl, hb_⟩; obtain ⟨os0, d0, rfl⟩ := mo_of hb_; clear hb_)
    rw [HR.out]
    (go_wp2_with fail; refine (l04Told_any hs h8 _ _ rfl _ (by repeat' (first | (with_reducible first | assumption | exact Below.refl _ _ | refine Below.drew ?_ | refine Below.alloc ?_ ?_ _ | refine Below.setCell ?_ ?_ _ | refine below_setR ?_ ?_ _ | refine below_dn ?_ _ | refine Below.trans ?_ (below_mo _ _ _ ?_) | refine Below.trans ?_ (below_mq _ _ ?_) | exact Nat.le_refl _) | (simp; done) | (simp; omega) | omega)) hl _ (by repeat' (first | (with_reducible first | assumption | exact Below.refl _ _ | refine Below.drew ?_ | refine Below.alloc ?_ ?_ _ | refine Below.setCell ?_ ?_ _ | refine below_setR ?_ ?_ _ | refine below_dn ?_ _ | refine Below.trans ?_ (below_mo _ _ _ ?_) | refine Below.trans ?_ (below_mq _ _ ?_) | exact Nat.le_refl _) | (simp; done) | (simp; omega) | omega)) fl fh hk ck hbs cb cost (by repeat' (first | (with_reducible first | assumption | exact Below.refl _ _ | refine Below.drew ?_ | refine Below.alloc ?_ ?_ _ | refine Below.setCell ?_ ?_ _ | refine below_setR ?_ ?_ _ | refine below_dn ?_ _ | refine Below.trans ?_ (below_mo _ _ _ ?_) | refine Below.trans ?_ (below_mq _ _ ?_) | exact Nat.le_refl _) | (simp; done) | (simp; omega) | omega)) (by repeat' (first | (with_reducible first | assumption | exact Below.refl _ _ | refine Below.drew ?_ | refine Below.alloc ?_ ?_ _ | refine Below.setCell ?_ ?_ _ | refine below_setR ?_ ?_ _ | refine below_dn ?_ _ | refine Below.trans ?_ (below_mo _ _ _ ?_) | refine Below.trans ?_ (below_mq _ _ ?_) | exact Nat.le_refl _) | (simp; done) | (simp; omega) | omega)) _ (by first | assumption | (simp [go_sem]; done) | (simp [go_sem, *]; done) | (simp [go_sem]; rfl)) (by first | assumption | (simp [go_sem]; done) | (simp [go_sem, *]; done) | (simp [go_sem]; rfl)) (by first | assumption | (simp [go_sem]; done) | (simp [go_sem, *]; done) | (simp [go_sem]; rfl)) HK.out.1 HK.out.2).mono ?_; rintro e w' ⟨rfl, hb_⟩; obtain ⟨os2, d2, rfl⟩ := mo_of hb_; clear hb_)
    go_wp2
    go_returns
    exact ⟨by rw [HR.out, HV.out]; first | done | rfl, (by repeat' (first | (with_reducible first | assumption | exact Below.refl _ _ | refine Below.drew ?_ | refine Below.alloc ?_ ?_ _ | refine Below.setCell ?_ ?_ _ | refine below_setR ?_ ?_ _ | refine below_dn ?_ _ | refine Below.trans ?_ (below_mo _ _ _ ?_) | refine Below.trans ?_ (below_mq _ _ ?_) | exact Nat.le_refl _) | (simp; done) | (simp; omega) | omega))⟩
end Go.Proofs.Ytcaaljcfdahpaaa.X
