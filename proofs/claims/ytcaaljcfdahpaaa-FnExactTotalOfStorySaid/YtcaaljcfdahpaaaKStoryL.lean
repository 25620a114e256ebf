/- What the laws do with stories: they are copied, measured and compared. Conditions: none. -/
import Derived.Test.YtcaaljcfdahpaaaKCheck
namespace Go.Proofs.Ytcaaljcfdahpaaa.X
open Go.RowKit
set_option linter.unusedVariables false
set_option linter.unusedSimpArgs false
set_option maxRecDepth 100000
set_option maxHeartbeats 1000000 in
theorem toInt64S_new {A : Option Addr} {xs : List Int} {W : World} {B : Nat} (hs : Nums .i64 W B A xs) (c : Nat) (w : World) (hb : Below B W w) : Calls Try.prog 115 #[.slice A xs.length c] w (RetN2 .i64 xs w) := by
  obtain ⟨i0, hi, hz0, hz1, hz2⟩ := info_parts infoI
  have hl := hs.len
  have hmk : ∀ W : World, (Instr.makeSlice 64 (.int .i64 (xs.length : Int)) (.int .i64 (xs.length : Int))).run Try.prog W = .ok (.slice (some ⟨W.heap.size, 0, none⟩) xs.length xs.length) (W.alloc (.cells (madeCells #[.int .i64 0] (xs.length * 1)) 2)) := fun W => by
    have := run_make (P := Try.prog) W 64 2 i0 _ undI hi hz0 .i64 .i64 xs.length xs.length (by omega) (by omega) (by rw [hz2]; omega) (by omega)
    rw [hz1, Int.toNat_natCast] at this
    exact this
  clear hi hz0 hz1 hz2
  go_enter Try.func115, Try.ntmps115
  go_wp2
  clear hmk
  go_loopw [4] (fun i wr => ∃ (k : Nat) (cur : Array Value), k ≤ xs.length ∧ i = .int .i64 k ∧ wr = w.alloc (.cells cur 2) ∧ cur.size = xs.length * 1 ∧ Fill 1 (fun x => [Value.int .i64 x]) cur xs k) (fun i _ => xs.length - (intOf i).toNat)
  case atStart => exact ⟨0, _, Nat.zero_le _, rfl, rfl, (size_madeCells _ _).trans (Nat.mul_one _).symm, Fill.zero⟩
  case round =>
    obtain ⟨k, cur, hk, rfl, rfl, hcur, hall⟩ := hrel
    have HC := Lib.hid hcur
    have HA := Lib.hid hall
    clear hcur hall
    by_cases hlt : k < xs.length
    · obtain ⟨b, off, rfl, hbs, hc⟩ := hs.at hb hlt
      obtain ⟨v0, hv0⟩ : ∃ v, cur[k]? = some v := ⟨_, Array.getElem?_eq_getElem (by have := HC.out; omega)⟩
      go_wp2
      exact ⟨⟨k + 1, _, by omega, by go_num, rfl, by simp [HC.out], Fill.step1 HA.out (by have := HC.out; omega)⟩, by simp [intOf]; omega⟩
    · obtain rfl : k = xs.length := by omega
      go_wp2
      go_ret
      have hd := (HA.out.done (Nat.le_refl _) : SL (mo (w.alloc (.cells cur 2)) #[] (w.alloc (.cells cur 2)).drawn) _ _ _ _ _)
      rw [mo_nil] at hd
      exact ⟨_, _, rfl, ⟨hd, hs.len, Nat.le_refl _⟩, fun b off e => (by injection e with e; injection e with e1; omega), (by repeat' (first | (with_reducible first | assumption | exact Below.refl _ _ | refine Below.drew ?_ | refine Below.alloc ?_ ?_ _ | refine Below.setCell ?_ ?_ _ | refine below_setR ?_ ?_ _ | refine below_dn ?_ _ | refine Below.trans ?_ (below_mo _ _ _ ?_) | refine Below.trans ?_ (below_mq _ _ ?_) | exact Nat.le_refl _) | (simp; done) | (simp; omega) | omega))⟩
/-- The call hands back a story that lies in new memory. -/
def RetY (ks bs : List Int) (cost : Int) (w : World) (e : Ending) (w' : World) : Prop :=
  ∃ A d L dl, e = .returned (.agg #[.slice A ks.length d, .slice L bs.length dl, .int .i64 cost]) ∧ Nums .i64 w' w'.heap.size A ks ∧ Nums .i64 w' w'.heap.size L bs ∧ Below w.heap.size w w'
theorem Nums.upY {q : IntKind} {W w : World} {A : Option Addr} {xs : List Int} (h : Nums q W W.heap.size A xs) (hb : Below W.heap.size W w) : Nums q w w.heap.size A xs := ⟨h.sl.keep hb (Nat.le_refl _) hb.size, h.len, Nat.le_refl _⟩
set_option maxHeartbeats 1000000 in
theorem toStory_any {Ak : Option Addr} {ks : List Int} {W1 : World} {B1 : Nat} (hk : Nums .i64 W1 B1 Ak ks) (ck : Nat) {Ab : Option Addr} {bs : List Int} {W2 : World} {B2 : Nat} (hbs : Nums .i64 W2 B2 Ab bs) (cb : Nat) (cost : Int) (w : World) (v1 : Below B1 W1 w) (v2 : Below B2 W2 w) : Calls Try.prog 58 #[.agg #[.slice Ak ks.length ck, .slice Ab bs.length cb, .int .i64 cost]] w (RetY ks bs cost w) := by
  have hB := hk.bsz v1
  have hC := hbs.bsz v2
  go_enter Try.func58, Try.ntmps58
  go_wp2_with fail
  refine (toInt64S_new hk _ _ (by repeat' (first | (with_reducible first | assumption | exact Below.refl _ _ | refine Below.drew ?_ | refine Below.alloc ?_ ?_ _ | refine Below.setCell ?_ ?_ _ | refine below_setR ?_ ?_ _ | refine below_dn ?_ _ | refine Below.trans ?_ (below_mo _ _ _ ?_) | refine Below.trans ?_ (below_mq _ _ ?_) | exact Nat.le_refl _) | (simp; done) | (simp; omega) | omega))).mono ?_
  rintro e w' ⟨A1, c1, rfl, h1, hn1, hb_⟩
  obtain ⟨os1, d1, rfl⟩ := mo_of hb_
  clear hb_
  go_wp2_with fail
  refine (toInt64S_new hbs _ _ (by repeat' (first | (with_reducible first | assumption | exact Below.refl _ _ | refine Below.drew ?_ | refine Below.alloc ?_ ?_ _ | refine Below.setCell ?_ ?_ _ | refine below_setR ?_ ?_ _ | refine below_dn ?_ _ | refine Below.trans ?_ (below_mo _ _ _ ?_) | refine Below.trans ?_ (below_mq _ _ ?_) | exact Nat.le_refl _) | (simp; done) | (simp; omega) | omega))).mono ?_
  rintro e w' ⟨L1, dl1, rfl, h2, hn2, hb_⟩
  obtain ⟨os2, d2, rfl⟩ := mo_of hb_
  clear hb_
  go_wp2
  refine bodyPost_ret (v := .agg #[.slice A1 ks.length c1, .slice L1 bs.length dl1, .int .i64 cost]) (by simp [results, Try.results58, go_sem]) rfl ⟨A1, c1, L1, dl1, rfl, ?_, ?_, (by repeat' (first | (with_reducible first | assumption | exact Below.refl _ _ | refine Below.drew ?_ | refine Below.alloc ?_ ?_ _ | refine Below.setCell ?_ ?_ _ | refine below_setR ?_ ?_ _ | refine below_dn ?_ _ | refine Below.trans ?_ (below_mo _ _ _ ?_) | refine Below.trans ?_ (below_mq _ _ ?_) | exact Nat.le_refl _) | (simp; done) | (simp; omega) | omega))⟩
  · exact (h1.swap (by simp) hn1).upY (below_mo _ _ _ (Nat.le_refl _))
  · rw [mo_mo] at h2 ⊢
    exact h2.swap (by simp) (fun b off e => by have := hn2 b off e; simp only [size_mo] at this; omega)
set_option maxHeartbeats 1000000 in
theorem eqStory_same {A A' : Option Addr} {ks : List Int} {W W' : World} {B B' : Nat} (hs : Nums .i64 W B A ks) (hs' : Nums .i64 W' B' A' ks) {L L' : Option Addr} {bs : List Int} {V V' : World} {C C' : Nat} (hl : Nums .i64 V C L bs) (hl' : Nums .i64 V' C' L' bs) (c c' d d' : Nat) (cost : Int) (w : World) (hb : Below B W w) (hb' : Below B' W' w) (hv : Below C V w) (hv' : Below C' V' w) :
    Calls Try.prog 60 #[.agg #[.slice A ks.length c, .slice L bs.length d, .int .i64 cost], .agg #[.slice A' ks.length c', .slice L' bs.length d', .int .i64 cost]] w fun e w' => e = .returned (.bool true) ∧ Below w.heap.size w w' := by
  have hB := hs.bsz hb
  have hB' := hs'.bsz hb'
  have hC := hl.bsz hv
  have hC' := hl'.bsz hv'
  go_enter Try.func60, Try.ntmps60
  (go_wp2_with fail; refine (eqInt64S_same hs hs' _ _ _ rfl _ (by repeat' (first | (with_reducible first | assumption | exact Below.refl _ _ | refine Below.drew ?_ | refine Below.alloc ?_ ?_ _ | refine Below.setCell ?_ ?_ _ | refine below_setR ?_ ?_ _ | refine below_dn ?_ _ | refine Below.trans ?_ (below_mo _ _ _ ?_) | refine Below.trans ?_ (below_mq _ _ ?_) | exact Nat.le_refl _) | (simp; done) | (simp; omega) | omega)) (by repeat' (first | (with_reducible first | assumption | exact Below.refl _ _ | refine Below.drew ?_ | refine Below.alloc ?_ ?_ _ | refine Below.setCell ?_ ?_ _ | refine below_setR ?_ ?_ _ | refine below_dn ?_ _ | refine Below.trans ?_ (below_mo _ _ _ ?_) | refine Below.trans ?_ (below_mq _ _ ?_) | exact Nat.le_refl _) | (simp; done) | (simp; omega) | omega))).mono ?_; rintro e w' ⟨rfl, hb_⟩; obtain ⟨os1, d1, rfl⟩ := mo_of hb_; clear hb_)
  (go_wp2_with fail; refine (eqInt64S_same hl hl' _ _ _ rfl _ (by repeat' (first | (with_reducible first | assumption | exact Below.refl _ _ | refine Below.drew ?_ | refine Below.alloc ?_ ?_ _ | refine Below.setCell ?_ ?_ _ | refine below_setR ?_ ?_ _ | refine below_dn ?_ _ | refine Below.trans ?_ (below_mo _ _ _ ?_) | refine Below.trans ?_ (below_mq _ _ ?_) | exact Nat.le_refl _) | (simp; done) | (simp; omega) | omega)) (by repeat' (first | (with_reducible first | assumption | exact Below.refl _ _ | refine Below.drew ?_ | refine Below.alloc ?_ ?_ _ | refine Below.setCell ?_ ?_ _ | refine below_setR ?_ ?_ _ | refine below_dn ?_ _ | refine Below.trans ?_ (below_mo _ _ _ ?_) | refine Below.trans ?_ (below_mq _ _ ?_) | exact Nat.le_refl _) | (simp; done) | (simp; omega) | omega))).mono ?_; rintro e w' ⟨rfl, hb_⟩; obtain ⟨os2, d2, rfl⟩ := mo_of hb_; clear hb_)
  go_wp2
  go_ret
  exact ⟨rfl, (by repeat' (first | (with_reducible first | assumption | exact Below.refl _ _ | refine Below.drew ?_ | refine Below.alloc ?_ ?_ _ | refine Below.setCell ?_ ?_ _ | refine below_setR ?_ ?_ _ | refine below_dn ?_ _ | refine Below.trans ?_ (below_mo _ _ _ ?_) | refine Below.trans ?_ (below_mq _ _ ?_) | exact Nat.le_refl _) | (simp; done) | (simp; omega) | omega))⟩
theorem szI_big {A : Option Addr} (n c : Nat) (left : Int) (h0 : 0 ≤ left) (h1 : left ≤ 1048576) (w : World) (hl : left < (n : Int)) (hn : n ≤ 9223372036854775807) : Calls Try.prog 113 #[.slice A n c, .int .i64 left] w fun e w' => e = .returned (.int .i64 (-1)) ∧ w = w' := by
  go_enter Try.func113, Try.ntmps113
  go_wp2
  go_ret
  exact ⟨rfl, rfl⟩
theorem szI_ok {A : Option Addr} (n c : Nat) (left : Int) (h0 : 0 ≤ left) (h1 : left ≤ 1048576) (w : World) (hl : ¬ left < (n : Int)) : Calls Try.prog 113 #[.slice A n c, .int .i64 left] w fun e w' => e = .returned (.int .i64 (left - n)) ∧ w = w' := by
  have h2 : (n : Int) ≤ left := by omega
  go_enter Try.func113, Try.ntmps113
  go_wp2
  go_ret
  exact ⟨rfl, rfl⟩
/-- what is left of a measure behind a story -/
def szY (left : Int) (n m : Nat) : Int := if left < (n : Int) then -1 else if left - n < (m : Int) then -1 else left - n - m
set_option maxHeartbeats 1000000 in
theorem szStory_any {A L : Option Addr} (n c m d : Nat) (cost left : Int) (h0 : 0 ≤ left) (h1 : left ≤ 1048576) (w : World) (hn : n ≤ 9223372036854775807) (hm : m ≤ 9223372036854775807) : Calls Try.prog 56 #[.agg #[.slice A n c, .slice L m d, .int .i64 cost], .int .i64 left] w fun e w' => e = .returned (.int .i64 (szY left n m)) ∧ Below w.heap.size w w' := by
  by_cases hl : left < (n : Int)
  · have HR : Hid (szY left n m = -1) := by unfold Hid szY; rw [if_pos hl]
    go_enter Try.func56, Try.ntmps56
    go_wp2_with (go_at_call 113; refine (szI_big n c left h0 h1 _ hl hn).mono ?_; rintro e w' ⟨rfl, rfl⟩)
    go_ret
    exact ⟨(by first | (rw [HR.out]; done) | (rw [HR.out]; rfl)), (by repeat' (first | (with_reducible first | assumption | exact Below.refl _ _ | refine Below.drew ?_ | refine Below.alloc ?_ ?_ _ | refine Below.setCell ?_ ?_ _ | refine below_setR ?_ ?_ _ | refine below_dn ?_ _ | refine Below.trans ?_ (below_mo _ _ _ ?_) | refine Below.trans ?_ (below_mq _ _ ?_) | exact Nat.le_refl _) | (simp; done) | (simp; omega) | omega))⟩
  · by_cases hk : left - n < (m : Int)
    · have HR : Hid (szY left n m = -1) := by unfold Hid szY; rw [if_neg hl, if_pos hk]
      go_enter Try.func56, Try.ntmps56
      have h5 : 0 ≤ left - n := by omega
      (go_wp2_with fail; refine (szI_ok n c left h0 h1 _ (by omega)).mono ?_; rintro e w' ⟨rfl, rfl⟩)
      (go_wp2_with fail; refine (szI_big m d (left - n) h5 (by omega) _ hk hm).mono ?_; rintro e w' ⟨rfl, rfl⟩)
      go_wp2
      go_ret
      exact ⟨(by first | (rw [HR.out]; done) | (rw [HR.out]; rfl)), (by repeat' (first | (with_reducible first | assumption | exact Below.refl _ _ | refine Below.drew ?_ | refine Below.alloc ?_ ?_ _ | refine Below.setCell ?_ ?_ _ | refine below_setR ?_ ?_ _ | refine below_dn ?_ _ | refine Below.trans ?_ (below_mo _ _ _ ?_) | refine Below.trans ?_ (below_mq _ _ ?_) | exact Nat.le_refl _) | (simp; done) | (simp; omega) | omega))⟩
    · have HR : Hid (szY left n m = left - n - m) := by unfold Hid szY; rw [if_neg hl, if_neg hk]
      have h2 : (n : Int) ≤ left := by omega
      have h3 : (m : Int) ≤ left - n := by omega
      have h4 : 0 ≤ left - n - m := by omega
      have h5 : 0 ≤ left - n := by omega
      go_enter Try.func56, Try.ntmps56
      (go_wp2_with fail; refine (szI_ok n c left h0 h1 _ (by omega)).mono ?_; rintro e w' ⟨rfl, rfl⟩)
      (go_wp2_with fail; refine (szI_ok m d (left - n) h5 (by omega) _ (by omega)).mono ?_; rintro e w' ⟨rfl, rfl⟩)
      go_wp2
      go_ret
      exact ⟨(by first | (rw [HR.out]; done) | (rw [HR.out]; rfl)), (by repeat' (first | (with_reducible first | assumption | exact Below.refl _ _ | refine Below.drew ?_ | refine Below.alloc ?_ ?_ _ | refine Below.setCell ?_ ?_ _ | refine below_setR ?_ ?_ _ | refine below_dn ?_ _ | refine Below.trans ?_ (below_mo _ _ _ ?_) | refine Below.trans ?_ (below_mq _ _ ?_) | exact Nat.le_refl _) | (simp; done) | (simp; omega) | omega))⟩
end Go.Proofs.Ytcaaljcfdahpaaa.X
