/- What the laws do with stacks and digits: they are copied and compared. Conditions: none. -/
import Derived.Test.YtbihgnmiocfelaaKDigits
namespace Go.Proofs.Ytbihgnmiocfelaa.X
open Go.RowKit
set_option linter.unusedVariables false
set_option linter.unusedSimpArgs false
set_option maxRecDepth 100000
theorem infoU8 : (Try.prog.info? 5).map (fun i => (i.zero, i.size, i.bytes)) = some (some (.int .u8 0), 1, 1) := by kernel_rfl
set_option maxHeartbeats 1000000 in
theorem toStack_new {A : Option Addr} {xs : List Int} {W : World} {B : Nat} (hs : Nums .u8 W B A xs) (h8 : b8 xs) (n c : Nat) (hn : xs.length = n) (w : World) (hb : Below B W w) : Calls Try.prog 23 #[.slice A n c] w (RetN2 .u8 xs w) := by
  obtain ⟨i0, hi, hz0, hz1, hz2⟩ := info_parts infoU8
  have hl := hs.len
  obtain rfl := hn
  have hmk : ∀ W : World, (Instr.makeSlice 39 (.int .i64 (xs.length : Int)) (.int .i64 (xs.length : Int))).run Try.prog W = .ok (.slice (some ⟨W.heap.size, 0, none⟩) xs.length xs.length) (W.alloc (.cells (madeCells #[.int .u8 0] (xs.length * 1)) 5)) := fun W => by
    have := run_make (P := Try.prog) W 39 5 i0 _ Try.underlying39 hi hz0 .i64 .i64 xs.length xs.length (by omega) (by omega) (by rw [hz2]; omega) (by omega)
    rw [hz1, Int.toNat_natCast] at this
    exact this
  clear hi hz0 hz1 hz2
  go_enter Try.func23, Try.ntmps23
  go_wp2
  clear hmk
  go_loopw [4] (fun i wr => ∃ (k : Nat) (cur : Array Value), k ≤ xs.length ∧ i = .int .i64 k ∧ wr = w.alloc (.cells cur 5) ∧ cur.size = xs.length * 1 ∧ Fill 1 (fun x => [Value.int .u8 x]) cur xs k) (fun i _ => xs.length - (intOf i).toNat)
  case atStart => exact ⟨0, _, Nat.zero_le _, rfl, rfl, (size_madeCells _ _).trans (Nat.mul_one _).symm, Fill.zero⟩
  case round =>
    obtain ⟨k, cur, hk, rfl, rfl, hcur, hall⟩ := hrel
    have HC := Lib.hid hcur
    have HA := Lib.hid hall
    clear hcur hall
    by_cases hlt : k < xs.length
    · obtain ⟨b, off, rfl, hbs, hc⟩ := hs.at hb hlt
      obtain ⟨v0, hv0⟩ : ∃ v, cur[k]? = some v := ⟨_, Array.getElem?_eq_getElem (by have := HC.out; omega)⟩
      go_wp2
      exact ⟨⟨k + 1, _, by omega, by go_num, rfl, by simp [HC.out], Fill.step1 HA.out (by have := HC.out; omega)⟩, by simp [intOf]; omega⟩
    · obtain rfl : k = xs.length := by omega
      go_wp2
      go_ret
      have hd := (HA.out.done (Nat.le_refl _) : SL (mo (w.alloc (.cells cur 5)) #[] (w.alloc (.cells cur 5)).drawn) _ _ _ _ _)
      rw [mo_nil] at hd
      exact ⟨_, _, rfl, ⟨hd, hs.len, Nat.le_refl _⟩, fun b off e => (by injection e with e; injection e with e1; omega), (by repeat' (first | (with_reducible first | assumption | exact Below.refl _ _ | refine Below.drew ?_ | refine Below.alloc ?_ ?_ _ | refine Below.setCell ?_ ?_ _ | refine below_setR ?_ ?_ _ | refine below_dn ?_ _ | refine Below.trans ?_ (below_mo _ _ _ ?_) | refine Below.trans ?_ (below_mq _ _ ?_) | exact Nat.le_refl _) | (simp; done) | (simp; omega) | omega))⟩
theorem toStack_any {A : Option Addr} {xs : List Int} {W : World} {B : Nat} (hs : Nums .u8 W B A xs) (h8 : b8 xs) (n c : Nat) (hn : xs.length = n) (w : World) (hb : Below B W w) : Calls Try.prog 23 #[.slice A n c] w (RetN .u8 xs w) := (toStack_new hs h8 _ _ hn _ hb).mono fun _ _ => retN_of
set_option maxHeartbeats 1000000 in
theorem eqStack_same {A A' : Option Addr} {xs : List Int} {W W' : World} {B B' : Nat} (hs : Nums .u8 W B A xs) (hs' : Nums .u8 W' B' A' xs) (n c c' : Nat) (hn : xs.length = n) (w : World) (hb : Below B W w) (hb' : Below B' W' w) :
    Calls Try.prog 26 #[.slice A n c, .slice A' n c'] w fun e w' => e = .returned (.bool true) ∧ Below w.heap.size w w' := by
  have hl := hs.len
  obtain rfl := hn
  go_enter Try.func26, Try.ntmps26
  go_wp2
  go_loopw [5] (fun i wr => ∃ k : Nat, k ≤ xs.length ∧ i = .int .i64 k ∧ ∃ n, wr = w.drewN n) (fun i _ => xs.length - (intOf i).toNat)
  case atStart => exact ⟨0, Nat.zero_le _, rfl, 0, rfl⟩
  case round =>
    obtain ⟨k, hk, rfl, n, rfl⟩ := hrel
    by_cases hlt : k < xs.length
    · obtain ⟨b, off, rfl, hbs, hc⟩ := hs.at hb hlt
      obtain ⟨b', off', rfl, hbs', hc'⟩ := hs'.at hb' hlt
      have h0 : (0 : Int) ≤ (k : Int) := by omega
      have h1 : (k : Int) < (xs.length : Int) := by omega
      go_wp2
      go_quiet (fail)
      go_wp2
      go_roundw
      case rel => exact ⟨k + 1, by omega, by go_num, _, rfl⟩
      case measure => simp [intOf]; omega
    · go_wp2
      go_ret
      exact ⟨rfl, below_dn (Below.refl _ _) _⟩
set_option maxHeartbeats 1000000 in
theorem l01Of_any {A : Option Addr} {xs : List Int} {W : World} {B : Nat} (hs : Nums .u8 W B A xs) (h8 : b8 xs) (n c : Nat) (hn : xs.length = n) (w : World) (hb : Below B W w) (hk : okS xs = true) (v : Int) (hv : 0 ≤ v) (hv2 : v ≤ 9223372036854775807) : Calls Try.prog 164 #[.slice A n c, .int .i64 v] w fun e w' => e = .returned (.agg #[.int .u8 (dg xs v 0), .int .u8 (dg xs v 1), .int .u8 (dg xs v 2), .int .u8 (dg xs v 3), .int .u8 (dg xs v 4), .int .u8 (dg xs v 5), .int .u8 (dg xs v 6), .int .u8 (dg xs v 7)]) ∧ Below w.heap.size w w' := by
  obtain rfl := hn
  have hl := okS_len hk
  have HK := Lib.hid hk
  clear hk
  go_enter Try.func164, Try.ntmps164
  go_wp2
  go_loopw [1, 6] (fun q i wr => ∃ k : Nat, k ≤ xs.length ∧ i = .int .i64 k ∧ q = .int .i64 (qTo xs v k) ∧ wr = (w.alloc (.cells #[.int .u8 0, .int .u8 0, .int .u8 0, .int .u8 0, .int .u8 0, .int .u8 0, .int .u8 0, .int .u8 0] 78)).alloc (.cells #[.int .u8 (dgTo xs v k 0), .int .u8 (dgTo xs v k 1), .int .u8 (dgTo xs v k 2), .int .u8 (dgTo xs v k 3), .int .u8 (dgTo xs v k 4), .int .u8 (dgTo xs v k 5), .int .u8 (dgTo xs v k 6), .int .u8 (dgTo xs v k 7)] 78)) (fun _ i _ => xs.length - (intOf i).toNat)
  case atStart => exact ⟨0, Nat.zero_le _, rfl, rfl, rfl⟩
  case round =>
    obtain ⟨k, hk, rfl, rfl, rfl⟩ := hrel
    by_cases hlt : k < xs.length
    · obtain ⟨b, off, rfl, hbs, hc⟩ := hs.at hb hlt
      obtain ⟨e0, e1⟩ := okS_el HK.out hlt
      obtain ⟨q0, q1⟩ := qTo_bd HK.out hv hk
      have g0 : (0 : Int) ≤ (k : Int) := by omega
      have g1 : (k : Int) < 8 := by omega
      have g2 : (el xs k == 0) = false := beq_eq_false_iff_ne.2 (by omega)
      have m0 : 0 ≤ qTo xs v k % el xs k := Int.emod_nonneg _ (by omega)
      have m1 : qTo xs v k % el xs k < el xs k := Int.emod_lt_of_pos _ (by omega)
      have ha := a8_at .u8 (dgTo xs v k) (k := k) (by omega)
      have HS := Lib.hid ((a8_set .u8 (dgTo xs v k) (qTo xs v k % el xs k) (k := k) (by omega)).trans (by rw [dgTo_succ]))
      go_wp2
      exact ⟨⟨k + 1, by omega, by go_num, rfl, by rw [HS.out]⟩, by simp [intOf]; omega⟩
    · obtain rfl : k = xs.length := by omega
      go_wp2
      exact bodyPost_ret (v := .agg #[.int .u8 (dgTo xs v xs.length 0), .int .u8 (dgTo xs v xs.length 1), .int .u8 (dgTo xs v xs.length 2), .int .u8 (dgTo xs v xs.length 3), .int .u8 (dgTo xs v xs.length 4), .int .u8 (dgTo xs v xs.length 5), .int .u8 (dgTo xs v xs.length 6), .int .u8 (dgTo xs v xs.length 7)]) (by simp [results, Try.results164, go_sem]) rfl ⟨rfl, (by repeat' (first | (with_reducible first | assumption | exact Below.refl _ _ | refine Below.drew ?_ | refine Below.alloc ?_ ?_ _ | refine Below.setCell ?_ ?_ _ | refine below_setR ?_ ?_ _ | refine below_dn ?_ _ | refine Below.trans ?_ (below_mo _ _ _ ?_) | refine Below.trans ?_ (below_mq _ _ ?_) | exact Nat.le_refl _) | (simp; done) | (simp; omega) | omega))⟩
/-- what DigitsOf returns -/
def dgOf (xs : List Int) (v : Int) : (Nat → Int) × Int := if okS xs then if inR v 0 (sizeTo xs xs.length - 1) then (dg xs v, 0) else (fun _ => 0, 2) else (fun _ => 0, 1)
set_option maxHeartbeats 1000000 in
theorem specDigitsOf_any {A : Option Addr} {xs : List Int} {W : World} {B : Nat} (hs : Nums .u8 W B A xs) (h8 : b8 xs) (n c : Nat) (hn : xs.length = n) (w : World) (hb : Below B W w) (v : Int) (hv2 : v ≤ 9223372036854775807) : Calls Try.prog 51 #[.slice A n c, .int .i64 v] w fun e w' => e = .returned (.tuple #[.agg #[.int .u8 ((dgOf xs v).1 0), .int .u8 ((dgOf xs v).1 1), .int .u8 ((dgOf xs v).1 2), .int .u8 ((dgOf xs v).1 3), .int .u8 ((dgOf xs v).1 4), .int .u8 ((dgOf xs v).1 5), .int .u8 ((dgOf xs v).1 6), .int .u8 ((dgOf xs v).1 7)], .int .i64 (dgOf xs v).2]) ∧ Below w.heap.size w w' := by
  obtain rfl := hn
  have hb1 := sizeTo_bd h8 xs.length
  have hB := hs.bsz hb
  cases hk : okS xs
  · have HR : Hid (dgOf xs v = (fun _ => 0, 1)) := by unfold Hid dgOf; rw [hk]; rfl
    go_enter Try.func51, Try.ntmps51
    go_wp2_with (go_at_call 146; refine (l01Ok_any hs h8 _ _ rfl _ (by repeat' (first | (with_reducible first | assumption | exact Below.refl _ _ | refine Below.drew ?_ | refine Below.alloc ?_ ?_ _ | refine Below.setCell ?_ ?_ _ | refine below_setR ?_ ?_ _ | refine below_dn ?_ _ | refine Below.trans ?_ (below_mo _ _ _ ?_) | refine Below.trans ?_ (below_mq _ _ ?_) | exact Nat.le_refl _) | (simp; done) | (simp; omega) | omega))).mono ?_; rintro e w' ⟨rfl, rfl⟩)
    go_returns
    exact ⟨by rw [HR.out], (by repeat' (first | (with_reducible first | assumption | exact Below.refl _ _ | refine Below.drew ?_ | refine Below.alloc ?_ ?_ _ | refine Below.setCell ?_ ?_ _ | refine below_setR ?_ ?_ _ | refine below_dn ?_ _ | refine Below.trans ?_ (below_mo _ _ _ ?_) | refine Below.trans ?_ (below_mq _ _ ?_) | exact Nat.le_refl _) | (simp; done) | (simp; omega) | omega))⟩
  · cases hr : inR v 0 (sizeTo xs xs.length - 1)
    · have HR : Hid (dgOf xs v = (fun _ => 0, 2)) := by unfold Hid dgOf; rw [hk, hr]; rfl
      go_enter Try.func51, Try.ntmps51
      go_wp2_with (first | (go_at_call 146; refine (l01Ok_any hs h8 _ _ rfl _ (by repeat' (first | (with_reducible first | assumption | exact Below.refl _ _ | refine Below.drew ?_ | refine Below.alloc ?_ ?_ _ | refine Below.setCell ?_ ?_ _ | refine below_setR ?_ ?_ _ | refine below_dn ?_ _ | refine Below.trans ?_ (below_mo _ _ _ ?_) | refine Below.trans ?_ (below_mq _ _ ?_) | exact Nat.le_refl _) | (simp; done) | (simp; omega) | omega))).mono ?_; rintro e w' ⟨rfl, rfl⟩) | (go_at_call 147; refine (l01Size_any hs h8 _ _ rfl _ (by repeat' (first | (with_reducible first | assumption | exact Below.refl _ _ | refine Below.drew ?_ | refine Below.alloc ?_ ?_ _ | refine Below.setCell ?_ ?_ _ | refine below_setR ?_ ?_ _ | refine below_dn ?_ _ | refine Below.trans ?_ (below_mo _ _ _ ?_) | refine Below.trans ?_ (below_mq _ _ ?_) | exact Nat.le_refl _) | (simp; done) | (simp; omega) | omega))).mono ?_; rintro e w' ⟨rfl, rfl⟩) | (go_at_call 119; refine (l00In_ok _ _ _ _).mono ?_; rintro e w' ⟨rfl, rfl⟩))
      go_returns
      exact ⟨by rw [HR.out], (by repeat' (first | (with_reducible first | assumption | exact Below.refl _ _ | refine Below.drew ?_ | refine Below.alloc ?_ ?_ _ | refine Below.setCell ?_ ?_ _ | refine below_setR ?_ ?_ _ | refine below_dn ?_ _ | refine Below.trans ?_ (below_mo _ _ _ ?_) | refine Below.trans ?_ (below_mq _ _ ?_) | exact Nat.le_refl _) | (simp; done) | (simp; omega) | omega))⟩
    · have HR : Hid (dgOf xs v = (dg xs v, 0)) := by unfold Hid dgOf; rw [hk, hr]; rfl
      have HK := Lib.hid hk
      have hv := (inR_t.1 hr).1
      go_enter Try.func51, Try.ntmps51
      go_wp2_with (first | (go_at_call 146; refine (l01Ok_any hs h8 _ _ rfl _ (by repeat' (first | (with_reducible first | assumption | exact Below.refl _ _ | refine Below.drew ?_ | refine Below.alloc ?_ ?_ _ | refine Below.setCell ?_ ?_ _ | refine below_setR ?_ ?_ _ | refine below_dn ?_ _ | refine Below.trans ?_ (below_mo _ _ _ ?_) | refine Below.trans ?_ (below_mq _ _ ?_) | exact Nat.le_refl _) | (simp; done) | (simp; omega) | omega))).mono ?_; rintro e w' ⟨rfl, rfl⟩) | (go_at_call 147; refine (l01Size_any hs h8 _ _ rfl _ (by repeat' (first | (with_reducible first | assumption | exact Below.refl _ _ | refine Below.drew ?_ | refine Below.alloc ?_ ?_ _ | refine Below.setCell ?_ ?_ _ | refine below_setR ?_ ?_ _ | refine below_dn ?_ _ | refine Below.trans ?_ (below_mo _ _ _ ?_) | refine Below.trans ?_ (below_mq _ _ ?_) | exact Nat.le_refl _) | (simp; done) | (simp; omega) | omega))).mono ?_; rintro e w' ⟨rfl, rfl⟩) | (go_at_call 119; refine (l00In_ok _ _ _ _).mono ?_; rintro e w' ⟨rfl, rfl⟩) | (go_at_call 164; refine (l01Of_any hs h8 _ _ rfl _ (by repeat' (first | (with_reducible first | assumption | exact Below.refl _ _ | refine Below.drew ?_ | refine Below.alloc ?_ ?_ _ | refine Below.setCell ?_ ?_ _ | refine below_setR ?_ ?_ _ | refine below_dn ?_ _ | refine Below.trans ?_ (below_mo _ _ _ ?_) | refine Below.trans ?_ (below_mq _ _ ?_) | exact Nat.le_refl _) | (simp; done) | (simp; omega) | omega)) HK.out _ hv hv2).mono ?_; rintro e w' ⟨rfl, hb_⟩; obtain ⟨os_, d_, rfl⟩ := mo_of hb_; clear hb_))
      go_returns
      exact ⟨by rw [HR.out], (by repeat' (first | (with_reducible first | assumption | exact Below.refl _ _ | refine Below.drew ?_ | refine Below.alloc ?_ ?_ _ | refine Below.setCell ?_ ?_ _ | refine below_setR ?_ ?_ _ | refine below_dn ?_ _ | refine Below.trans ?_ (below_mo _ _ _ ?_) | refine Below.trans ?_ (below_mq _ _ ?_) | exact Nat.le_refl _) | (simp; done) | (simp; omega) | omega))⟩
end Go.Proofs.Ytbihgnmiocfelaa.X
