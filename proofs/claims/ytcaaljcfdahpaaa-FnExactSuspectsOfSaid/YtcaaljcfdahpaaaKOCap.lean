/- A motion copied by the laws: its bases fill their room. Conditions: none. -/
import Derived.Test.YtcaaljcfdahpaaaKOLaws
namespace Go.Proofs.Ytcaaljcfdahpaaa.X
open Go.RowKit
set_option linter.unusedVariables false
set_option linter.unusedSimpArgs false
set_option maxRecDepth 100000
set_option maxHeartbeats 1000000 in
theorem toStack_cap {A : Option Addr} {xs : List Int} {W : World} {B : Nat} (hs : Nums .u8 W B A xs) (h8 : b8 xs) (n c : Nat) (hn : xs.length = n) (w : World) (hb : Below B W w) : Calls Try.prog 26 #[.slice A n c] w fun e w' => ∃ A', e = .returned (.slice A' xs.length xs.length) ∧ Nums .u8 w' w'.heap.size A' xs ∧ NewFrom w.heap.size A' ∧ Below w.heap.size w w' := by
  obtain ⟨i0, hi, hz0, hz1, hz2⟩ := info_parts infoU8
  have hl := hs.len
  obtain rfl := hn
  have hmk : ∀ W : World, (Instr.makeSlice 24 (.int .i64 (xs.length : Int)) (.int .i64 (xs.length : Int))).run Try.prog W = .ok (.slice (some ⟨W.heap.size, 0, none⟩) xs.length xs.length) (W.alloc (.cells (madeCells #[.int .u8 0] (xs.length * 1)) 5)) := fun W => by
    have := run_make (P := Try.prog) W 24 5 i0 _ Try.underlying24 hi hz0 .i64 .i64 xs.length xs.length (by omega) (by omega) (by rw [hz2]; omega) (by omega)
    rw [hz1, Int.toNat_natCast] at this
    exact this
  clear hi hz0 hz1 hz2
  go_enter Try.func26, Try.ntmps26
  go_wp2
  clear hmk
  go_loopw [4] (fun i wr => ∃ (k : Nat) (cur : Array Value), k ≤ xs.length ∧ i = .int .i64 k ∧ wr = w.alloc (.cells cur 5) ∧ cur.size = xs.length * 1 ∧ Fill 1 (fun x => [Value.int .u8 x]) cur xs k) (fun i _ => xs.length - (intOf i).toNat)
  case atStart => exact ⟨0, _, Nat.zero_le _, rfl, rfl, (size_madeCells _ _).trans (Nat.mul_one _).symm, Fill.zero⟩
  case round =>
    obtain ⟨k, cur, hk, rfl, rfl, hcur, hall⟩ := hrel
    have HC := Lib.hid hcur
    have HA := Lib.hid hall
    clear hcur hall
    by_cases hlt : k < xs.length
    · obtain ⟨b, off, rfl, hbs, hc⟩ := hs.at hb hlt
      obtain ⟨v0, hv0⟩ : ∃ v, cur[k]? = some v := ⟨_, Array.getElem?_eq_getElem (by have := HC.out; omega)⟩
      go_wp2
      exact ⟨⟨k + 1, _, by omega, by go_num, rfl, by simp [HC.out], Fill.step1 HA.out (by have := HC.out; omega)⟩, by simp [intOf]; omega⟩
    · obtain rfl : k = xs.length := by omega
      go_wp2
      go_ret
      have hd := (HA.out.done (Nat.le_refl _) : SL (mo (w.alloc (.cells cur 5)) #[] (w.alloc (.cells cur 5)).drawn) _ _ _ _ _)
      rw [mo_nil] at hd
      exact ⟨_, rfl, ⟨hd, hs.len, Nat.le_refl _⟩, fun b off e => (by injection e with e; injection e with e1; omega), (by repeat' (first | (with_reducible first | assumption | exact Below.refl _ _ | refine Below.drew ?_ | refine Below.alloc ?_ ?_ _ | refine Below.setCell ?_ ?_ _ | refine below_setR ?_ ?_ _ | refine below_dn ?_ _ | refine Below.trans ?_ (below_mo _ _ _ ?_) | refine Below.trans ?_ (below_mq _ _ ?_) | exact Nat.le_refl _) | (simp; done) | (simp; omega) | omega))⟩
def RetOC (xs : List Int) (js : List (Int × Int)) (w : World) (e : Ending) (w' : World) : Prop :=
  ∃ A L dl, e = .returned (.agg #[.slice A xs.length xs.length, .slice L js.length dl]) ∧ Nums .u8 w' w'.heap.size A xs ∧ Prs .i8 .i16 w' w'.heap.size L js ∧ Below w.heap.size w w'
set_option maxHeartbeats 1000000 in
theorem toMotion_cap {A : Option Addr} {xs : List Int} {W : World} {B : Nat} (hs : Nums .u8 W B A xs) (h8 : b8 xs) (c : Nat) {L : Option Addr} {js : List (Int × Int)} {V : World} {C : Nat} (hl : Prs .i8 .i16 V C L js) (hj : j8 js) (cl : Nat) (w : World) (hb : Below B W w) (hv : Below C V w) : Calls Try.prog 34 #[.agg #[.slice A xs.length c, .slice L js.length cl]] w (RetOC xs js w) := by
  have hB := hs.bsz hb
  have hC := hl.bsz hv
  go_enter Try.func34, Try.ntmps34
  go_wp2_with fail
  refine (toStack_cap hs h8 _ _ rfl _ (by repeat' (first | (with_reducible first | assumption | exact Below.refl _ _ | refine Below.drew ?_ | refine Below.alloc ?_ ?_ _ | refine Below.setCell ?_ ?_ _ | refine below_setR ?_ ?_ _ | refine below_dn ?_ _ | refine Below.trans ?_ (below_mo _ _ _ ?_) | refine Below.trans ?_ (below_mq _ _ ?_) | exact Nat.le_refl _) | (simp; done) | (simp; omega) | omega))).mono ?_
  rintro e w' ⟨A1, rfl, h1, hn1, hb_⟩
  obtain ⟨os1, d1, rfl⟩ := mo_of hb_
  clear hb_
  go_wp2_with fail
  refine (toJointS_new hl _ _ (by repeat' (first | (with_reducible first | assumption | exact Below.refl _ _ | refine Below.drew ?_ | refine Below.alloc ?_ ?_ _ | refine Below.setCell ?_ ?_ _ | refine below_setR ?_ ?_ _ | refine below_dn ?_ _ | refine Below.trans ?_ (below_mo _ _ _ ?_) | refine Below.trans ?_ (below_mq _ _ ?_) | exact Nat.le_refl _) | (simp; done) | (simp; omega) | omega))).mono ?_
  rintro e w' ⟨L1, dl1, rfl, h2, hn2, hb_⟩
  obtain ⟨os2, d2, rfl⟩ := mo_of hb_
  clear hb_
  go_wp2
  refine bodyPost_ret (v := .agg #[.slice A1 xs.length xs.length, .slice L1 js.length dl1]) (by simp [results, Try.results34, go_sem]) rfl ⟨A1, L1, dl1, rfl, ?_, ?_, (by repeat' (first | (with_reducible first | assumption | exact Below.refl _ _ | refine Below.drew ?_ | refine Below.alloc ?_ ?_ _ | refine Below.setCell ?_ ?_ _ | refine below_setR ?_ ?_ _ | refine below_dn ?_ _ | refine Below.trans ?_ (below_mo _ _ _ ?_) | refine Below.trans ?_ (below_mq _ _ ?_) | exact Nat.le_refl _) | (simp; done) | (simp; omega) | omega))⟩
  · exact (h1.swap (by simp) hn1).up (below_mo _ _ _ (Nat.le_refl _))
  · rw [mo_mo] at h2 ⊢
    exact h2.swap (by simp) (fun b off e => by have := hn2 b off e; simp only [size_mo] at this; omega)
end Go.Proofs.Ytcaaljcfdahpaaa.X
