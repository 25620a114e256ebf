/- The law FnRatchets, walked. Conditions: none. -/
import Derived.Test.YtbihgnmiocfelaaKRat2
import Derived.Test.YtbihgnmiocfelaaKMoves
import Derived.Test.YtbihgnmiocfelaaKAt
import Derived.Test.YtbihgnmiocfelaaKOpen
namespace Go.Proofs.Ytbihgnmiocfelaa.X
open Go.RowKit
set_option linter.unusedVariables false
set_option linter.unusedSimpArgs false
set_option maxRecDepth 100000
theorem own_room {w : World} {b : Nat} {e : TypeId} {v : Value} {ys : List Int} (h : w.ownsRow b e 1 v ys.length (ys.map (Value.int .i64))) (hl : ys.length ≤ 1048576) : ∃ A c, v = .slice A ys.length c ∧ Nums .i64 w w.heap.size A ys ∧ ys.length ≤ c ∧ c ≤ maxLen := by
  obtain ⟨A, c, e1, N⟩ := own_nums h hl
  refine ⟨A, c, e1, N, ?_⟩
  subst e1
  rcases h.2 with ⟨e1, e2⟩ | ⟨g, cap, cur, e1, _, _, h1, h2, _⟩
  · injection e1 with _ _ e3
    exact ⟨by omega, by rw [e3]; unfold maxLen; omega⟩
  · injection e1 with _ _ e3
    rw [e3]; exact ⟨h1, h2⟩
/-- one element of a list -/
theorem Nums.one {q : IntKind} {W : World} {B b off : Nat} {xs : List Int} (h : Nums q W B (some ⟨b, off, none⟩) xs) {k : Nat} (hk : k < xs.length) : Nums q W B (some ⟨b, off + k, none⟩) [el xs (k : Int)] := by
  refine ⟨fun _ => ?_, by simp, h.le⟩
  obtain ⟨b', off', e, hlt, hc⟩ := h.sl (by omega)
  injection e with e
  injection e with e1 e2 _
  subst e1 e2
  refine ⟨b, off + k, rfl, hlt, fun i x hx j u hu => ?_⟩
  have hi : i = 0 := by have := (List.getElem?_eq_some_iff.1 hx).1; simp at this; exact this
  subst hi
  simp at hx
  subst hx
  have hj : j = 0 := by have := (List.getElem?_eq_some_iff.1 hu).1; simp at this; exact this
  subst hj
  have := hc k xs[k] (List.getElem?_eq_getElem hk) 0 _ rfl
  simp at hu
  subst hu
  have ee : el xs (k : Int) = xs[k] := by
    unfold el
    rw [Int.toNat_natCast, List.getD_eq_getElem?_getD, List.getElem?_eq_getElem hk]; rfl
  rw [ee]
  simpa using this
theorem teethAt {j : Nat} (h : j < 7) : ∃ z s, [Value.int .i64 1, Value.int .i64 2, Value.int .i64 4, Value.int .i64 5, Value.int .i64 8, Value.int .i64 10, Value.int .i64 1000][j]? = some (.int .i64 z) ∧ TeethOf z s := by
  rcases (show j = 0 ∨ j = 1 ∨ j = 2 ∨ j = 3 ∨ j = 4 ∨ j = 5 ∨ j = 6 by omega) with rfl | rfl | rfl | rfl | rfl | rfl | rfl
  · exact ⟨1, 1000, rfl, ⟨by decide, by decide⟩, by decide, by decide, by decide, by decide⟩
  · exact ⟨2, 500, rfl, ⟨by decide, by decide⟩, by decide, by decide, by decide, by decide⟩
  · exact ⟨4, 250, rfl, ⟨by decide, by decide⟩, by decide, by decide, by decide, by decide⟩
  · exact ⟨5, 200, rfl, ⟨by decide, by decide⟩, by decide, by decide, by decide, by decide⟩
  · exact ⟨8, 125, rfl, ⟨by decide, by decide⟩, by decide, by decide, by decide, by decide⟩
  · exact ⟨10, 100, rfl, ⟨by decide, by decide⟩, by decide, by decide, by decide, by decide⟩
  · exact ⟨1000, 1, rfl, ⟨by decide, by decide⟩, by decide, by decide, by decide, by decide⟩
theorem bT_le {s t : Int} {ms : List Int} (hs : 1 ≤ s) (ht : 0 ≤ t ∧ t ≤ 20000) (hm : mvOK ms) (h6 : ms.length ≤ 6) {k : Nat} (hk : k ≤ ms.length) : 0 ≤ bT s t ms k ∧ bT s t ms k ≤ 100000 := by
  have := bT_bd hs ht.1 hm k hk
  omega
theorem mvOK_one {ms : List Int} (hm : mvOK ms) {k : Nat} (hk : k < ms.length) : mvOK [el ms (k : Int)] := fun i hi => by
  have : i = 0 := by simpa using hi
  subst this
  exact hm k hk
theorem callsR_at {P : Program} {f : FuncId} {args : Array Value} {K : Ending → World → Prop} (S : World → Prop) (w : World) (h : S w) (k : ∀ u, S u → Calls P f args u K) : Calls P f args w K := k w h
set_option maxHeartbeats 16000000 in
theorem lawRatchets (w : World) {A0 : Option Addr} {xs0 : List Int} (c0 : Nat) (hs0 : SL w w.heap.size 1 (fun x => [Value.int .u8 x]) A0 xs0) (hm0 : xs0.length ≤ maxLen) (h80 : b8 xs0) {A1 : Option Addr} {xs1 : List Int} (c1 : Nat) (hs1 : SL w w.heap.size 1 (fun x => [Value.int .u8 x]) A1 xs1) (hm1 : xs1.length ≤ maxLen) (h81 : b8 xs1) :
    Calls Try.prog 5 #[.slice A0 xs0.length c0, .slice A1 xs1.length c1] w fun e w' => e = .returned (.bool true) ∧ Below w.heap.size w w' := by
  by_cases hl : ¬ (xs0.length ≤ 3000 ∧ xs1.length ≤ 3000)
  · go_enter Try.func5, Try.ntmps5
    go_wp2_with (go_at_call 15; refine (a2Long_big _ _ _ _ hl _).mono ?_; rintro e w' ⟨rfl, rfl⟩)
    go_ret
    exact ⟨rfl, (by repeat' (first | (with_reducible first | assumption | exact Below.refl _ _ | refine Below.drew ?_ | refine Below.alloc ?_ ?_ _ | refine Below.setCell ?_ ?_ _ | refine below_setR ?_ ?_ _ | refine below_dn ?_ _ | refine Below.trans ?_ (below_mo _ _ _ ?_) | refine Below.trans ?_ (below_mq _ _ ?_) | exact Nat.le_refl _) | (simp; done) | (simp; omega) | omega))⟩
  obtain ⟨l0, l1⟩ : xs0.length ≤ 3000 ∧ xs1.length ≤ 3000 := by omega
  have ha0 : Nums .u8 w w.heap.size A0 xs0 := ⟨hs0, by omega, Nat.le_refl _⟩
  have ha1 : Nums .u8 w w.heap.size A1 xs1 := ⟨hs1, by omega, Nat.le_refl _⟩
  clear hs0 hs1 hm0 hm1 hl
  have bt := at2_bd xs0 0 256 (by omega)
  have bj := at2_bd xs0 1 7 (by omega)
  have bm := at2_bd xs1 0 256 (by omega)
  have A00 := Lib.hid (fun W (hW : Below w.heap.size w W) => a2At_any ha0 h80 _ c0 rfl W hW 0 256 (by omega) (by omega))
  have A01 := Lib.hid (fun W (hW : Below w.heap.size w W) => a2At_any ha0 h80 _ c0 rfl W hW 1 7 (by omega) (by omega))
  have A10 := Lib.hid (fun W (hW : Below w.heap.size w W) => a2At_any ha1 h81 _ c1 rfl W hW 0 256 (by omega) (by omega))
  obtain ⟨j, hj⟩ : ∃ j : Nat, (j : Int) = at2 xs0 1 7 := ⟨(at2 xs0 1 7).toNat, by omega⟩
  rw [← hj] at A01 bj
  obtain ⟨z0, hz0⟩ : ∃ z, z = at2 xs0 0 256 := ⟨_, rfl⟩
  obtain ⟨z1, hz1⟩ : ∃ z, z = at2 xs1 0 256 := ⟨_, rfl⟩
  rw [← hz0] at A00 bt
  rw [← hz1] at A10 bm
  obtain ⟨z, s, hz, hZ⟩ := teethAt (j := j) (by omega)
  obtain ⟨T, hT⟩ : ∃ T, T = 37 * z0 := ⟨_, rfl⟩
  obtain ⟨M, hM⟩ : ∃ M, M = 29 * z1 := ⟨_, rfl⟩
  have bT' : 0 ≤ T ∧ T ≤ 9435 := by omega
  have bM' : 0 ≤ M ∧ M ≤ 7395 := by omega
  have e0 : IntKind.i64.wrap (37 * z0) = T := (IntWalk.i64_in _ ⟨by omega, by omega⟩).trans hT.symm
  have e1 : IntKind.i64.wrap (29 * z1) = M := (IntWalk.i64_in _ ⟨by omega, by omega⟩).trans hM.symm
  clear hT hM hz0 hz1 hj bt bm
  have j7 : j < 7 := by omega
  have j0 : (0 : Int) ≤ (j : Int) := by omega
  have j1 : (j : Int) < 7 := by omega
  obtain ⟨s1, s2⟩ := hZ.s1
  obtain ⟨⟨za, zb⟩, zc, zd, ze, zf, zg⟩ := hZ.walk
  have HZ := Lib.hid hZ
  have r := rest_bd s1 bT'.1
  have r' := rest_bd (t := T + M) s1 (by omega)
  have hsub := rest_sub s (T + M) T
  have hmod := rest_mod s T
  have K7 := Lib.hid (fun W => RestAt_ok hZ T W ⟨by omega, by omega⟩)
  have K9 := Lib.hid (fun W => ClicksOf_ok hZ T M W ⟨by omega, by omega⟩ ⟨by omega, by omega⟩)
  have K10 := Lib.hid (fun W => RestAt_ok hZ (T + M) W ⟨by omega, by omega⟩)
  obtain ⟨r0, hr0⟩ : ∃ r0, r0 = T - T % s := ⟨_, rfl⟩
  obtain ⟨a0, ha0'⟩ : ∃ a0, a0 = T + M - (T + M) % s := ⟨_, rfl⟩
  obtain ⟨cl, hcl⟩ : ∃ cl, cl = (T + M) / s - T / s := ⟨_, rfl⟩
  rw [← hr0] at K7 hsub hmod
  rw [← ha0'] at K10 hsub
  rw [← hcl] at K9 hsub
  have hHR : Hid (r0 = T - T % s) := hr0
  have f0 : ¬ T < r0 := by omega
  have f1 : IntKind.i64.wrap (T - r0) = T - r0 := IntWalk.i64_in _ ⟨by omega, by omega⟩
  have f2 : ¬ s ≤ T - r0 := by omega
  have f3 : r0.tmod s = 0 := by rw [Int.tmod_eq_emod_of_nonneg (by omega)]; exact hmod
  have f4 : IntKind.i64.wrap (cl * s) = a0 - r0 := by rw [← hsub]; exact IntWalk.i64_in _ ⟨by omega, by omega⟩
  have f5 : IntKind.i64.wrap (a0 - r0) = a0 - r0 := IntWalk.i64_in _ ⟨by omega, by omega⟩
  have f6 : IntKind.i64.wrap (T + M) = T + M := IntWalk.i64_in _ ⟨by omega, by omega⟩
  clear r r' hsub hmod hr0 ha0' hcl hZ
  go_enter Try.func5, Try.ntmps5
  (go_wp2_with fail; refine (a2Long_ok _ _ _ _ l0 l1 _).mono ?_; rintro e w' ⟨rfl, rfl⟩)
  (go_wp2_with fail; refine (A00.out _ (by repeat' (first | (with_reducible first | assumption | exact Below.refl _ _ | refine Below.drew ?_ | refine Below.alloc ?_ ?_ _ | refine Below.setCell ?_ ?_ _ | refine below_setR ?_ ?_ _ | refine below_dn ?_ _ | refine Below.trans ?_ (below_mo _ _ _ ?_) | refine Below.trans ?_ (below_mq _ _ ?_) | exact Nat.le_refl _) | (simp; done) | (simp; omega) | omega))).mono ?_; rintro e w' ⟨rfl, rfl⟩)
  go_wp2_with fail
  refine callsR_at (fun u => u.cell? ⟨w.heap.size, j, none⟩ = some (.int .i64 z) ∧ w.heap.size < u.heap.size ∧ Below w.heap.size w u) _ ⟨(cell_of_row _ _ _ _ _ _ (heap_alloc_new w _)).trans ((List.getElem?_toArray ..).trans hz), by simp, (by repeat' (first | (with_reducible first | assumption | exact Below.refl _ _ | refine Below.drew ?_ | refine Below.alloc ?_ ?_ _ | refine Below.setCell ?_ ?_ _ | refine below_setR ?_ ?_ _ | refine below_dn ?_ _ | refine Below.trans ?_ (below_mo _ _ _ ?_) | refine Below.trans ?_ (below_mq _ _ ?_) | exact Nat.le_refl _) | (simp; done) | (simp; omega) | omega))⟩ ?_
  rintro u0 ⟨hzc, hu0, hu1⟩
  refine (A01.out _ hu1).mono ?_
  rintro e w' ⟨rfl, rfl⟩
  (go_wp2_with fail; refine (K7.out _).mono ?_; rintro e w' ⟨rfl, rfl⟩)
  (go_wp2_with fail; refine (A10.out _ (by repeat' (first | (with_reducible first | assumption | exact Below.refl _ _ | refine Below.drew ?_ | refine Below.alloc ?_ ?_ _ | refine Below.setCell ?_ ?_ _ | refine below_setR ?_ ?_ _ | refine below_dn ?_ _ | refine Below.trans ?_ (below_mo _ _ _ ?_) | refine Below.trans ?_ (below_mq _ _ ?_) | exact Nat.le_refl _) | (simp; done) | (simp; omega) | omega))).mono ?_; rintro e w' ⟨rfl, rfl⟩)
  (go_wp2_with fail; refine (K9.out _).mono ?_; rintro e w' ⟨rfl, hb_⟩; obtain ⟨os1, d1, rfl⟩ := mo_of hb_; clear hb_)
  (go_wp2_with fail; refine (K10.out _).mono ?_; rintro e w' ⟨rfl, rfl⟩)
  (go_wp2_with fail; refine (A2Moves_any ha1 h81 c1 _ (by repeat' (first | (with_reducible first | assumption | exact Below.refl _ _ | refine Below.drew ?_ | refine Below.alloc ?_ ?_ _ | refine Below.setCell ?_ ?_ _ | refine below_setR ?_ ?_ _ | refine below_dn ?_ _ | refine Below.trans ?_ (below_mo _ _ _ ?_) | refine Below.trans ?_ (below_mq _ _ ?_) | exact Nat.le_refl _) | (simp; done) | (simp; omega) | omega))).mono ?_; rintro e w1 ⟨ms, v, h6, hm, rfl, own, hb1⟩)
  obtain ⟨A2, c2, rfl, N2, hc2, hc3⟩ := own_room own (by omega)
  have hwB : Below w.heap.size w w1 := below_step (by repeat' (first | (with_reducible first | assumption | exact Below.refl _ _ | refine Below.drew ?_ | refine Below.alloc ?_ ?_ _ | refine Below.setCell ?_ ?_ _ | refine below_setR ?_ ?_ _ | refine below_dn ?_ _ | refine Below.trans ?_ (below_mo _ _ _ ?_) | refine Below.trans ?_ (below_mq _ _ ?_) | exact Nat.le_refl _) | (simp; done) | (simp; omega) | omega)) hb1 (by first | (simp; done) | (simp; omega))
  have hwBs := hwB.size
  have tl : 0 ≤ T ∧ T ≤ 20000 := by omega
  have bD := bT_le s1 tl hm h6 (Nat.le_refl _)
  have rD := rest_bd s1 bD.1
  have rT := rest_bd s1 bT'.1
  have K14 : Hid (∀ W, Below w1.heap.size w1 W → Calls Try.prog 30 #[.int .i64 T, .slice A2 ms.length c2, .int .i64 z] W fun e w' => e = .returned (.tuple #[.int .i64 (bT s T ms ms.length), .int .i64 (bT s T ms ms.length / s - T / s), .int .i64 0]) ∧ Below W.heap.size W w') := fun W hW => implBack_any HZ.out T N2 c2 W hW hm h6 ⟨by omega, by omega⟩
  have K15 : Hid (∀ W, Below w1.heap.size w1 W → Calls Try.prog 31 #[.int .i64 T, .slice A2 ms.length c2, .int .i64 z] W fun e w' => e = .returned (.tuple #[.int .i64 (bT s T ms ms.length), .int .i64 (bT s T ms ms.length / s - T / s), .int .i64 0]) ∧ Below W.heap.size W w') := fun W hW => specBack_any HZ.out T N2 c2 W hW hm h6 ⟨by omega, by omega⟩
  have K16 := Lib.hid (fun W => RestAt_ok HZ.out (bT s T ms ms.length) W ⟨by omega, by omega⟩)
  have hsub := rest_sub s (bT s T ms ms.length) T
  have hre := bT_rest s1 tl.1 hm (Nat.le_refl ms.length)
  rw [← hHR.out] at hsub hre
  have KB : Hid (∀ k : Nat, k ≤ ms.length → 0 ≤ bT s T ms k ∧ bT s T ms k ≤ 100000) := fun k hk => bT_le s1 tl hm h6 hk
  obtain ⟨D, hD⟩ : ∃ D, D = bT s T ms ms.length := ⟨_, rfl⟩
  rw [← hD] at K14 K15 K16 hsub hre bD rD
  obtain ⟨P, hP⟩ : ∃ P, P = D / s - T / s := ⟨_, rfl⟩
  obtain ⟨q0, hq0⟩ : ∃ q, q = D - D % s := ⟨_, rfl⟩
  rw [← hP] at K14 K15 hsub
  rw [← hq0] at K16 hsub
  have hr1 : 0 ≤ r0 ∧ r0 ≤ 20000 := by have := hHR.out; omega
  have f7 : ¬ D < r0 := by omega
  have f8 : IntKind.i64.wrap (q0 - r0) = q0 - r0 := IntWalk.i64_in _ ⟨by omega, by omega⟩
  have f9 : IntKind.i64.wrap (P * s) = q0 - r0 := by rw [← hsub]; exact IntWalk.i64_in _ ⟨by omega, by omega⟩
  have HD := Lib.hid hD
  have HMs := Lib.hid hm
  have w6 := h6
  have hz1' := hb1.size
  clear hsub hre rD rT bD hP hq0 hD hm own
  (go_wp2_with fail; refine (K14.out _ (by repeat' (first | (with_reducible first | assumption | exact Below.refl _ _ | refine Below.drew ?_ | refine Below.alloc ?_ ?_ _ | refine Below.setCell ?_ ?_ _ | refine below_setR ?_ ?_ _ | refine below_dn ?_ _ | refine Below.trans ?_ (below_mo _ _ _ ?_) | refine Below.trans ?_ (below_mq _ _ ?_) | exact Nat.le_refl _) | (simp; done) | (simp; omega) | omega))).mono ?_; rintro e w' ⟨rfl, hb_⟩; obtain ⟨os2, d2, rfl⟩ := mo_of hb_; clear hb_)
  (go_wp2_with fail; refine (K15.out _ (by repeat' (first | (with_reducible first | assumption | exact Below.refl _ _ | refine Below.drew ?_ | refine Below.alloc ?_ ?_ _ | refine Below.setCell ?_ ?_ _ | refine below_setR ?_ ?_ _ | refine below_dn ?_ _ | refine Below.trans ?_ (below_mo _ _ _ ?_) | refine Below.trans ?_ (below_mq _ _ ?_) | exact Nat.le_refl _) | (simp; done) | (simp; omega) | omega))).mono ?_; rintro e w' ⟨rfl, hb_⟩; obtain ⟨os3, d3, rfl⟩ := mo_of hb_; clear hb_)
  (go_wp2_with fail; refine (K16.out _).mono ?_; rintro e w' ⟨rfl, rfl⟩)
  go_wp2
  go_loopw [25, 26] (fun a i wr => ∃ (k : Nat) (os : Array Obj) (dn : Nat), k ≤ ms.length ∧ a = .int .i64 (bT s T ms k) ∧ i = .int .i64 (k : Int) ∧ wr = mo w1 os dn) (fun _ i _ => ms.length - (intOf i).toNat)
  case atStart => exact ⟨0, _, _, Nat.zero_le _, rfl, rfl, by first | rfl | exact mo_mo _ _ _ _ _⟩
  case round =>
    obtain ⟨k, os, dn, hk, rfl, rfl, rfl⟩ := hrel
    by_cases hlt : k < ms.length
    · obtain ⟨b, off, hA, hbs, hc⟩ := N2.at (w := w1) (Below.refl _ _) hlt
      subst hA
      have ⟨b0, b1⟩ := KB.out k (by omega)
      have ⟨b2, b3⟩ := KB.out (k + 1) (by omega)
      have m0 := HMs.out k hlt
      obtain ⟨m, hm⟩ : ∃ m, m = el ms (k : Int) := ⟨_, rfl⟩
      have KK : Hid (∀ W, Below w1.heap.size w1 W → Calls Try.prog 30 #[.int .i64 (bT s T ms k), .slice (some ⟨b, off + k, none⟩) 1 (c2 - k), .int .i64 z] W fun e w' => e = .returned (.tuple #[.int .i64 (bT s T ms (k + 1)), .int .i64 (bT s T ms (k + 1) / s - bT s T ms k / s), .int .i64 0]) ∧ Below W.heap.size W w') := fun W hW =>
        implBack_any HZ.out (bT s T ms k) (N2.one hlt) (c2 - k) W hW (mvOK_one HMs.out hlt) (by simp) ⟨b0, b1⟩
      have KR := Lib.hid (fun W => RestAt_ok HZ.out (bT s T ms k) W ⟨by omega, by omega⟩)
      have hnx := nx_bd (m := m) s1 b0 (by rw [hm]; exact m0)
      have hbk := fun h : m < 0 => back_no (m := m) s1 b0 ⟨by rw [hm]; exact m0.1, h⟩
      have rk := rest_bd s1 b0
      rw [← hm] at hc m0
      obtain ⟨U, hU⟩ : ∃ U, U = bT s T ms k := ⟨_, rfl⟩
      obtain ⟨N, hN⟩ : ∃ N, N = bT s T ms (k + 1) := ⟨_, rfl⟩
      have hNx : N = nxT s U m := by rw [hN, hU, hm]; rfl
      rw [← hU] at KK KR hnx hbk b0 b1 rk
      rw [← hN] at KK b2 b3
      rw [← hNx] at hnx hbk
      rw [← hU]
      obtain ⟨fl, hfl⟩ : ∃ fl, fl = U - U % s := ⟨_, rfl⟩
      rw [← hfl] at KR hnx
      have i0 : ¬ N < fl := by omega
      have i1 : IntKind.i64.wrap (U + m) = U + m := IntWalk.i64_in _ ⟨by omega, by omega⟩
      have i2 : IntKind.i64.wrap ((k : Int) + 1) = (k : Int) + 1 := IntWalk.i64_in _ ⟨by omega, by omega⟩
      have i3 : (0 : Int) ≤ (k : Int) := by omega
      have i4 : (k : Int) < (ms.length : Int) := by omega
      have i5 : (k : Int) + 1 ≤ (c2 : Int) := by omega
      have i6 : (k : Int) ≤ (k : Int) + 1 := by omega
      have i7 : k + 1 ≤ c2 := by omega
      have hcc : (c2 : Int) ≤ 9223372036854775807 := by unfold maxLen at hc3; omega
      have HN := Lib.hid hN
      by_cases hm0 : m < 0
      · obtain ⟨o1, o2⟩ := hbk hm0
        have p0 : ¬ (0 : Int) ≤ m := by omega
        have p1 : ¬ U < N := by omega
        have p2 : N / s - U / s = 0 := by omega
        rw [p2] at KK
        clear hnx hbk rk b0 b1 b2 b3 hU hN hNx hfl hm m0 o1 o2 p2
        (go_wp2_with fail; refine (KK.out _ (by repeat' (first | (with_reducible first | assumption | exact Below.refl _ _ | refine Below.drew ?_ | refine Below.alloc ?_ ?_ _ | refine Below.setCell ?_ ?_ _ | refine below_setR ?_ ?_ _ | refine below_dn ?_ _ | refine Below.trans ?_ (below_mo _ _ _ ?_) | refine Below.trans ?_ (below_mq _ _ ?_) | exact Nat.le_refl _) | (simp; done) | (simp; omega) | omega))).mono ?_; rintro e w' ⟨rfl, hb_⟩; obtain ⟨os4, d4, rfl⟩ := mo_of hb_; clear hb_)
        (go_wp2_with fail; refine (KR.out _).mono ?_; rintro e w' ⟨rfl, rfl⟩)
        go_wp2
        exact ⟨⟨k + 1, _, _, hlt, by rw [HN.out], by go_num, by first | rfl | exact mo_mo _ _ _ _ _⟩, by simp [intOf]; omega⟩
      · have p0 : (0 : Int) ≤ m := by omega
        have p1 : N = U + m := by rw [hNx]; unfold nxT; omega
        clear hnx hbk rk b0 b1 b2 b3 hU hN hNx hfl hm m0
        subst p1
        (go_wp2_with fail; refine (KK.out _ (by repeat' (first | (with_reducible first | assumption | exact Below.refl _ _ | refine Below.drew ?_ | refine Below.alloc ?_ ?_ _ | refine Below.setCell ?_ ?_ _ | refine below_setR ?_ ?_ _ | refine below_dn ?_ _ | refine Below.trans ?_ (below_mo _ _ _ ?_) | refine Below.trans ?_ (below_mq _ _ ?_) | exact Nat.le_refl _) | (simp; done) | (simp; omega) | omega))).mono ?_; rintro e w' ⟨rfl, hb_⟩; obtain ⟨os4, d4, rfl⟩ := mo_of hb_; clear hb_)
        (go_wp2_with fail; refine (KR.out _).mono ?_; rintro e w' ⟨rfl, rfl⟩)
        go_wp2
        exact ⟨⟨k + 1, _, _, hlt, by rw [HN.out], by go_num, by first | rfl | exact mo_mo _ _ _ _ _⟩, by simp [intOf]; omega⟩
    · obtain rfl : k = ms.length := by omega
      rw [← HD.out]
      go_wp2
      go_ret
      exact ⟨by simp, (by repeat' (first | (with_reducible first | assumption | exact Below.refl _ _ | refine Below.drew ?_ | refine Below.alloc ?_ ?_ _ | refine Below.setCell ?_ ?_ _ | refine below_setR ?_ ?_ _ | refine below_dn ?_ _ | refine Below.trans ?_ (below_mo _ _ _ ?_) | refine Below.trans ?_ (below_mq _ _ ?_) | exact Nat.le_refl _) | (simp; done) | (simp; omega) | omega))⟩
end Go.Proofs.Ytbihgnmiocfelaa.X
