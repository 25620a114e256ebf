/- The law FnCounts, walked. Conditions: none. -/
import Derived.Test.YtkphbagckbbalaaKCntE
import Derived.Test.YtkphbagckbbalaaKMod
import Derived.Test.YtkphbagckbbalaaKOpen
namespace Go.Proofs.Ytkphbagckbbalaa.X
open Go.RowKit
set_option linter.unusedVariables false
set_option linter.unusedSimpArgs false
set_option maxRecDepth 100000
theorem addV_dg {xs : List Int} (hok : okS xs = true) {v a : Int} (hv : 0 ≤ v ∧ v < szS xs) (ha : -1000000000000 ≤ a ∧ a ≤ 1000000000000) : addV xs (dg xs v) a = (dg xs ((v + a) % szS xs), (v + a) / szS xs, 0) := by rw [addV_3 (okD_dg hok v) (inR_t.2 ha), vl_dg hok hv]
theorem implAddC {A : Option Addr} {xs : List Int} {W : World} {B : Nat} (hs : Nums .u8 W B A xs) (h8 : b8 xs) (c : Nat) (hok : okS xs = true) {v a : Int} (hv : 0 ≤ v ∧ v < szS xs) (ha : -1000000000000 ≤ a ∧ a ≤ 1000000000000) {u r : Int} (hu : (v + a) % szS xs = u) (hr : (v + a) / szS xs = r) (w : World) (hb : Below B W w) : Calls Try.prog 35 #[.slice A xs.length c, .agg #[.int .u8 (dg xs v 0), .int .u8 (dg xs v 1), .int .u8 (dg xs v 2), .int .u8 (dg xs v 3), .int .u8 (dg xs v 4), .int .u8 (dg xs v 5), .int .u8 (dg xs v 6), .int .u8 (dg xs v 7)], .int .i64 a] w fun e w' => e = .returned (.tuple #[.agg #[.int .u8 (dg xs u 0), .int .u8 (dg xs u 1), .int .u8 (dg xs u 2), .int .u8 (dg xs u 3), .int .u8 (dg xs u 4), .int .u8 (dg xs u 5), .int .u8 (dg xs u 6), .int .u8 (dg xs u 7)], .int .i64 r, .int .i64 0]) ∧ Below w.heap.size w w' := by
  subst hu hr
  have := implAddTo_any hs h8 _ c rfl w hb (dg xs v) (dg_d8 hok v) a
  rw [addV_dg hok hv ha] at this
  exact this
theorem specAddC {A : Option Addr} {xs : List Int} {W : World} {B : Nat} (hs : Nums .u8 W B A xs) (h8 : b8 xs) (c : Nat) (hok : okS xs = true) {v a : Int} (hv : 0 ≤ v ∧ v < szS xs) (ha : -1000000000000 ≤ a ∧ a ≤ 1000000000000) {u r : Int} (hu : (v + a) % szS xs = u) (hr : (v + a) / szS xs = r) (w : World) (hb : Below B W w) : Calls Try.prog 36 #[.slice A xs.length c, .agg #[.int .u8 (dg xs v 0), .int .u8 (dg xs v 1), .int .u8 (dg xs v 2), .int .u8 (dg xs v 3), .int .u8 (dg xs v 4), .int .u8 (dg xs v 5), .int .u8 (dg xs v 6), .int .u8 (dg xs v 7)], .int .i64 a] w fun e w' => e = .returned (.tuple #[.agg #[.int .u8 (dg xs u 0), .int .u8 (dg xs u 1), .int .u8 (dg xs u 2), .int .u8 (dg xs u 3), .int .u8 (dg xs u 4), .int .u8 (dg xs u 5), .int .u8 (dg xs u 6), .int .u8 (dg xs u 7)], .int .i64 r, .int .i64 0]) ∧ Below w.heap.size w w' := by
  subst hu hr
  have := specAddTo_any hs h8 _ c rfl w hb (dg xs v) (dg_d8 hok v) a
  rw [addV_dg hok hv ha] at this
  exact this
theorem digC {A : Option Addr} {xs : List Int} {W : World} {B : Nat} (hs : Nums .u8 W B A xs) (h8 : b8 xs) (c : Nat) (hok : okS xs = true) {v : Int} (hv : 0 ≤ v ∧ v < szS xs) (w : World) (hb : Below B W w) : Calls Try.prog 19 #[.slice A xs.length c, .int .i64 v] w fun e w' => e = .returned (.tuple #[.agg #[.int .u8 (dg xs v 0), .int .u8 (dg xs v 1), .int .u8 (dg xs v 2), .int .u8 (dg xs v 3), .int .u8 (dg xs v 4), .int .u8 (dg xs v 5), .int .u8 (dg xs v 6), .int .u8 (dg xs v 7)], .int .i64 0]) ∧ Below w.heap.size w w' := by
  have hz := szS_bd hok
  have := specDigitsOf_any hs h8 _ c rfl w hb v (by omega)
  have e : dgOf xs v = (dg xs v, 0) := by
    have hr : inR v 0 (sizeTo xs xs.length - 1) = true := inR_t.2 ⟨hv.1, by have := hv.2; unfold szS at this; omega⟩
    unfold dgOf
    rw [hok, hr]
    rfl
  rw [e] at this
  exact this
theorem tmod_turn {x s : Int} (hs : 0 < s) : (-s ≤ x.tmod s ∧ x.tmod s ≤ s) ∧ (x.tmod s + s).tmod s = x % s := by
  have hb : -s ≤ x.tmod s ∧ x.tmod s ≤ s := by
    by_cases h : 0 ≤ x
    · have a := Int.tmod_nonneg s h
      have b := Int.tmod_lt_of_pos x hs
      omega
    · have a := Int.tmod_nonneg s (show 0 ≤ -x by omega)
      have b := Int.tmod_lt_of_pos (-x) hs
      rw [Int.neg_tmod] at a b
      omega
  refine ⟨hb, ?_⟩
  have h1 := Int.tmod_add_mul_tdiv x s
  rw [Int.tmod_eq_emod_of_nonneg (by omega), Int.add_emod_right]
  have : x % s = (x.tmod s + s * x.tdiv s) % s := by rw [h1]
  rw [this, Int.add_mul_emod_self_left]
theorem mv_first {xs : List Int} (hl : 1 ≤ xs.length) (v a : Int) : mvW xs v a 0 = a := by
  unfold mvW
  rw [if_pos (by omega), show pr xs 0 = 1 from rfl, Int.ediv_one, Int.ediv_one]
  omega
theorem mvW_bd {xs : List Int} (h : okS xs = true) {v a : Int} (hv : 0 ≤ v ∧ v ≤ 1000000000000) (ha : -1000000000000 ≤ a ∧ a ≤ 1000000000000) {k : Nat} (hk : k < xs.length) : -5000000000000 ≤ mvW xs v a k ∧ mvW xs v a k ≤ 5000000000000 := by
  have p := (place_bd h hk).1
  have b0 := div_bdC (n := v + a) p.1 (by omega)
  have b1 := div_bdC (n := v) p.1 (by omega)
  unfold mvW
  rw [if_pos hk]
  omega
theorem wayB_ok {z v u : Int} (hz : 0 < z) (hv : 0 ≤ v ∧ v < z) (hu : 0 ≤ u ∧ u < z) : (v + wayB z v u) % z = u ∧ wayB z v u ≤ 0 ∧ -z < wayB z v u ∧ 0 ≤ wayU z v u ∧ wayU z v u < z := by
  have h := way_to hz hv hu
  have b0 : 0 ≤ wayU z v u := Int.emod_nonneg _ (by omega)
  have b1 : wayU z v u < z := Int.emod_lt_of_pos _ hz
  unfold wayB
  split
  · rename_i e
    rw [e] at h
    exact ⟨h.1, by omega, by omega, by omega, by omega⟩
  · exact ⟨h.2, by omega, by omega, by omega, by omega⟩
theorem next_ok {xs : List Int} (h : okS xs = true) {v : Int} {k : Nat} (hk : k < xs.length) {d : Int} (hd : 0 ≤ d ∧ d < el xs (k : Int)) : (0 ≤ nextV xs v k d ∧ nextV xs v k d < szS xs) ∧ dg xs ((v + nextV xs v k d) % szS xs) k = d := by
  have hz := szS_bd h
  obtain ⟨p, s, q0, q1⟩ := place_bd h hk
  rw [dg_mod h _ hk]
  unfold nextV
  split
  · rename_i e
    rw [dg_eq h v hk] at e
    rw [Int.add_zero]
    exact ⟨⟨by omega, by omega⟩, e⟩
  · have n := nx_digit (p := pr xs k) (s := el xs (k : Int)) (v := v) (d := d) (by omega) (by omega) hd
    have := Int.le_of_dvd (show 0 < szS xs by omega) (pr_sz h hk)
    exact ⟨⟨n.2.1, by omega⟩, n.1⟩
theorem sgn_lt {v u : Int} : decide (sgnC (v - u) < 0) = decide (v < u) ∧ decide (0 < sgnC (v - u)) = decide (u < v) := by
  unfold sgnC
  refine ⟨decide_eq_decide.2 (by omega), decide_eq_decide.2 (by omega)⟩
set_option maxHeartbeats 16000000 in
theorem lawCounts (w : World) {A0 : Option Addr} {xs0 : List Int} (c0 : Nat) (hs0 : SL w w.heap.size 1 (fun x => [Value.int .u8 x]) A0 xs0) (hm0 : xs0.length ≤ maxLen) (h80 : b8 xs0) {A1 : Option Addr} {xs1 : List Int} (c1 : Nat) (hs1 : SL w w.heap.size 1 (fun x => [Value.int .u8 x]) A1 xs1) (hm1 : xs1.length ≤ maxLen) (h81 : b8 xs1) :
    Calls Try.prog 6 #[.slice A0 xs0.length c0, .slice A1 xs1.length c1] w fun e w' => e = .returned (.bool true) ∧ Below w.heap.size w w' := by
  by_cases l0 : xs0.length ≤ 4096
  case neg =>
    go_enter Try.func6, Try.ntmps6
    (go_wp2_with fail; refine (f6big_t _ _ l0 _).mono ?_; rintro e w' ⟨rfl, rfl⟩)
    go_wp2
    go_ret
    exact ⟨rfl, (by repeat' (first | (with_reducible first | assumption | exact Below.refl _ _ | refine Below.drew ?_ | refine Below.alloc ?_ ?_ _ | refine Below.setCell ?_ ?_ _ | refine below_setR ?_ ?_ _ | refine below_dn ?_ _ | refine Below.trans ?_ (below_mo _ _ _ ?_) | refine Below.trans ?_ (below_mq _ _ ?_) | exact Nat.le_refl _) | (simp; done) | (simp; omega) | omega))⟩
  by_cases l1 : xs1.length ≤ 4096
  case neg =>
    go_enter Try.func6, Try.ntmps6
    (go_wp2_with fail; refine (f6big_f _ _ l0 _).mono ?_; rintro e w' ⟨rfl, rfl⟩)
    (go_wp2_with fail; refine (f6big_t _ _ l1 _).mono ?_; rintro e w' ⟨rfl, rfl⟩)
    go_wp2
    go_ret
    exact ⟨rfl, (by repeat' (first | (with_reducible first | assumption | exact Below.refl _ _ | refine Below.drew ?_ | refine Below.alloc ?_ ?_ _ | refine Below.setCell ?_ ?_ _ | refine below_setR ?_ ?_ _ | refine below_dn ?_ _ | refine Below.trans ?_ (below_mo _ _ _ ?_) | refine Below.trans ?_ (below_mq _ _ ?_) | exact Nat.le_refl _) | (simp; done) | (simp; omega) | omega))⟩
  have ha0 : Nums .u8 w w.heap.size A0 xs0 := ⟨hs0, by omega, Nat.le_refl _⟩
  have ha1 : Nums .u8 w w.heap.size A1 xs1 := ⟨hs1, by omega, Nat.le_refl _⟩
  clear hs0 hs1 hm0 hm1
  go_enter Try.func6, Try.ntmps6
  (go_wp2_with fail; refine (f6big_f _ _ l0 _).mono ?_; rintro e w' ⟨rfl, rfl⟩)
  (go_wp2_with fail; refine (f6big_f _ _ l1 _).mono ?_; rintro e w' ⟨rfl, rfl⟩)
  (go_wp2_with fail; refine (P6Stack_any ha0 h80 c0 _ (by repeat' (first | (with_reducible first | assumption | exact Below.refl _ _ | refine Below.drew ?_ | refine Below.alloc ?_ ?_ _ | refine Below.setCell ?_ ?_ _ | refine below_setR ?_ ?_ _ | refine below_dn ?_ _ | refine Below.trans ?_ (below_mo _ _ _ ?_) | refine Below.trans ?_ (below_mq _ _ ?_) | exact Nat.le_refl _) | (simp; done) | (simp; omega) | omega))).mono ?_; rintro e w1 ⟨ys, S, cy, rfl, hcap, hl, hbas, N1, hb1⟩)
  obtain ⟨hok, hz2⟩ := bases_ok hbas hl
  have y8 := bases_8 hbas
  have hs1 := hb1.size
  have hbase : ∀ j : Nat, j < ys.length → 2 ≤ el ys (j : Int) ∧ el ys (j : Int) ≤ 100 := fun j hj => bases_el hbas hj
  (go_wp2_with fail; refine (P6Value_any ha1 h81 c1 N1 y8 cy hok _ (by repeat' (first | (with_reducible first | assumption | exact Below.refl _ _ | refine Below.drew ?_ | refine Below.alloc ?_ ?_ _ | refine Below.setCell ?_ ?_ _ | refine below_setR ?_ ?_ _ | refine below_dn ?_ _ | refine Below.trans ?_ (below_mo _ _ _ ?_) | refine Below.trans ?_ (below_mq _ _ ?_) | exact Nat.le_refl _) | (simp; done) | (simp; omega) | omega)) (Below.refl _ _)).mono ?_; rintro e w' ⟨v, rfl, hv, hb_⟩; obtain ⟨os0, d0, rfl⟩ := mo_of hb_; clear hb_)
  have KDG := Lib.hid (fun x (hx : 0 ≤ x ∧ x < szS ys) W' (hW : Below w1.heap.size w1 W') => digC N1 y8 cy hok hx W' hW)
  (go_wp2_with fail; refine (KDG.out v hv _ (by repeat' (first | (with_reducible first | assumption | exact Below.refl _ _ | refine Below.drew ?_ | refine Below.alloc ?_ ?_ _ | refine Below.setCell ?_ ?_ _ | refine below_setR ?_ ?_ _ | refine below_dn ?_ _ | refine Below.trans ?_ (below_mo _ _ _ ?_) | refine Below.trans ?_ (below_mq _ _ ?_) | exact Nat.le_refl _) | (simp; done) | (simp; omega) | omega))).mono ?_; rintro e w' ⟨rfl, hb_⟩; obtain ⟨os1, d1, rfl⟩ := mo_of hb_; clear hb_)
  (go_wp2_with fail; refine (P6Pick_lo ha0 h80 c0 _ (by repeat' (first | (with_reducible first | assumption | exact Below.refl _ _ | refine Below.drew ?_ | refine Below.alloc ?_ ?_ _ | refine Below.setCell ?_ ?_ _ | refine below_setR ?_ ?_ _ | refine below_dn ?_ _ | refine Below.trans ?_ (below_mo _ _ _ ?_) | refine Below.trans ?_ (below_mq _ _ ?_) | exact Nat.le_refl _) | (simp; done) | (simp; omega) | omega)) 5000 (by omega)).mono ?_; rintro e w' ⟨r0, rfl, hr0, hb_⟩; obtain ⟨os2, d2, rfl⟩ := mo_of hb_; clear hb_)
  obtain ⟨a, ha⟩ : ∃ a, a = r0 - 2500 := ⟨_, rfl⟩
  have ha2 : -2500 ≤ a ∧ a ≤ 2500 := by omega
  have e0 : IntKind.i64.wrap (r0 - 2500) = a := (IntWalk.i64_in _ ⟨by omega, by omega⟩).trans ha.symm
  clear ha hr0
  (go_wp2_with fail; refine (P6Pick_lo ha1 h81 c1 _ (by repeat' (first | (with_reducible first | assumption | exact Below.refl _ _ | refine Below.drew ?_ | refine Below.alloc ?_ ?_ _ | refine Below.setCell ?_ ?_ _ | refine below_setR ?_ ?_ _ | refine below_dn ?_ _ | refine Below.trans ?_ (below_mo _ _ _ ?_) | refine Below.trans ?_ (below_mq _ _ ?_) | exact Nat.le_refl _) | (simp; done) | (simp; omega) | omega)) 5000 (by omega)).mono ?_; rintro e w' ⟨r1, rfl, hr1, hb_⟩; obtain ⟨os3, d3, rfl⟩ := mo_of hb_; clear hb_)
  obtain ⟨b, hb⟩ : ∃ b, b = r1 - 2500 := ⟨_, rfl⟩
  have hb2 : -2500 ≤ b ∧ b ≤ 2500 := by omega
  have e1 : IntKind.i64.wrap (r1 - 2500) = b := (IntWalk.i64_in _ ⟨by omega, by omega⟩).trans hb.symm
  have e2 : IntKind.i64.wrap (a + b) = a + b := IntWalk.i64_in _ ⟨by omega, by omega⟩
  clear hb hr1
  have hz := szS_bd hok
  have aa := add_add (v := v) (a := a) (b := b) (z := szS ys) (by omega)
  obtain ⟨u, hu⟩ : ∃ u, (v + a) % szS ys = u := ⟨_, rfl⟩
  obtain ⟨R, hR⟩ : ∃ R, (v + a) / szS ys = R := ⟨_, rfl⟩
  obtain ⟨m, hm⟩ : ∃ m, (v + (a + b)) % szS ys = m := ⟨_, rfl⟩
  obtain ⟨T, hT⟩ : ∃ T, (v + (a + b)) / szS ys = T := ⟨_, rfl⟩
  have hub : 0 ≤ u ∧ u < szS ys := by rw [← hu]; exact ⟨Int.emod_nonneg _ (by omega), Int.emod_lt_of_pos _ (by omega)⟩
  have hRb : -2000000000001 ≤ R ∧ R ≤ 2000000000000 := by rw [← hR]; exact div_bdC (by omega) (by omega)
  have hTb : -2000000000001 ≤ T ∧ T ≤ 2000000000000 := by rw [← hT]; exact div_bdC (by omega) (by omega)
  rw [hu, hR, hm, hT] at aa
  have K1 := Lib.hid (fun W' (hW : Below w1.heap.size w1 W') => implAddC N1 y8 cy hok hv (a := a) (by omega) hu hR W' hW)
  have K2 := Lib.hid (fun W' (hW : Below w1.heap.size w1 W') => specAddC N1 y8 cy hok hv (a := a) (by omega) hu hR W' hW)
  have K3 := Lib.hid (fun W' (hW : Below w1.heap.size w1 W') => implAddC N1 y8 cy hok hub (a := b) (by omega) aa.1 aa.2 W' hW)
  have K4 := Lib.hid (fun W' (hW : Below w1.heap.size w1 W') => implAddC N1 y8 cy hok hv (a := a + b) (by omega) hm hT W' hW)
  have K5 := Lib.hid (fun W' (hW : Below w1.heap.size w1 W') => specAddC N1 y8 cy hok hv (a := a + b) (by omega) hm hT W' hW)
  have K6 := Lib.hid (fun W' (hW : Below w1.heap.size w1 W') => implMovesC N1 y8 cy hcap hok hv (a := a) (by omega) W' hW)
  have K7 := Lib.hid (fun W' (hW : Below w1.heap.size w1 W') => specMovesC N1 y8 cy hcap hok hv (a := a) (by omega) W' hW)
  have K8 := Lib.hid (fun W' (hW : Below w1.heap.size w1 W') => sizeOfQ_any N1 y8 _ cy rfl W' hW hok)
  rw [show sizeTo ys ys.length = szS ys from rfl] at K8
  have K9 := Lib.hid (fun W' (hW : Below w1.heap.size w1 W') => implWayC N1 y8 _ cy rfl W' hW hok hv hub)
  have K10 := Lib.hid (fun W' (hW : Below w1.heap.size w1 W') => specWayC N1 y8 _ cy rfl W' hW hok hv hub)
  have wo := wayB_ok (by omega) hv hub
  have wt := (way_to (by omega) hv hub).1
  have K11 := Lib.hid (fun W' (hW : Below w1.heap.size w1 W') => implAddC N1 y8 cy hok hv (a := wayU (szS ys) v u) (by omega) wt rfl W' hW)
  have K12 := Lib.hid (fun W' (hW : Below w1.heap.size w1 W') => implAddC N1 y8 cy hok hv (a := wayB (szS ys) v u) (by omega) wo.1 rfl W' hW)
  have K13 := Lib.hid (fun W' (hW : Below w1.heap.size w1 W') => CompareC N1 y8 _ cy rfl W' hW hok hv hub)
  have K14 := Lib.hid (fun W' (hW : Below w1.heap.size w1 W') => ValueOfC N1 y8 _ cy rfl W' hW hok hub)
  have HT : Hid (∀ k : Nat, k < ys.length → (dg ys v k + mvW ys v a k) % el ys (k : Int) = dg ys u k) := fun k hk => by rw [mv_turn hok v a hk, hu]
  have HM : Hid (∀ k : Nat, k < ys.length → -5000000000000 ≤ mvW ys v a k ∧ mvW ys v a k ≤ 5000000000000) := fun k hk => mvW_bd hok (by omega) (by omega) hk
  have HD : Hid (∀ (x : Int) (k : Nat), k < ys.length → 0 ≤ dg ys x k ∧ dg ys x k < el ys (k : Int)) := fun x k hk => dg_bdC hok x hk
  have hm0 : (mvW ys v a 0 == a) = true := beq_iff_eq.2 (mv_first hl.1 v a)
  have e3 : IntKind.i64.wrap (T - R) = T - R := IntWalk.i64_in _ ⟨by omega, by omega⟩
  obtain ⟨w2, w3, w4, w5⟩ := wo.2
  have sg := sgn_lt (v := v) (u := u)
  obtain ⟨sg1, sg2⟩ := sg
  clear aa hu hR hm hT wt wo
  (go_wp2_with fail; refine (K1.out _ (by repeat' (first | (with_reducible first | assumption | exact Below.refl _ _ | refine Below.drew ?_ | refine Below.alloc ?_ ?_ _ | refine Below.setCell ?_ ?_ _ | refine below_setR ?_ ?_ _ | refine below_dn ?_ _ | refine Below.trans ?_ (below_mo _ _ _ ?_) | refine Below.trans ?_ (below_mq _ _ ?_) | exact Nat.le_refl _) | (simp; done) | (simp; omega) | omega))).mono ?_; rintro e w' ⟨rfl, hb_⟩; obtain ⟨os4, d4, rfl⟩ := mo_of hb_; clear hb_)
  (go_wp2_with fail; refine (K2.out _ (by repeat' (first | (with_reducible first | assumption | exact Below.refl _ _ | refine Below.drew ?_ | refine Below.alloc ?_ ?_ _ | refine Below.setCell ?_ ?_ _ | refine below_setR ?_ ?_ _ | refine below_dn ?_ _ | refine Below.trans ?_ (below_mo _ _ _ ?_) | refine Below.trans ?_ (below_mq _ _ ?_) | exact Nat.le_refl _) | (simp; done) | (simp; omega) | omega))).mono ?_; rintro e w' ⟨rfl, hb_⟩; obtain ⟨os5, d5, rfl⟩ := mo_of hb_; clear hb_)
  (go_wp2_with fail; refine (K3.out _ (by repeat' (first | (with_reducible first | assumption | exact Below.refl _ _ | refine Below.drew ?_ | refine Below.alloc ?_ ?_ _ | refine Below.setCell ?_ ?_ _ | refine below_setR ?_ ?_ _ | refine below_dn ?_ _ | refine Below.trans ?_ (below_mo _ _ _ ?_) | refine Below.trans ?_ (below_mq _ _ ?_) | exact Nat.le_refl _) | (simp; done) | (simp; omega) | omega))).mono ?_; rintro e w' ⟨rfl, hb_⟩; obtain ⟨os6, d6, rfl⟩ := mo_of hb_; clear hb_)
  (go_wp2_with fail; refine (K4.out _ (by repeat' (first | (with_reducible first | assumption | exact Below.refl _ _ | refine Below.drew ?_ | refine Below.alloc ?_ ?_ _ | refine Below.setCell ?_ ?_ _ | refine below_setR ?_ ?_ _ | refine below_dn ?_ _ | refine Below.trans ?_ (below_mo _ _ _ ?_) | refine Below.trans ?_ (below_mq _ _ ?_) | exact Nat.le_refl _) | (simp; done) | (simp; omega) | omega))).mono ?_; rintro e w' ⟨rfl, hb_⟩; obtain ⟨os7, d7, rfl⟩ := mo_of hb_; clear hb_)
  (go_wp2_with fail; refine (K5.out _ (by repeat' (first | (with_reducible first | assumption | exact Below.refl _ _ | refine Below.drew ?_ | refine Below.alloc ?_ ?_ _ | refine Below.setCell ?_ ?_ _ | refine below_setR ?_ ?_ _ | refine below_dn ?_ _ | refine Below.trans ?_ (below_mo _ _ _ ?_) | refine Below.trans ?_ (below_mq _ _ ?_) | exact Nat.le_refl _) | (simp; done) | (simp; omega) | omega))).mono ?_; rintro e w' ⟨rfl, hb_⟩; obtain ⟨os8, d8, rfl⟩ := mo_of hb_; clear hb_)
  (go_wp2_with fail; refine (K6.out _ (by repeat' (first | (with_reducible first | assumption | exact Below.refl _ _ | refine Below.drew ?_ | refine Below.alloc ?_ ?_ _ | refine Below.setCell ?_ ?_ _ | refine below_setR ?_ ?_ _ | refine below_dn ?_ _ | refine Below.trans ?_ (below_mo _ _ _ ?_) | refine Below.trans ?_ (below_mq _ _ ?_) | exact Nat.le_refl _) | (simp; done) | (simp; omega) | omega))).mono ?_; rintro e w' ⟨rfl, hb_⟩; obtain ⟨os9, d9, rfl⟩ := mo_of hb_; clear hb_)
  (go_wp2_with fail; refine (K7.out _ (by repeat' (first | (with_reducible first | assumption | exact Below.refl _ _ | refine Below.drew ?_ | refine Below.alloc ?_ ?_ _ | refine Below.setCell ?_ ?_ _ | refine below_setR ?_ ?_ _ | refine below_dn ?_ _ | refine Below.trans ?_ (below_mo _ _ _ ?_) | refine Below.trans ?_ (below_mq _ _ ?_) | exact Nat.le_refl _) | (simp; done) | (simp; omega) | omega))).mono ?_; rintro e w' ⟨rfl, hb_⟩; obtain ⟨os10, d10, rfl⟩ := mo_of hb_; clear hb_)
  (go_wp2_with fail; refine (K8.out _ (by repeat' (first | (with_reducible first | assumption | exact Below.refl _ _ | refine Below.drew ?_ | refine Below.alloc ?_ ?_ _ | refine Below.setCell ?_ ?_ _ | refine below_setR ?_ ?_ _ | refine below_dn ?_ _ | refine Below.trans ?_ (below_mo _ _ _ ?_) | refine Below.trans ?_ (below_mq _ _ ?_) | exact Nat.le_refl _) | (simp; done) | (simp; omega) | omega))).mono ?_; rintro e w' ⟨rfl, rfl⟩)
  go_wp2
  refine wp_at (fun x => x = _) _ rfl ?_
  intro W hW
  go_loopw [32] (fun i wr => ∃ (k : Nat) (os : Array Obj) (d : Nat), k ≤ ys.length ∧ i = .int .i64 k ∧ wr = mo W os d) (fun i _ => ys.length - (intOf i).toNat)
  case atStart => exact ⟨0, #[], _, Nat.zero_le _, rfl, (mo_nil _).symm⟩
  case round =>
    obtain ⟨k, os, d, hk, rfl, rfl⟩ := hrel
    by_cases hlt : k < ys.length
    · subst hW
      obtain ⟨bb, off, rfl, hbs, hcc⟩ := N1.at (Below.refl _ _) hlt
      have hk8 : k < 8 := by omega
      have g0 : (0 : Int) ≤ (k : Int) := by omega
      have g1 : (k : Int) < 8 := by omega
      have g2 : (k : Int) < (ys.length : Int) := by omega
      have be := hbase k hlt
      have q1 := HD.out v k hlt
      have q2 := HD.out u k hlt
      have q3 := HM.out k hlt
      have q4 := HT.out k hlt
      have t1 := a8_at .u8 (dg ys v) hk8
      have t2 := a8_at .u8 (dg ys u) hk8
      have t3 := a8_at .i64 (mvW ys v a) hk8
      generalize el ys (k : Int) = s at *
      have tt := tmod_turn (x := dg ys v k + mvW ys v a k) (s := s) (by omega)
      rw [q4] at tt
      obtain ⟨tb, tt⟩ := tt
      have z1 : ¬ s = 0 := by omega
      have z2 : (s == 0) = false := beq_eq_false_iff_ne.2 z1
      have x1 : IntKind.i64.wrap (dg ys v k) = dg ys v k := IntWalk.i64_in _ ⟨by omega, by omega⟩
      have x2 : IntKind.i64.wrap (dg ys u k) = dg ys u k := IntWalk.i64_in _ ⟨by omega, by omega⟩
      have x3 : IntKind.i64.wrap s = s := IntWalk.i64_in _ ⟨by omega, by omega⟩
      have x4 : IntKind.i64.wrap (dg ys v k + mvW ys v a k) = dg ys v k + mvW ys v a k := IntWalk.i64_in _ ⟨by omega, by omega⟩
      have x5 : IntKind.i64.wrap ((dg ys v k + mvW ys v a k).tmod s) = (dg ys v k + mvW ys v a k).tmod s := IntWalk.i64_in _ ⟨by omega, by omega⟩
      have x6 : IntKind.i64.wrap ((dg ys v k + mvW ys v a k).tmod s + s) = (dg ys v k + mvW ys v a k).tmod s + s := IntWalk.i64_in _ ⟨by omega, by omega⟩
      clear q4 q3 q2 q1 tb
      go_wp2
      (refine wp_region_mq (by kernel_rfl) (by kernel_rfl) ?_; (repeat (first | go_big_quiet_step ((fail)) | quiet_step ((fail)))); refine wpQuiet_nil ?_; intro _ hq_; obtain ⟨q_, rfl⟩ := hq_)
      go_wp2
      (refine wp_region_mq (by kernel_rfl) (by kernel_rfl) ?_; (repeat (first | go_big_quiet_step ((fail)) | quiet_step ((fail)))); refine wpQuiet_nil ?_; intro _ hq_; obtain ⟨q_, rfl⟩ := hq_)
      go_wp2
      exact ⟨⟨k + 1, _, _, by omega, by go_num, by first | rfl | (simp only [mq, mo_mo, mo_drew]; rfl)⟩, by simp [intOf]; omega⟩
    · obtain rfl : k = ys.length := by omega
      subst hW
      clear HT HM hm0 e0 e1 e2 e3
      (go_wp2_with fail; refine (K9.out _ (by repeat' (first | (with_reducible first | assumption | exact Below.refl _ _ | refine Below.drew ?_ | refine Below.alloc ?_ ?_ _ | refine Below.setCell ?_ ?_ _ | refine below_setR ?_ ?_ _ | refine below_dn ?_ _ | refine Below.trans ?_ (below_mo _ _ _ ?_) | refine Below.trans ?_ (below_mq _ _ ?_) | exact Nat.le_refl _) | (simp; done) | (simp; omega) | omega))).mono ?_; rintro e w' ⟨rfl, hb_⟩; obtain ⟨os11, d11, rfl⟩ := mo_of hb_; clear hb_)
      (go_wp2_with fail; refine (K10.out _ (by repeat' (first | (with_reducible first | assumption | exact Below.refl _ _ | refine Below.drew ?_ | refine Below.alloc ?_ ?_ _ | refine Below.setCell ?_ ?_ _ | refine below_setR ?_ ?_ _ | refine below_dn ?_ _ | refine Below.trans ?_ (below_mo _ _ _ ?_) | refine Below.trans ?_ (below_mq _ _ ?_) | exact Nat.le_refl _) | (simp; done) | (simp; omega) | omega))).mono ?_; rintro e w' ⟨rfl, hb_⟩; obtain ⟨os12, d12, rfl⟩ := mo_of hb_; clear hb_)
      (go_wp2_with fail; refine (K11.out _ (by repeat' (first | (with_reducible first | assumption | exact Below.refl _ _ | refine Below.drew ?_ | refine Below.alloc ?_ ?_ _ | refine Below.setCell ?_ ?_ _ | refine below_setR ?_ ?_ _ | refine below_dn ?_ _ | refine Below.trans ?_ (below_mo _ _ _ ?_) | refine Below.trans ?_ (below_mq _ _ ?_) | exact Nat.le_refl _) | (simp; done) | (simp; omega) | omega))).mono ?_; rintro e w' ⟨rfl, hb_⟩; obtain ⟨os13, d13, rfl⟩ := mo_of hb_; clear hb_)
      (go_wp2_with fail; refine (K12.out _ (by repeat' (first | (with_reducible first | assumption | exact Below.refl _ _ | refine Below.drew ?_ | refine Below.alloc ?_ ?_ _ | refine Below.setCell ?_ ?_ _ | refine below_setR ?_ ?_ _ | refine below_dn ?_ _ | refine Below.trans ?_ (below_mo _ _ _ ?_) | refine Below.trans ?_ (below_mq _ _ ?_) | exact Nat.le_refl _) | (simp; done) | (simp; omega) | omega))).mono ?_; rintro e w' ⟨rfl, hb_⟩; obtain ⟨os14, d14, rfl⟩ := mo_of hb_; clear hb_)
      (go_wp2_with fail; refine (K13.out _ (by repeat' (first | (with_reducible first | assumption | exact Below.refl _ _ | refine Below.drew ?_ | refine Below.alloc ?_ ?_ _ | refine Below.setCell ?_ ?_ _ | refine below_setR ?_ ?_ _ | refine below_dn ?_ _ | refine Below.trans ?_ (below_mo _ _ _ ?_) | refine Below.trans ?_ (below_mq _ _ ?_) | exact Nat.le_refl _) | (simp; done) | (simp; omega) | omega))).mono ?_; rintro e w' ⟨rfl, hb_⟩; obtain ⟨os15, d15, rfl⟩ := mo_of hb_; clear hb_)
      (go_wp2_with fail; refine (K14.out _ (by repeat' (first | (with_reducible first | assumption | exact Below.refl _ _ | refine Below.drew ?_ | refine Below.alloc ?_ ?_ _ | refine Below.setCell ?_ ?_ _ | refine below_setR ?_ ?_ _ | refine below_dn ?_ _ | refine Below.trans ?_ (below_mo _ _ _ ?_) | refine Below.trans ?_ (below_mq _ _ ?_) | exact Nat.le_refl _) | (simp; done) | (simp; omega) | omega))).mono ?_; rintro e w' ⟨rfl, hb_⟩; obtain ⟨os16, d16, rfl⟩ := mo_of hb_; clear hb_)
      generalize wayU (szS ys) v u = X1 at *
      generalize wayB (szS ys) v u = X2 at *
      have y1 : ¬ X1 < 0 := by omega
      have y2 : ¬ szS ys ≤ X1 := by omega
      have y3 : ¬ 0 < X2 := by omega
      have y4 : ¬ X2 ≤ -szS ys := by omega
      have y5 : IntKind.i64.wrap (-szS ys) = -szS ys := IntWalk.i64_in _ ⟨by omega, by omega⟩
      (go_wp2_with fail; refine (P6Pick_lo ha1 h81 c1 _ (by repeat' (first | (with_reducible first | assumption | exact Below.refl _ _ | refine Below.drew ?_ | refine Below.alloc ?_ ?_ _ | refine Below.setCell ?_ ?_ _ | refine below_setR ?_ ?_ _ | refine below_dn ?_ _ | refine Below.trans ?_ (below_mo _ _ _ ?_) | refine Below.trans ?_ (below_mq _ _ ?_) | exact Nat.le_refl _) | (simp; done) | (simp; omega) | omega)) (ys.length : Int) (by omega)).mono ?_; rintro e w' ⟨r2, rfl, hr2, hb_⟩; obtain ⟨os17, d17, rfl⟩ := mo_of hb_; clear hb_)
      obtain ⟨k, rfl⟩ := Int.eq_ofNat_of_zero_le hr2.1
      have hk : k < ys.length := by omega
      have hk8 : k < 8 := by omega
      have be := hbase k hk
      obtain ⟨bb, off, rfl, hbs, hcc⟩ := N1.at (Below.refl _ _) hk
      have g0 : (0 : Int) ≤ (k : Int) := by omega
      have g1 : (k : Int) < 8 := by omega
      have g2 : (k : Int) < (ys.length : Int) := by omega
      have x3 : IntKind.i64.wrap (el ys (k : Int)) = el ys (k : Int) := IntWalk.i64_in _ ⟨by omega, by omega⟩
      clear hr2 y1 y2 y3 y4 y5 w2 w3 w4 w5 sg1 sg2 K1 K2 K3 K4 K5 K6 K7 K8 K9 K10 K11 K12 K13 K14
      (go_wp2_with fail; refine (P6Pick_lo ha0 h80 c0 _ (by repeat' (first | (with_reducible first | assumption | exact Below.refl _ _ | refine Below.drew ?_ | refine Below.alloc ?_ ?_ _ | refine Below.setCell ?_ ?_ _ | refine below_setR ?_ ?_ _ | refine below_dn ?_ _ | refine Below.trans ?_ (below_mo _ _ _ ?_) | refine Below.trans ?_ (below_mq _ _ ?_) | exact Nat.le_refl _) | (simp; done) | (simp; omega) | omega)) (el ys (k : Int)) (by omega)).mono ?_; rintro e w' ⟨q, rfl, hq, hb_⟩; obtain ⟨os18, d18, rfl⟩ := mo_of hb_; clear hb_)
      have hq2 : 0 ≤ q ∧ q < el ys (k : Int) := ⟨hq.1, hq.2.1⟩
      have nx := next_ok hok (v := v) hk hq2
      have L1 := Lib.hid (fun W' (hW : Below w1.heap.size w1 W') => implNextC N1 y8 cy hcap hok k hk hq2 hv W' hW)
      have L2 := Lib.hid (fun W' (hW : Below w1.heap.size w1 W') => specNextC N1 y8 cy hcap hok k hk hq2 hv W' hW)
      have L3 := Lib.hid (fun X (h0 : 0 ≤ X ∧ X < szS ys) y t (h1 : (v + X) % szS ys = y) (h2 : (v + X) / szS ys = t) W' (hW : Below w1.heap.size w1 W') => specAddC N1 y8 cy hok hv (a := X) (by omega) h1 h2 W' hW)
      have HCB : Hid (∀ n : Int, 0 ≤ n ∧ n ≤ 1000000000000 → 0 ≤ cntB (pr ys k) (el ys (k : Int)) n q ∧ cntB (pr ys k) (el ys (k : Int)) n q ≤ 4000000000000) := fun n hn => cntB_bd (place_bd hok hk).1 (by omega) hn
      have HCS : Hid (∀ n : Int, cntB (pr ys k) (el ys (k : Int)) (n + 1) q - cntB (pr ys k) (el ys (k : Int)) n q = if dg ys n k = q then 1 else 0) := fun n => by
        rw [dg_eq hok n hk]
        exact cnt_step (by have := (place_bd hok hk).1; omega) (by omega) hq2
      have L4 := Lib.hid (fun x (h0 : v ≤ x) (h1 : x < szS ys) W' (hW : Below w1.heap.size w1 W') => CountWithC N1 y8 cy hcap hok k hk hq2 (v := v) (u := x) ⟨hv.1, h0⟩ h1 W' hW)
      generalize nextV ys v k q = X at *
      obtain ⟨y, hy⟩ : ∃ y, (v + X) % szS ys = y := ⟨_, rfl⟩
      obtain ⟨t, ht⟩ : ∃ t, (v + X) / szS ys = t := ⟨_, rfl⟩
      have L5 := Lib.hid (L3.out X nx.1 y t hy ht)
      rw [hy] at nx
      obtain ⟨⟨n1, n2⟩, n3⟩ := nx
      have t1 := a8_at .u8 (dg ys y) hk8
      have y1 : ¬ X < 0 := by omega
      have y2 : ¬ szS ys ≤ X := by omega
      have dy := HD.out y k hk
      have x4 : IntKind.i64.wrap (dg ys y k) = q := (IntWalk.i64_in _ ⟨by omega, by omega⟩).trans n3
      clear hy ht n3 dy L3
      (go_wp2_with fail; refine (L1.out _ (by repeat' (first | (with_reducible first | assumption | exact Below.refl _ _ | refine Below.drew ?_ | refine Below.alloc ?_ ?_ _ | refine Below.setCell ?_ ?_ _ | refine below_setR ?_ ?_ _ | refine below_dn ?_ _ | refine Below.trans ?_ (below_mo _ _ _ ?_) | refine Below.trans ?_ (below_mq _ _ ?_) | exact Nat.le_refl _) | (simp; done) | (simp; omega) | omega))).mono ?_; rintro e w' ⟨rfl, hb_⟩; obtain ⟨os19, d19, rfl⟩ := mo_of hb_; clear hb_)
      (go_wp2_with fail; refine (L2.out _ (by repeat' (first | (with_reducible first | assumption | exact Below.refl _ _ | refine Below.drew ?_ | refine Below.alloc ?_ ?_ _ | refine Below.setCell ?_ ?_ _ | refine below_setR ?_ ?_ _ | refine below_dn ?_ _ | refine Below.trans ?_ (below_mo _ _ _ ?_) | refine Below.trans ?_ (below_mq _ _ ?_) | exact Nat.le_refl _) | (simp; done) | (simp; omega) | omega))).mono ?_; rintro e w' ⟨rfl, hb_⟩; obtain ⟨os20, d20, rfl⟩ := mo_of hb_; clear hb_)
      (go_wp2_with fail; refine (L5.out _ (by repeat' (first | (with_reducible first | assumption | exact Below.refl _ _ | refine Below.drew ?_ | refine Below.alloc ?_ ?_ _ | refine Below.setCell ?_ ?_ _ | refine below_setR ?_ ?_ _ | refine below_dn ?_ _ | refine Below.trans ?_ (below_mo _ _ _ ?_) | refine Below.trans ?_ (below_mq _ _ ?_) | exact Nat.le_refl _) | (simp; done) | (simp; omega) | omega))).mono ?_; rintro e w' ⟨rfl, hb_⟩; obtain ⟨os21, d21, rfl⟩ := mo_of hb_; clear hb_)
      have x5 : IntKind.i64.wrap (szS ys - 1) = szS ys - 1 := IntWalk.i64_in _ ⟨by omega, by omega⟩
      have x6 : IntKind.i64.wrap (v + 300) = v + 300 := IntWalk.i64_in _ ⟨by omega, by omega⟩
      obtain ⟨C, hC⟩ : ∃ C : Int → Int, C = fun n => cntB (pr ys k) (el ys (k : Int)) n q := ⟨_, rfl⟩
      have L6 : Hid (∀ x, v ≤ x → x < szS ys → ∀ W', Below w1.heap.size w1 W' → Calls Try.prog 46 #[.slice (some ⟨bb, off, none⟩) ys.length cy, .int .i64 v, .int .i64 x, .int .i64 (k : Int), .int .i64 q] W' fun e w' => e = .returned (.tuple #[.int .i64 (C (x + 1) - C v), .int .i64 0]) ∧ Below W'.heap.size W' w') := by
        subst hC
        exact fun x h0 h1 W' hW => L4.out x h0 h1 W' hW
      have HB : Hid (∀ n : Int, 0 ≤ n ∧ n ≤ 1000000000000 → 0 ≤ C n ∧ C n ≤ 4000000000000) := by
        subst hC
        exact HCB
      have HS : Hid (∀ n : Int, C (n + 1) - C n = if dg ys n k = q then 1 else 0) := by
        subst hC
        exact HCS
      clear hC HCB HCS L4
      by_cases hmin : v + 300 < szS ys - 1
      · obtain ⟨high, hh⟩ : ∃ high, high = v + 300 := ⟨_, rfl⟩
        have L7 := Lib.hid (L6.out high (by omega) (by omega))
        have hhb : v ≤ high ∧ high < szS ys := by omega
        have x7 : IntKind.i64.wrap (v + 300) = high := x6.trans hh.symm
        have hmin2 : high < szS ys - 1 := by omega
        have hmin3 : ¬ szS ys - 1 < high := by omega
        clear hh x6 hmin
        (go_wp2_with fail; refine (L7.out _ (by repeat' (first | (with_reducible first | assumption | exact Below.refl _ _ | refine Below.drew ?_ | refine Below.alloc ?_ ?_ _ | refine Below.setCell ?_ ?_ _ | refine below_setR ?_ ?_ _ | refine below_dn ?_ _ | refine Below.trans ?_ (below_mo _ _ _ ?_) | refine Below.trans ?_ (below_mq _ _ ?_) | exact Nat.le_refl _) | (simp; done) | (simp; omega) | omega))).mono ?_; rintro e w' ⟨rfl, hb_⟩; obtain ⟨os22, d22, rfl⟩ := mo_of hb_; clear hb_)
        go_wp2
        go_loopw [62, 63] (fun o i wr => ∃ (j : Nat), v + (j : Int) ≤ high + 1 ∧ i = .int .i64 (v + (j : Int)) ∧ o = .int .i64 (C (v + (j : Int)) - C v) ∧ Below w1.heap.size w1 wr) (fun _ i _ => (high + 1 - intOf i).toNat)
        case atStart => exact ⟨0, by omega, by simp, by simp, (by repeat' (first | (with_reducible first | assumption | exact Below.refl _ _ | refine Below.drew ?_ | refine Below.alloc ?_ ?_ _ | refine Below.setCell ?_ ?_ _ | refine below_setR ?_ ?_ _ | refine below_dn ?_ _ | refine Below.trans ?_ (below_mo _ _ _ ?_) | refine Below.trans ?_ (below_mq _ _ ?_) | exact Nat.le_refl _) | (simp; done) | (simp; omega) | omega))⟩
        case round =>
          obtain ⟨j, hj, rfl, rfl, hB2⟩ := hrel
          have hz9 := hB2.size
          by_cases hlt : v + (j : Int) ≤ high
          · have cb := HB.out (v + (j : Int)) (by omega)
            have cc := HB.out v (by omega)
            have cs := HS.out (v + (j : Int))
            have dj := HD.out (v + (j : Int)) k hk
            have t2 := a8_at .u8 (dg ys (v + (j : Int))) hk8
            have z1 : IntKind.i64.wrap (v + (j : Int) + 1) = v + ((j + 1 : Nat) : Int) := (IntWalk.i64_in _ ⟨by omega, by omega⟩).trans (by omega)
            have z2 : v + ((j + 1 : Nat) : Int) = v + (j : Int) + 1 := by omega
            have x9 : IntKind.i64.wrap (dg ys (v + (j : Int)) k) = dg ys (v + (j : Int)) k := IntWalk.i64_in _ ⟨by omega, by omega⟩
            have Z2 := Lib.hid z2
            clear z2
            by_cases hd : dg ys (v + (j : Int)) k = q
            · rw [if_pos hd] at cs
              have z3 : IntKind.i64.wrap (C (v + (j : Int)) - C v + 1) = C (v + (j : Int) + 1) - C v := (IntWalk.i64_in _ ⟨by omega, by omega⟩).trans (by omega)
              have z4 : (dg ys (v + (j : Int)) k == q) = true := beq_iff_eq.2 hd
              clear cs cb cc dj hd
              (go_wp2_with fail; refine (KDG.out (v + (j : Int)) (by omega) _ hB2).mono ?_; rintro e w' ⟨rfl, hb_⟩; obtain ⟨os23, d23, rfl⟩ := mo_of hb_; clear hb_)
              go_wp2
              exact ⟨⟨j + 1, by omega, rfl, by rw [Z2.out], (by repeat' (first | (with_reducible first | assumption | exact Below.refl _ _ | refine Below.drew ?_ | refine Below.alloc ?_ ?_ _ | refine Below.setCell ?_ ?_ _ | refine below_setR ?_ ?_ _ | refine below_dn ?_ _ | refine Below.trans ?_ (below_mo _ _ _ ?_) | refine Below.trans ?_ (below_mq _ _ ?_) | exact Nat.le_refl _) | (simp; done) | (simp; omega) | omega))⟩, by simp [intOf]; omega⟩
            · rw [if_neg hd] at cs
              have z3 : Hid (C (v + (j : Int)) - C v = C (v + (j : Int) + 1) - C v) := show _ = _ by omega
              have z4 : (dg ys (v + (j : Int)) k == q) = false := beq_eq_false_iff_ne.2 hd
              clear cs cb cc dj hd
              (go_wp2_with fail; refine (KDG.out (v + (j : Int)) (by omega) _ hB2).mono ?_; rintro e w' ⟨rfl, hb_⟩; obtain ⟨os23, d23, rfl⟩ := mo_of hb_; clear hb_)
              go_wp2
              exact ⟨⟨j + 1, by omega, rfl, by rw [Z2.out, z3.out], (by repeat' (first | (with_reducible first | assumption | exact Below.refl _ _ | refine Below.drew ?_ | refine Below.alloc ?_ ?_ _ | refine Below.setCell ?_ ?_ _ | refine below_setR ?_ ?_ _ | refine below_dn ?_ _ | refine Below.trans ?_ (below_mo _ _ _ ?_) | refine Below.trans ?_ (below_mq _ _ ?_) | exact Nat.le_refl _) | (simp; done) | (simp; omega) | omega))⟩, by simp [intOf]; omega⟩
          · have e9 : v + (j : Int) = high + 1 := by omega
            rw [e9]
            have hno : ¬ high + 1 ≤ high := by omega
            go_wp2
            go_ret
            exact ⟨by first | rfl | (simp; done) | (simp; omega), below_step hb1 hB2 (Nat.le_refl _)⟩
      · obtain ⟨high, hh⟩ : ∃ high, high = szS ys - 1 := ⟨_, rfl⟩
        have L7 := Lib.hid (L6.out high (by omega) (by omega))
        have hhb : v ≤ high ∧ high < szS ys := by omega
        have x7 : IntKind.i64.wrap (szS ys - 1) = high := x5.trans hh.symm
        have hmin2 : ¬ v + 300 < high := by omega
        clear hh x5 hmin
        (go_wp2_with fail; refine (L7.out _ (by repeat' (first | (with_reducible first | assumption | exact Below.refl _ _ | refine Below.drew ?_ | refine Below.alloc ?_ ?_ _ | refine Below.setCell ?_ ?_ _ | refine below_setR ?_ ?_ _ | refine below_dn ?_ _ | refine Below.trans ?_ (below_mo _ _ _ ?_) | refine Below.trans ?_ (below_mq _ _ ?_) | exact Nat.le_refl _) | (simp; done) | (simp; omega) | omega))).mono ?_; rintro e w' ⟨rfl, hb_⟩; obtain ⟨os22, d22, rfl⟩ := mo_of hb_; clear hb_)
        go_wp2
        go_loopw [62, 63] (fun o i wr => ∃ (j : Nat), v + (j : Int) ≤ high + 1 ∧ i = .int .i64 (v + (j : Int)) ∧ o = .int .i64 (C (v + (j : Int)) - C v) ∧ Below w1.heap.size w1 wr) (fun _ i _ => (high + 1 - intOf i).toNat)
        case atStart => exact ⟨0, by omega, by simp, by simp, (by repeat' (first | (with_reducible first | assumption | exact Below.refl _ _ | refine Below.drew ?_ | refine Below.alloc ?_ ?_ _ | refine Below.setCell ?_ ?_ _ | refine below_setR ?_ ?_ _ | refine below_dn ?_ _ | refine Below.trans ?_ (below_mo _ _ _ ?_) | refine Below.trans ?_ (below_mq _ _ ?_) | exact Nat.le_refl _) | (simp; done) | (simp; omega) | omega))⟩
        case round =>
          obtain ⟨j, hj, rfl, rfl, hB2⟩ := hrel
          have hz9 := hB2.size
          by_cases hlt : v + (j : Int) ≤ high
          · have cb := HB.out (v + (j : Int)) (by omega)
            have cc := HB.out v (by omega)
            have cs := HS.out (v + (j : Int))
            have dj := HD.out (v + (j : Int)) k hk
            have t2 := a8_at .u8 (dg ys (v + (j : Int))) hk8
            have z1 : IntKind.i64.wrap (v + (j : Int) + 1) = v + ((j + 1 : Nat) : Int) := (IntWalk.i64_in _ ⟨by omega, by omega⟩).trans (by omega)
            have z2 : v + ((j + 1 : Nat) : Int) = v + (j : Int) + 1 := by omega
            have x9 : IntKind.i64.wrap (dg ys (v + (j : Int)) k) = dg ys (v + (j : Int)) k := IntWalk.i64_in _ ⟨by omega, by omega⟩
            have Z2 := Lib.hid z2
            clear z2
            by_cases hd : dg ys (v + (j : Int)) k = q
            · rw [if_pos hd] at cs
              have z3 : IntKind.i64.wrap (C (v + (j : Int)) - C v + 1) = C (v + (j : Int) + 1) - C v := (IntWalk.i64_in _ ⟨by omega, by omega⟩).trans (by omega)
              have z4 : (dg ys (v + (j : Int)) k == q) = true := beq_iff_eq.2 hd
              clear cs cb cc dj hd
              (go_wp2_with fail; refine (KDG.out (v + (j : Int)) (by omega) _ hB2).mono ?_; rintro e w' ⟨rfl, hb_⟩; obtain ⟨os23, d23, rfl⟩ := mo_of hb_; clear hb_)
              go_wp2
              exact ⟨⟨j + 1, by omega, rfl, by rw [Z2.out], (by repeat' (first | (with_reducible first | assumption | exact Below.refl _ _ | refine Below.drew ?_ | refine Below.alloc ?_ ?_ _ | refine Below.setCell ?_ ?_ _ | refine below_setR ?_ ?_ _ | refine below_dn ?_ _ | refine Below.trans ?_ (below_mo _ _ _ ?_) | refine Below.trans ?_ (below_mq _ _ ?_) | exact Nat.le_refl _) | (simp; done) | (simp; omega) | omega))⟩, by simp [intOf]; omega⟩
            · rw [if_neg hd] at cs
              have z3 : Hid (C (v + (j : Int)) - C v = C (v + (j : Int) + 1) - C v) := show _ = _ by omega
              have z4 : (dg ys (v + (j : Int)) k == q) = false := beq_eq_false_iff_ne.2 hd
              clear cs cb cc dj hd
              (go_wp2_with fail; refine (KDG.out (v + (j : Int)) (by omega) _ hB2).mono ?_; rintro e w' ⟨rfl, hb_⟩; obtain ⟨os23, d23, rfl⟩ := mo_of hb_; clear hb_)
              go_wp2
              exact ⟨⟨j + 1, by omega, rfl, by rw [Z2.out, z3.out], (by repeat' (first | (with_reducible first | assumption | exact Below.refl _ _ | refine Below.drew ?_ | refine Below.alloc ?_ ?_ _ | refine Below.setCell ?_ ?_ _ | refine below_setR ?_ ?_ _ | refine below_dn ?_ _ | refine Below.trans ?_ (below_mo _ _ _ ?_) | refine Below.trans ?_ (below_mq _ _ ?_) | exact Nat.le_refl _) | (simp; done) | (simp; omega) | omega))⟩, by simp [intOf]; omega⟩
          · have e9 : v + (j : Int) = high + 1 := by omega
            rw [e9]
            have hno : ¬ high + 1 ≤ high := by omega
            go_wp2
            go_ret
            exact ⟨by first | rfl | (simp; done) | (simp; omega), below_step hb1 hB2 (Nat.le_refl _)⟩
end Go.Proofs.Ytkphbagckbbalaa.X
