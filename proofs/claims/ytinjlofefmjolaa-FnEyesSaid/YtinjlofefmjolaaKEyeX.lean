/- Bumped wheels: a bump, the digits that are told from parts. Conditions: none. -/
import Derived.Test.YtinjlofefmjolaaKEyeW
namespace Go.Proofs.Ytinjlofefmjolaa.X
open Go.RowKit
set_option linter.unusedVariables false
set_option linter.unusedSimpArgs false
set_option maxRecDepth 100000
theorem bp_bd {xs : List Int} {p : Nat → Int} {k : Nat} {b : Int} (he : 2 ≤ el xs (k : Int)) : 0 ≤ bpV xs p k b ∧ bpV xs p k b < el xs (k : Int) * 1000 := ⟨Int.emod_nonneg _ (by omega), Int.emod_lt_of_pos _ (by omega)⟩
theorem bp_ok {xs : List Int} {p : Nat → Int} {k : Nat} {b : Int} (hp : okP2 xs p) (hk : k < xs.length) (he : 2 ≤ el xs (k : Int)) : okP2 xs (bpP xs p k b) := by
  refine ⟨fun i hi => ?_, fun i h1 h2 => ?_⟩
  · unfold bpP upd
    split
    · rename_i e; subst e; exact bp_bd he
    · exact hp.1 i hi
  · unfold bpP upd
    rw [if_neg (by omega)]
    exact hp.2 i h1 h2
theorem inBy {b : Int} (h : -1000 ≤ b ∧ b ≤ 1000) : inR b (-1000) 1000 = true := inR_t.2 h
set_option maxHeartbeats 4000000 in
theorem implBump_ok {A : Option Addr} {xs : List Int} {W : World} {B : Nat} (hs : Nums .u8 W B A xs) (h8 : b8 xs) (c : Nat) {L : Option Addr} {js : List (Int × Int)} {V : World} {C : Nat} (hl : Prs .i8 .i16 V C L js) (hj : j8 js) (cl : Nat) (w : World) (hb : Below B W w) (hv : Below C V w) (p : Nat → Int) (hk : okO xs js = true) (hp : okP2 xs p) (k : Nat) (hkl : k < xs.length) {b : Int} (hby : -1000 ≤ b ∧ b ≤ 1000) : Calls Try.prog 30 #[.agg #[.slice A xs.length c, .slice L js.length cl], .agg #[.int .i64 (p 0), .int .i64 (p 1), .int .i64 (p 2), .int .i64 (p 3), .int .i64 (p 4), .int .i64 (p 5), .int .i64 (p 6), .int .i64 (p 7)], .int .i64 (k : Int), .int .i64 b] w fun e w' => e = .returned (.tuple #[.agg #[.int .i64 (bpP xs p k b 0), .int .i64 (bpP xs p k b 1), .int .i64 (bpP xs p k b 2), .int .i64 (bpP xs p k b 3), .int .i64 (bpP xs p k b 4), .int .i64 (bpP xs p k b 5), .int .i64 (bpP xs p k b 6), .int .i64 (bpP xs p k b 7)], .int .i64 0]) ∧ Below w.heap.size w w' := by
  have hB := hs.bsz hb
  have hC := hl.bsz hv
  have HK := Lib.hid hk
  have HP := Lib.hid hp
  have HS := Lib.hid (okO_parts hk).1
  have hl8 := okS_len HS.out
  have he := okS_el HS.out hkl
  have hpk := hp.1 k hkl
  have HI := Lib.hid (inBy hby)
  have hk8 : k < 8 := by omega
  have g0 : (0 : Int) ≤ (k : Int) := by omega
  have g1 : (k : Int) < 8 := by omega
  have ha := a8_at .i64 p hk8
  have hst := (a8_set .i64 p (bpV xs p k b) hk8).trans (by rw [show upd p k (bpV xs p k b) = bpP xs p k b from rfl])
  have e1 : IntKind.i64.wrap (p k + b) = p k + b := IntWalk.i64_in _ ⟨by omega, by omega⟩
  have HW := Lib.hid (fun (W' : World) => (wrapped_any (p k + b) (el xs (k : Int) * 1000) W' (by omega) (by omega)).mono fun (e : Ending) (w'' : World) (h : e = .returned (.tuple #[.int .i64 ((p k + b) % (el xs (k : Int) * 1000)), .int .i64 ((p k + b) / (el xs (k : Int) * 1000))]) ∧ W' = w'') => (show e = .returned (.tuple #[.int .i64 (bpV xs p k b), .int .i64 ((p k + b) / (el xs (k : Int) * 1000))]) ∧ w'' = W' from ⟨h.1, h.2.symm⟩))
  clear hk hp hby
  go_enter Try.func30, Try.ntmps30
  (go_wp2_with fail; refine (ValidMotion_any hs h8 _ hl hj _ _ (by repeat' (first | (with_reducible first | assumption | exact Below.refl _ _ | refine Below.drew ?_ | refine Below.alloc ?_ ?_ _ | refine Below.setCell ?_ ?_ _ | refine below_setR ?_ ?_ _ | refine below_dn ?_ _ | refine Below.trans ?_ (below_mo _ _ _ ?_) | refine Below.trans ?_ (below_mq _ _ ?_) | exact Nat.le_refl _) | (simp; done) | (simp; omega) | omega)) (by repeat' (first | (with_reducible first | assumption | exact Below.refl _ _ | refine Below.drew ?_ | refine Below.alloc ?_ ?_ _ | refine Below.setCell ?_ ?_ _ | refine below_setR ?_ ?_ _ | refine below_dn ?_ _ | refine Below.trans ?_ (below_mo _ _ _ ?_) | refine Below.trans ?_ (below_mq _ _ ?_) | exact Nat.le_refl _) | (simp; done) | (simp; omega) | omega))).mono ?_; rintro e w' ⟨rfl, hb_⟩; obtain ⟨os0, d0, rfl⟩ := mo_of hb_; clear hb_)
  rw [HK.out]
  (go_wp2_with fail; refine (partsOK_any hs h8 c hl hj cl _ (by repeat' (first | (with_reducible first | assumption | exact Below.refl _ _ | refine Below.drew ?_ | refine Below.alloc ?_ ?_ _ | refine Below.setCell ?_ ?_ _ | refine below_setR ?_ ?_ _ | refine below_dn ?_ _ | refine Below.trans ?_ (below_mo _ _ _ ?_) | refine Below.trans ?_ (below_mq _ _ ?_) | exact Nat.le_refl _) | (simp; done) | (simp; omega) | omega)) (by repeat' (first | (with_reducible first | assumption | exact Below.refl _ _ | refine Below.drew ?_ | refine Below.alloc ?_ ?_ _ | refine Below.setCell ?_ ?_ _ | refine below_setR ?_ ?_ _ | refine below_dn ?_ _ | refine Below.trans ?_ (below_mo _ _ _ ?_) | refine Below.trans ?_ (below_mq _ _ ?_) | exact Nat.le_refl _) | (simp; done) | (simp; omega) | omega)) _ (by first | assumption | (simp [go_sem]; done) | (simp [go_sem, *]; done) | (simp [go_sem]; rfl)) (by first | assumption | (simp [go_sem]; done) | (simp [go_sem, *]; done) | (simp [go_sem]; rfl)) p HS.out HP.out).mono ?_; rintro e w' ⟨rfl, hb_⟩; obtain ⟨os1, d1, rfl⟩ := mo_of hb_; clear hb_)
  (go_wp2_with fail; refine (hasWheelC _ hkl hs.len _).mono ?_; rintro e w' ⟨rfl, rfl⟩)
  (go_wp2_with fail; refine (within_ok _ _ _ _).mono ?_; rintro e w' ⟨rfl, rfl⟩; rw [HI.out])
  go_wp2
  go_region_with (first | (go_at_call 74; (with_reducible refine (whole_any hs h8 c hl hj cl _ (by repeat' (first | (with_reducible first | assumption | exact Below.refl _ _ | refine Below.drew ?_ | refine Below.alloc ?_ ?_ _ | refine Below.setCell ?_ ?_ _ | refine below_setR ?_ ?_ _ | refine below_dn ?_ _ | refine Below.trans ?_ (below_mo _ _ _ ?_) | refine Below.trans ?_ (below_mq _ _ ?_) | exact Nat.le_refl _) | (simp; done) | (simp; omega) | omega)) (by repeat' (first | (with_reducible first | assumption | exact Below.refl _ _ | refine Below.drew ?_ | refine Below.alloc ?_ ?_ _ | refine Below.setCell ?_ ?_ _ | refine below_setR ?_ ?_ _ | refine below_dn ?_ _ | refine Below.trans ?_ (below_mo _ _ _ ?_) | refine Below.trans ?_ (below_mq _ _ ?_) | exact Nat.le_refl _) | (simp; done) | (simp; omega) | omega)) _ (by first | assumption | (simp [go_sem]; done) | (simp [go_sem, *]; done) | (simp [go_sem]; rfl)) (by first | assumption | (simp [go_sem]; done) | (simp [go_sem, *]; done) | (simp [go_sem]; rfl)) k HS.out hkl).mono ?_); rintro e w' ⟨rfl, rfl⟩) | (go_at_call 73; (with_reducible refine (HW.out _).mono ?_); rintro e w' ⟨rfl, rfl⟩))
  all_goals go_wp2
  all_goals go_returns
  all_goals exact ⟨rfl, (by repeat' (first | (with_reducible first | assumption | exact Below.refl _ _ | refine Below.drew ?_ | refine Below.alloc ?_ ?_ _ | refine Below.setCell ?_ ?_ _ | refine below_setR ?_ ?_ _ | refine below_dn ?_ _ | refine Below.trans ?_ (below_mo _ _ _ ?_) | refine Below.trans ?_ (below_mq _ _ ?_) | exact Nat.le_refl _) | (simp; done) | (simp; omega) | omega))⟩
set_option maxHeartbeats 4000000 in
theorem specBump_ok {A : Option Addr} {xs : List Int} {W : World} {B : Nat} (hs : Nums .u8 W B A xs) (h8 : b8 xs) (c : Nat) {L : Option Addr} {js : List (Int × Int)} {V : World} {C : Nat} (hl : Prs .i8 .i16 V C L js) (hj : j8 js) (cl : Nat) (w : World) (hb : Below B W w) (hv : Below C V w) (p : Nat → Int) (hk : okO xs js = true) (hp : okP2 xs p) (k : Nat) (hkl : k < xs.length) {b : Int} (hby : -1000 ≤ b ∧ b ≤ 1000) : Calls Try.prog 31 #[.agg #[.slice A xs.length c, .slice L js.length cl], .agg #[.int .i64 (p 0), .int .i64 (p 1), .int .i64 (p 2), .int .i64 (p 3), .int .i64 (p 4), .int .i64 (p 5), .int .i64 (p 6), .int .i64 (p 7)], .int .i64 (k : Int), .int .i64 b] w fun e w' => e = .returned (.tuple #[.agg #[.int .i64 (bpP xs p k b 0), .int .i64 (bpP xs p k b 1), .int .i64 (bpP xs p k b 2), .int .i64 (bpP xs p k b 3), .int .i64 (bpP xs p k b 4), .int .i64 (bpP xs p k b 5), .int .i64 (bpP xs p k b 6), .int .i64 (bpP xs p k b 7)], .int .i64 0]) ∧ Below w.heap.size w w' := by
  have hB := hs.bsz hb
  have hC := hl.bsz hv
  have HK := Lib.hid hk
  have HP := Lib.hid hp
  have HS := Lib.hid (okO_parts hk).1
  have hl8 := okS_len HS.out
  have he := okS_el HS.out hkl
  have hpk := hp.1 k hkl
  have HI := Lib.hid (inBy hby)
  have HWI := Lib.hid (inWheel hkl)
  have hk8 : k < 8 := by omega
  have g0 : (0 : Int) ≤ (k : Int) := by omega
  have g1 : (k : Int) < 8 := by omega
  have g2 : (k : Int) < (xs.length : Int) := by omega
  have ha := a8_at .i64 p hk8
  have hst := (a8_set .i64 p (bpV xs p k b) hk8).trans (by rw [show upd p k (bpV xs p k b) = bpP xs p k b from rfl])
  have bb := bp_bd (xs := xs) (p := p) (k := k) (b := b) he.1
  have e1 : IntKind.i64.wrap (p k + b) = p k + b := IntWalk.i64_in _ ⟨by omega, by omega⟩
  have e2 : IntKind.i64.wrap (el xs (k : Int)) = el xs (k : Int) := IntWalk.i64_in _ ⟨by omega, by omega⟩
  have e3 : IntKind.i64.wrap (el xs (k : Int) * 1000) = el xs (k : Int) * 1000 := IntWalk.i64_in _ ⟨by omega, by omega⟩
  have e4 : IntKind.i64.wrap (p k + b + el xs (k : Int) * 1000) = p k + b + el xs (k : Int) * 1000 := IntWalk.i64_in _ ⟨by omega, by omega⟩
  have e5 : (p k + b + el xs (k : Int) * 1000).tmod (el xs (k : Int) * 1000) = bpV xs p k b := (Int.tmod_eq_emod_of_nonneg (by omega)).trans (Int.add_emod_right ..)
  have e6 : IntKind.i64.wrap (bpV xs p k b) = bpV xs p k b := IntWalk.i64_in _ ⟨by omega, by omega⟩
  have e7 : IntKind.i64.wrap ((xs.length : Int) - 1) = (xs.length : Int) - 1 := IntWalk.i64_in _ ⟨by omega, by omega⟩
  have z1 : ¬ el xs (k : Int) * 1000 = 0 := by omega
  have z2 : (el xs (k : Int) * 1000 == 0) = false := beq_eq_false_iff_ne.2 z1
  have K1 := Lib.hid (fun W' (h1 : Below B W W') (h2 : Below C V W') g k0 k1 => l02Ok_any hs h8 c hl hj cl W' h1 h2 g k0 k1)
  rw [HK.out] at K1
  have K2 := Lib.hid (fun W' (h1 : Below B W W') (h2 : Below C V W') g k0 k1 => l02Given_any hs h8 c hl hj cl W' h1 h2 g k0 k1 p HS.out HP.out)
  obtain ⟨bb0, off, rfl, hbs, hcc⟩ := hs.at hb hkl
  clear hk hp hby
  go_enter Try.func31, Try.ntmps31
  (go_wp2_with fail; refine (K1.out _ (by repeat' (first | (with_reducible first | assumption | exact Below.refl _ _ | refine Below.drew ?_ | refine Below.alloc ?_ ?_ _ | refine Below.setCell ?_ ?_ _ | refine below_setR ?_ ?_ _ | refine below_dn ?_ _ | refine Below.trans ?_ (below_mo _ _ _ ?_) | refine Below.trans ?_ (below_mq _ _ ?_) | exact Nat.le_refl _) | (simp; done) | (simp; omega) | omega)) (by repeat' (first | (with_reducible first | assumption | exact Below.refl _ _ | refine Below.drew ?_ | refine Below.alloc ?_ ?_ _ | refine Below.setCell ?_ ?_ _ | refine below_setR ?_ ?_ _ | refine below_dn ?_ _ | refine Below.trans ?_ (below_mo _ _ _ ?_) | refine Below.trans ?_ (below_mq _ _ ?_) | exact Nat.le_refl _) | (simp; done) | (simp; omega) | omega)) _ (by first | assumption | (simp [go_sem]; done) | (simp [go_sem, *]; done) | (simp [go_sem]; rfl)) (by first | assumption | (simp [go_sem]; done) | (simp [go_sem, *]; done) | (simp [go_sem]; rfl))).mono ?_; rintro e w' ⟨rfl, hb_⟩; obtain ⟨os0, d0, rfl⟩ := mo_of hb_; clear hb_)
  (go_wp2_with fail; refine (K2.out _ (by repeat' (first | (with_reducible first | assumption | exact Below.refl _ _ | refine Below.drew ?_ | refine Below.alloc ?_ ?_ _ | refine Below.setCell ?_ ?_ _ | refine below_setR ?_ ?_ _ | refine below_dn ?_ _ | refine Below.trans ?_ (below_mo _ _ _ ?_) | refine Below.trans ?_ (below_mq _ _ ?_) | exact Nat.le_refl _) | (simp; done) | (simp; omega) | omega)) (by repeat' (first | (with_reducible first | assumption | exact Below.refl _ _ | refine Below.drew ?_ | refine Below.alloc ?_ ?_ _ | refine Below.setCell ?_ ?_ _ | refine below_setR ?_ ?_ _ | refine below_dn ?_ _ | refine Below.trans ?_ (below_mo _ _ _ ?_) | refine Below.trans ?_ (below_mq _ _ ?_) | exact Nat.le_refl _) | (simp; done) | (simp; omega) | omega)) _ (by first | assumption | (simp [go_sem]; done) | (simp [go_sem, *]; done) | (simp [go_sem]; rfl)) (by first | assumption | (simp [go_sem]; done) | (simp [go_sem, *]; done) | (simp [go_sem]; rfl))).mono ?_; rintro e w' ⟨rfl, hb_⟩; obtain ⟨os1, d1, rfl⟩ := mo_of hb_; clear hb_)
  (go_wp2_with fail; refine (l00In_ok _ _ _ _).mono ?_; rintro e w' ⟨rfl, rfl⟩; rw [HWI.out])
  (go_wp2_with fail; refine (l00In_ok _ _ _ _).mono ?_; rintro e w' ⟨rfl, rfl⟩; rw [HI.out])
  go_wp2
  go_returns
  exact ⟨rfl, (by repeat' (first | (with_reducible first | assumption | exact Below.refl _ _ | refine Below.drew ?_ | refine Below.alloc ?_ ?_ _ | refine Below.setCell ?_ ?_ _ | refine below_setR ?_ ?_ _ | refine below_dn ?_ _ | refine Below.trans ?_ (below_mo _ _ _ ?_) | refine Below.trans ?_ (below_mq _ _ ?_) | exact Nat.le_refl _) | (simp; done) | (simp; omega) | omega))⟩
theorem rf1 (xs : List Int) (js : List (Int × Int)) (p : Nat → Int) : (#[Value.int .u8 (p 0 / 1000), Value.int .u8 0, Value.int .u8 0, Value.int .u8 0, Value.int .u8 0, Value.int .u8 0, Value.int .u8 0, Value.int .u8 0] : Array Value) = #[.int .u8 (rfTo xs js p 1 0), .int .u8 (rfTo xs js p 1 1), .int .u8 (rfTo xs js p 1 2), .int .u8 (rfTo xs js p 1 3), .int .u8 (rfTo xs js p 1 4), .int .u8 (rfTo xs js p 1 5), .int .u8 (rfTo xs js p 1 6), .int .u8 (rfTo xs js p 1 7)] := rfl
set_option maxHeartbeats 8000000 in
theorem implRightFrom_ok {A : Option Addr} {xs : List Int} {W : World} {B : Nat} (hs : Nums .u8 W B A xs) (h8 : b8 xs) (c : Nat) {L : Option Addr} {js : List (Int × Int)} {V : World} {C : Nat} (hl : Prs .i8 .i16 V C L js) (hj : j8 js) (cl : Nat) (w : World) (hb : Below B W w) (hv : Below C V w) (p : Nat → Int) (hk : okO xs js = true) (hp : okP2 xs p) : Calls Try.prog 32 #[.agg #[.slice A xs.length c, .slice L js.length cl], .agg #[.int .i64 (p 0), .int .i64 (p 1), .int .i64 (p 2), .int .i64 (p 3), .int .i64 (p 4), .int .i64 (p 5), .int .i64 (p 6), .int .i64 (p 7)]] w fun e w' => e = .returned (.tuple #[.agg #[.int .u8 (rfTo xs js p xs.length 0), .int .u8 (rfTo xs js p xs.length 1), .int .u8 (rfTo xs js p xs.length 2), .int .u8 (rfTo xs js p xs.length 3), .int .u8 (rfTo xs js p xs.length 4), .int .u8 (rfTo xs js p xs.length 5), .int .u8 (rfTo xs js p xs.length 6), .int .u8 (rfTo xs js p xs.length 7)], .int .i64 0]) ∧ Below w.heap.size w w' := by
  have hB := hs.bsz hb
  have hC := hl.bsz hv
  obtain ⟨s1, s2, s3⟩ := okO_parts hk
  have HK := Lib.hid hk
  have HP := Lib.hid hp
  have HS := Lib.hid s1
  have HL := Lib.hid s2
  have hl8 := okS_len s1
  have he0 := okS_el s1 (k := 0) (by omega)
  have hp0 := hp.1 0 (by omega)
  rw [show ((0 : Nat) : Int) = 0 from rfl] at he0 hp0
  have d0 : (p 0).tdiv 1000 = p 0 / 1000 := Int.tdiv_eq_ediv_of_nonneg hp0.1
  have d1 : IntKind.i64.wrap (p 0 / 1000) = p 0 / 1000 := IntWalk.i64_in _ ⟨by omega, by omega⟩
  have d2 : IntKind.u8.wrap (p 0 / 1000) = p 0 / 1000 := IntWalk.u8_in _ ⟨by omega, by omega⟩
  have HBD := Lib.hid (fun i (hi : i < xs.length) => rfQ_bd hk hp i hi)
  clear s1 s2 s3 hk hp
  go_enter Try.func32, Try.ntmps32
  (go_wp2_with fail; refine (ValidMotion_any hs h8 _ hl hj _ _ (by repeat' (first | (with_reducible first | assumption | exact Below.refl _ _ | refine Below.drew ?_ | refine Below.alloc ?_ ?_ _ | refine Below.setCell ?_ ?_ _ | refine below_setR ?_ ?_ _ | refine below_dn ?_ _ | refine Below.trans ?_ (below_mo _ _ _ ?_) | refine Below.trans ?_ (below_mq _ _ ?_) | exact Nat.le_refl _) | (simp; done) | (simp; omega) | omega)) (by repeat' (first | (with_reducible first | assumption | exact Below.refl _ _ | refine Below.drew ?_ | refine Below.alloc ?_ ?_ _ | refine Below.setCell ?_ ?_ _ | refine below_setR ?_ ?_ _ | refine below_dn ?_ _ | refine Below.trans ?_ (below_mo _ _ _ ?_) | refine Below.trans ?_ (below_mq _ _ ?_) | exact Nat.le_refl _) | (simp; done) | (simp; omega) | omega))).mono ?_; rintro e w' ⟨rfl, hb_⟩; obtain ⟨os0, d0, rfl⟩ := mo_of hb_; clear hb_)
  rw [HK.out]
  (go_wp2_with fail; refine (partsOK_any hs h8 c hl hj cl _ (by repeat' (first | (with_reducible first | assumption | exact Below.refl _ _ | refine Below.drew ?_ | refine Below.alloc ?_ ?_ _ | refine Below.setCell ?_ ?_ _ | refine below_setR ?_ ?_ _ | refine below_dn ?_ _ | refine Below.trans ?_ (below_mo _ _ _ ?_) | refine Below.trans ?_ (below_mq _ _ ?_) | exact Nat.le_refl _) | (simp; done) | (simp; omega) | omega)) (by repeat' (first | (with_reducible first | assumption | exact Below.refl _ _ | refine Below.drew ?_ | refine Below.alloc ?_ ?_ _ | refine Below.setCell ?_ ?_ _ | refine below_setR ?_ ?_ _ | refine below_dn ?_ _ | refine Below.trans ?_ (below_mo _ _ _ ?_) | refine Below.trans ?_ (below_mq _ _ ?_) | exact Nat.le_refl _) | (simp; done) | (simp; omega) | omega)) _ (by first | assumption | (simp [go_sem]; done) | (simp [go_sem, *]; done) | (simp [go_sem]; rfl)) (by first | assumption | (simp [go_sem]; done) | (simp [go_sem, *]; done) | (simp [go_sem]; rfl)) p HS.out HP.out).mono ?_; rintro e w' ⟨rfl, hb_⟩; obtain ⟨os1, d1, rfl⟩ := mo_of hb_; clear hb_)
  go_wp2
  go_region_with (fail)
  all_goals
    go_wp2
    go_loopw [7, 8] (fun q i wr => ∃ (m : Nat) (os : Array Obj) (d : Nat), (1 ≤ m ∧ m ≤ xs.length) ∧ q = .int .i64 (rfQ xs js p (m - 1)).2 ∧ i = .int .i64 (m : Int) ∧ wr = mo ((mo (mo (((w.alloc (.cells #[.slice A xs.length c, .slice L js.length cl] 49)).alloc (.cells #[.int .i64 (p 0), .int .i64 (p 1), .int .i64 (p 2), .int .i64 (p 3), .int .i64 (p 4), .int .i64 (p 5), .int .i64 (p 6), .int .i64 (p 7)] 53)).alloc (.cells #[.int .u8 0, .int .u8 0, .int .u8 0, .int .u8 0, .int .u8 0, .int .u8 0, .int .u8 0, .int .u8 0] 57)) os0 d0) os1 d1).alloc (.cells #[.int .u8 (rfTo xs js p m 0), .int .u8 (rfTo xs js p m 1), .int .u8 (rfTo xs js p m 2), .int .u8 (rfTo xs js p m 3), .int .u8 (rfTo xs js p m 4), .int .u8 (rfTo xs js p m 5), .int .u8 (rfTo xs js p m 6), .int .u8 (rfTo xs js p m 7)] 57)) os d) (fun _ i _ => xs.length - (intOf i).toNat)
    case atStart => exact ⟨1, #[], _, ⟨Nat.le_refl 1, hl8.1⟩, rfl, rfl, by rw [← rf1]; exact (mo_nil _).symm⟩
    case round =>
      obtain ⟨m, os, d, ⟨hm1, hm2⟩, rfl, rfl, rfl⟩ := hrel
      by_cases hlt : m < xs.length
      · obtain ⟨j, hjm⟩ : ∃ j, j + 1 = m := ⟨m - 1, by omega⟩
        rw [show m - 1 = j by omega]
        have hjl : j < js.length := by have := HL.out; omega
        have hq := (HBD.out j (by omega)).2
        have hy := byd_bd (okS_el HS.out (k := j) (by omega)) ((okO_parts HK.out).2.2 j hjl) hq
        have hx := (HBD.out m hlt).1
        have em := okS_el HS.out hlt
        have hpm := HP.out.1 m hlt
        have hm8 : m < 8 := by omega
        have ha := a8_at .i64 p hm8
        have g0 : (0 : Int) ≤ (m : Int) := by omega
        have g1 : (m : Int) < 8 := by omega
        have g2 : (m : Int) < (xs.length : Int) := by omega
        have HX : Hid ((p m - byd (el xs (j : Int)) (p1 js (j : Int)) (p2 js (j : Int)) (rfQ xs js p j).2 + 500) / 1000 % el xs (m : Int) = (rfQ xs js p m).1) := by subst hjm; rfl
        have HQ : Hid ((rfQ xs js p m).1 * 1000 + byd (el xs (j : Int)) (p1 js (j : Int)) (p2 js (j : Int)) (rfQ xs js p j).2 = (rfQ xs js p m).2) := by subst hjm; rfl
        have HB := Lib.hid (fun W' h1 h2 g k0 k1 => beyond_m hs h8 c hl hj cl W' h1 h2 g k0 k1 m j (rfQ xs js p j).2 hjm HK.out hjl hq)
        have hst := (a8_set .u8 (rfTo xs js p m) (rfQ xs js p m).1 hm8).trans (by rw [rfTo_succ])
        generalize byd (el xs (j : Int)) (p1 js (j : Int)) (p2 js (j : Int)) (rfQ xs js p j).2 = f at *
        have hfl := div_bdC (n := p m - f + 500) (p := 1000) (by omega) (by omega)
        have KF := Lib.hid (fun W' => floor_any (p m - f + 500) 1000 W' (by omega) (by omega))
        have KW := Lib.hid (fun W' => wrapped_any ((p m - f + 500) / 1000) (el xs (m : Int)) W' (by omega) (by omega))
        rw [HX.out] at KW
        have e1 : IntKind.i64.wrap (p m - f) = p m - f := IntWalk.i64_in _ ⟨by omega, by omega⟩
        have e2 : IntKind.i64.wrap (p m - f + 500) = p m - f + 500 := IntWalk.i64_in _ ⟨by omega, by omega⟩
        have e3 : IntKind.i64.wrap (el xs (m : Int)) = el xs (m : Int) := IntWalk.i64_in _ ⟨by omega, by omega⟩
        have e4 : IntKind.u8.wrap (rfQ xs js p m).1 = (rfQ xs js p m).1 := IntWalk.u8_in _ ⟨by omega, by omega⟩
        have e5 : IntKind.i64.wrap ((rfQ xs js p m).1 * 1000) = (rfQ xs js p m).1 * 1000 := IntWalk.i64_in _ ⟨by omega, by omega⟩
        have e6 : IntKind.i64.wrap ((rfQ xs js p m).1 * 1000 + f) = (rfQ xs js p m).2 := (IntWalk.i64_in _ ⟨by omega, by omega⟩).trans HQ.out
        obtain ⟨bb, off, rfl, hbs, hcc⟩ := hs.at hb hlt
        clear hq hy hx hpm hjm
        (go_wp2_with fail; refine (HB.out _ (by repeat' (first | (with_reducible first | assumption | exact Below.refl _ _ | refine Below.drew ?_ | refine Below.alloc ?_ ?_ _ | refine Below.setCell ?_ ?_ _ | refine below_setR ?_ ?_ _ | refine below_dn ?_ _ | refine Below.trans ?_ (below_mo _ _ _ ?_) | refine Below.trans ?_ (below_mq _ _ ?_) | exact Nat.le_refl _) | (simp; done) | (simp; omega) | omega)) (by repeat' (first | (with_reducible first | assumption | exact Below.refl _ _ | refine Below.drew ?_ | refine Below.alloc ?_ ?_ _ | refine Below.setCell ?_ ?_ _ | refine below_setR ?_ ?_ _ | refine below_dn ?_ _ | refine Below.trans ?_ (below_mo _ _ _ ?_) | refine Below.trans ?_ (below_mq _ _ ?_) | exact Nat.le_refl _) | (simp; done) | (simp; omega) | omega)) _ (by first | assumption | (simp [go_sem]; done) | (simp [go_sem, *]; done) | (simp [go_sem]; rfl)) (by first | assumption | (simp [go_sem]; done) | (simp [go_sem, *]; done) | (simp [go_sem]; rfl))).mono ?_; rintro e w' ⟨rfl, hb_⟩; obtain ⟨os2, d2, rfl⟩ := mo_of hb_; clear hb_)
        go_wp2
        (refine wp_region_mq (by kernel_rfl) (by kernel_rfl) ?_; (repeat (first | go_big_quiet_step ((first | (go_at_call 78; with_reducible exact quietS (KF.out _) ) | (go_at_call 73; with_reducible exact quietS (KW.out _) ))) | quiet_step ((first | (go_at_call 78; with_reducible exact quietS (KF.out _) ) | (go_at_call 73; with_reducible exact quietS (KW.out _) ))))); refine wpQuiet_nil ?_; intro _ hq_; obtain ⟨q_, rfl⟩ := hq_)
        go_wp2
        exact ⟨⟨m + 1, _, _, ⟨by omega, hlt⟩, rfl, by go_num, by simp only [mq, mo_mo, mo_drew]; rfl⟩, by simp [intOf]; omega⟩
      · obtain rfl : m = xs.length := by omega
        go_wp2
        go_returns
        exact ⟨rfl, (by repeat' (first | (with_reducible first | assumption | exact Below.refl _ _ | refine Below.drew ?_ | refine Below.alloc ?_ ?_ _ | refine Below.setCell ?_ ?_ _ | refine below_setR ?_ ?_ _ | refine below_dn ?_ _ | refine Below.trans ?_ (below_mo _ _ _ ?_) | refine Below.trans ?_ (below_mq _ _ ?_) | exact Nat.le_refl _) | (simp; done) | (simp; omega) | omega))⟩
end Go.Proofs.Ytinjlofefmjolaa.X
