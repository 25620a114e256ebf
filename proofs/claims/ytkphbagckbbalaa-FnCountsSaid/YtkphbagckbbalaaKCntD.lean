/- Stacks and values of stacks, as they are drawn. Conditions: none. -/
import Derived.Test.YtkphbagckbbalaaKCntZ
import Derived.Test.YtkphbagckbbalaaKP6
import Derived.Test.YtkphbagckbbalaaKDrawM
import Derived.Test.YtkphbagckbbalaaKLsW
namespace Go.Proofs.Ytkphbagckbbalaa.X
open Go.RowKit
set_option linter.unusedVariables false
set_option linter.unusedSimpArgs false
set_option maxRecDepth 100000
def bases (ys : List Int) : Prop := ∀ x ∈ ys, 2 ≤ x ∧ x ≤ 100
theorem bases_el {ys : List Int} (h : bases ys) {j : Nat} (hj : j < ys.length) : 2 ≤ el ys (j : Int) ∧ el ys (j : Int) ≤ 100 := by
  rw [el_at hj]
  exact h _ (List.getElem_mem hj)
theorem bases_8 {ys : List Int} (h : bases ys) : b8 ys := by
  intro i
  unfold el
  rw [List.getD_eq_getElem?_getD]
  rcases hx : ys[i.toNat]? with _ | x
  · decide
  · have := h x (List.mem_of_getElem? hx)
    show 0 ≤ x ∧ x ≤ 255
    omega
theorem bases_snoc {ys : List Int} (h : bases ys) {x : Int} (hx : 2 ≤ x ∧ x ≤ 100) : bases (ys ++ [x]) := by
  intro y hy
  rcases List.mem_append.1 hy with a | a
  · exact h y a
  · rw [List.mem_singleton.1 a]; exact hx
theorem sizeTo_100 {ys : List Int} (h : bases ys) : ∀ k : Nat, k ≤ ys.length → 0 ≤ sizeTo ys k ∧ sizeTo ys k ≤ (100 : Int) ^ k
  | 0, _ => by show (0 : Int) ≤ 1 ∧ (1 : Int) ≤ (100 : Int) ^ 0; decide
  | k + 1, hk => by
    have ih := sizeTo_100 h k (by omega)
    have b := bases_el h (j := k) (by omega)
    have m := Int.mul_le_mul ih.2 b.2 (by omega) (Int.le_trans ih.1 ih.2)
    have m2 := Int.mul_nonneg ih.1 (show 0 ≤ el ys (k : Int) by omega)
    show 0 ≤ min (sizeTo ys k * el ys (k : Int)) 1000000000001 ∧ min (sizeTo ys k * el ys (k : Int)) 1000000000001 ≤ (100 : Int) ^ (k + 1)
    rw [Int.pow_succ]
    omega
theorem pow100 {n : Nat} (hn : n ≤ 4) : (100 : Int) ^ n ≤ 100000000 := by
  rcases (show n = 0 ∨ n = 1 ∨ n = 2 ∨ n = 3 ∨ n = 4 by omega) with rfl | rfl | rfl | rfl | rfl <;> decide
theorem bases_ok {ys : List Int} (h : bases ys) (hl : 1 ≤ ys.length ∧ ys.length ≤ 4) : okS ys = true ∧ szS ys ≤ 100000000 := by
  have s := (sizeTo_100 h ys.length (Nat.le_refl _)).2
  have p := pow100 hl.2
  refine ⟨?_, by unfold szS; omega⟩
  unfold okS
  rw [Bool.and_eq_true, Bool.and_eq_true]
  exact ⟨⟨inR_t.2 ⟨by omega, by omega⟩, allTo_iff.2 fun j hj => bases_el h hj⟩, decide_eq_true (by omega)⟩
/-- one of some numbers is drawn -/
def AmongC (g : Nat) (A : Option Addr) (n c b : Nat) (w : World) (e : Ending) (w' : World) : Prop := ∃ r : Int, e = .returned (.int .i64 r) ∧ (2 ≤ r ∧ r ≤ 100) ∧ SrcB w' g A n c (b + 2) ∧ Chg w w' (fun k => k = g)
theorem among_any {A : Option Addr} {xs : List Int} {W : World} {B : Nat} (hs : Nums .u8 W B A xs) (h8 : b8 xs) (c : Nat) (w : World) (hb : Below B W w) (g b : Nat) (hgB : B ≤ g) (hi : b ≤ 100000000) (hg : SrcB w g A xs.length c b) {q n : Nat} (hn : 1 ≤ n ∧ n ≤ 100) (hq : q ≠ g) (hc : ∀ i : Nat, i < n → ∃ v : Int, w.cell? ⟨q, i, none⟩ = some (.int .i64 v) ∧ 2 ≤ v ∧ v ≤ 100) : Calls Try.prog 179 #[.pointer (some ⟨g, 0, none⟩), .slice (some ⟨q, 0, none⟩) n n] w (AmongC g A xs.length c b w) := by
  have K := Lib.hid (pick_any hs h8 c w hb g b hgB hi hg (n : Int) (by omega))
  clear hb hg
  go_enter Try.func179, Try.ntmps179
  (go_wp2_with fail; refine K.out.mono ?_; rintro e w1 ⟨r, rfl, hr, hsrc, hch⟩)
  obtain ⟨k, rfl⟩ := Int.eq_ofNat_of_zero_le hr.1
  obtain ⟨v, hv, hv2⟩ := hc k (by omega)
  have h1 := hch.cell hv hq
  have g0 : (0 : Int) ≤ (k : Int) := by omega
  have g1 : (k : Int) < (n : Int) := by omega
  have g2 : k < n := by omega
  clear hc hv hr
  go_wp2
  go_ret
  exact ⟨v, rfl, hv2, hsrc, hch⟩
theorem SrcB.ltQ {w : World} {g : Nat} {A : Option Addr} {n c b : Nat} (h : SrcB w g A n c b) : g < w.heap.size := by
  obtain ⟨i, hi, v, e⟩ := h
  exact (Array.getElem?_eq_some_iff.1 e).1
theorem drawn_cells (w : World) (t : TypeId) : ∀ i : Nat, i < 9 → ∃ v : Int, (w.alloc (.cells #[.int .i64 10, .int .i64 10, .int .i64 10, .int .i64 60, .int .i64 24, .int .i64 2, .int .i64 3, .int .i64 12, .int .i64 100] t)).cell? ⟨w.heap.size, i, none⟩ = some (.int .i64 v) ∧ 2 ≤ v ∧ v ≤ 100 := by
  intro i hi
  rcases (show i = 0 ∨ i = 1 ∨ i = 2 ∨ i = 3 ∨ i = 4 ∨ i = 5 ∨ i = 6 ∨ i = 7 ∨ i = 8 by omega) with rfl | rfl | rfl | rfl | rfl | rfl | rfl | rfl | rfl
  all_goals exact ⟨_, by simp [go_sem]; rfl, by decide, by decide⟩
theorem own_litS (w : World) (b : Nat) (hb : b ≤ w.heap.size) (e : TypeId) (g : Nat) (hg : g = w.heap.size) : (w.alloc (.cells #[] e)).ownsRow b e 1 (.slice (some ⟨g, 0, none⟩) 0 0) 0 [] := by
  subst hg
  exact ⟨rfl, .inr ⟨_, 0, #[], rfl, hb, heap_alloc_new w _, Nat.le_refl _, by decide, rfl, rfl⟩⟩
/-- The call hands back a stack. -/
def RetStk (w : World) (e : Ending) (w' : World) : Prop := ∃ (ys : List Int) (A : Option Addr) (c : Nat), e = .returned (.slice A ys.length c) ∧ ys.length ≤ c ∧ (1 ≤ ys.length ∧ ys.length ≤ 4) ∧ bases ys ∧ Nums .u8 w' w'.heap.size A ys ∧ Below w.heap.size w w'
set_option maxHeartbeats 4000000 in
theorem l01Drawn_any {A : Option Addr} {xs : List Int} {W : World} {B : Nat} (hs : Nums .u8 W B A xs) (h8 : b8 xs) (c : Nat) (W0 : World) (hB0 : B ≤ W0.heap.size) (hb0 : Below B W W0) (w : World) (hW0 : Below W0.heap.size W0 w) (hg : SrcB w W0.heap.size A xs.length c 0) (hz : W0.heap.size < w.heap.size) : Calls Try.prog 113 #[.pointer (some ⟨W0.heap.size, 0, none⟩)] w (RetStk W0) := by
  obtain ⟨i0, hi, hz0, hz1, hz2⟩ := info_parts infoU8
  have S0 := Lib.hid (fun W' (hW : Below (W0.heap.size + 1) w W') => hg.keep hW (by omega))
  go_enter Try.func113, Try.ntmps113
  (go_wp2_with fail; refine (pick_any hs h8 c _ (hb0.trans (Below.mono (by repeat' (first | (with_reducible first | assumption | exact Below.refl _ _ | refine Below.drew ?_ | refine Below.alloc ?_ ?_ _ | refine Below.setCell ?_ ?_ _ | refine below_setR ?_ ?_ _ | refine below_dn ?_ _ | refine Below.trans ?_ (below_mo _ _ _ ?_) | refine Below.trans ?_ (below_mq _ _ ?_) | exact Nat.le_refl _) | (simp; done) | (simp; omega) | omega)) hB0)) W0.heap.size 0 hB0 (by omega) (S0.out _ (by repeat' (first | (with_reducible first | assumption | exact Below.refl _ _ | refine Below.drew ?_ | refine Below.alloc ?_ ?_ _ | refine Below.setCell ?_ ?_ _ | refine below_setR ?_ ?_ _ | refine below_dn ?_ _ | refine Below.trans ?_ (below_mo _ _ _ ?_) | refine Below.trans ?_ (below_mq _ _ ?_) | exact Nat.le_refl _) | (simp; done) | (simp; omega) | omega))) 4 (by omega)).mono ?_; rintro e w1 ⟨k0, rfl, hk0, hsrc, hc1⟩)
  obtain ⟨k1, rfl⟩ := Int.eq_ofNat_of_zero_le hk0.1
  have hnx1 : Below W0.heap.size W0 w1 := hc1.below (by repeat' (first | (with_reducible first | assumption | exact Below.refl _ _ | refine Below.drew ?_ | refine Below.alloc ?_ ?_ _ | refine Below.setCell ?_ ?_ _ | refine below_setR ?_ ?_ _ | refine below_dn ?_ _ | refine Below.trans ?_ (below_mo _ _ _ ?_) | refine Below.trans ?_ (below_mq _ _ ?_) | exact Nat.le_refl _) | (simp; done) | (simp; omega) | omega)) (by first | (simp; done) | (simp; omega)) (fun k hk => by omega)
  have own1 := hc1.row (own_litS w W0.heap.size (by omega) 5 _ rfl) (fun k h1 h2 => by simp [Value.ownBlock] at h1; omega)
  have hsrc1 : SrcB w1 W0.heap.size A xs.length c (100 - 4 * (k1 + 1)) := hsrc.up (by omega)
  have hk6 : k1 ≤ 3 := by omega
  have e0 : IntKind.i64.wrap (1 + (k1 : Int)) = (k1 : Int) + 1 := (IntWalk.i64_in _ ⟨by omega, by omega⟩).trans (by omega)
  clear hsrc hc1 S0 hk0 hg hW0 hz
  go_wp2
  go_loopw [3, 4] (fun v i wr => ∃ (k : Nat) (ys : List Int), (ys.length + k ≤ 4 ∧ (k = 0 → 1 ≤ ys.length)) ∧ Hid (bases ys) ∧ i = .int .i64 (k : Int) ∧ wr.ownsRow W0.heap.size 5 1 v ys.length (ys.map (Value.int .u8)) ∧ SrcB wr W0.heap.size A xs.length c (100 - 4 * k) ∧ Below W0.heap.size W0 wr) (fun _ i _ => (intOf i).toNat)
  case atStart => exact ⟨k1 + 1, [], ⟨by simp; omega, by omega⟩, (fun k hk => absurd hk (by simp)), by simp, by first | exact own1 | simpa using own1, hsrc1, hnx1⟩
  case round =>
    obtain ⟨k, ys, ⟨hk, hk2⟩, HM, rfl, hown, hsrc, hnx⟩ := hrel
    have hsize := hnx.size
    by_cases hlt : 0 < k
    · have g0 : (0 : Int) < (k : Int) := by omega
      have hbw : Below B W wr := hb0.trans (hnx.mono hB0)
      have hne := hsrc.ne hown (by decide)
      have hgs := hsrc.ltQ
      have e1 : IntKind.i64.wrap ((k : Int) - 1) = (k : Int) - 1 := IntWalk.i64_in _ ⟨by omega, by omega⟩
      have HS := Lib.hid hsrc
      (go_wp2_with fail; refine (among_any hs h8 c _ (hbw.alloc (by have := hs.bsz hbw; omega) _) W0.heap.size (100 - 4 * k) hB0 (by omega) (hsrc.keep (Below.alloc (Below.refl _ _) (Nat.le_refl _) _) (by omega)) (q := wr.heap.size) (n := 9) (by omega) (by omega) (drawn_cells wr _)).mono ?_; rintro e w2 ⟨r, rfl, hr, hsrc2, hc2⟩)
      have own2 := hc2.row (hown.alloc _) (fun q h1 h2 => hne (by rw [h1, h2]))
      have hnx2 := hc2.below (hnx.alloc hsize _) (by first | (simp; done) | (simp; omega)) (fun q hq => by omega)
      have hsz2 := hnx2.size
      have hne2 := hsrc2.ne own2 (by decide)
      have e2 : IntKind.u8.wrap r = r := by rw [IntKind.wrap_u8]; omega
      have HN := Lib.hid (bases_snoc HM.out hr)
      clear hc2
      go_wp2_with (first | (at_builtin; refine wpList_append_own _ rfl _ _ 24 rfl W0.heap.size 5 i0 (.int .u8 0) 1 1 undStk hi hz0 hz1 hz2 rfl (by decide) _ _ _ rfl (own2.alloc _) ⟨w2.heap.size, 0, none⟩ 1 1 [.int .u8 r] rfl rfl (cell_one_new _ _ _) (fun x hx => by simp at hx; subst hx; rfl) (by unfold maxLen; omega) (by omega) (by simp; omega) ?_; intro v' w3 hown' hgrow3 hnil3))
      exact ⟨⟨k - 1, ys ++ [r], ⟨by rw [List.length_append, List.length_singleton]; omega, fun _ => by rw [List.length_append, List.length_singleton]; omega⟩, HN.out, by rw [show ((k - 1 : Nat) : Int) = (k : Int) - 1 by omega], by rw [List.map_append, List.length_append]; exact hown', (keepS hsrc2 hgrow3 hne2).up (by omega), (hnx2.alloc (by omega) _).grown hgrow3 (by first | (simp; done) | (simp; omega)) (fun q hq => (own2.lt q hq).1)⟩, by simp [intOf]; omega⟩
    · obtain rfl : k = 0 := by omega
      have hk3 := hk2 rfl
      obtain ⟨q, cap, rfl, hcap, hq⟩ := own_at hown hk3
      obtain ⟨A1, c1, e5, N1⟩ := own_numsQ hown (by omega)
      obtain ⟨rfl, rfl⟩ : some ⟨q, 0, none⟩ = A1 ∧ cap = c1 := by injection e5 with a b d; exact ⟨a, d⟩
      go_wp2
      go_ret
      exact ⟨ys, _, _, rfl, hcap, ⟨hk3, by omega⟩, HM.out, N1, hnx⟩
theorem P6Stack_any {A : Option Addr} {xs : List Int} {W : World} {B : Nat} (hs : Nums .u8 W B A xs) (h8 : b8 xs) (c : Nat) (w : World) (hb : Below B W w) : Calls Try.prog 33 #[.slice A xs.length c] w (RetStk w) := by
  have hB := hs.bsz hb
  go_enter Try.func33, Try.ntmps33
  (go_wp2_with fail; refine (l00From_any _ _ _ _).mono ?_; rintro e w' ⟨rfl, rfl⟩)
  (go_wp2_with fail; refine (l01Drawn_any hs h8 c w hB hb _ (by repeat' (first | (with_reducible first | assumption | exact Below.refl _ _ | refine Below.drew ?_ | refine Below.alloc ?_ ?_ _ | refine Below.setCell ?_ ?_ _ | refine below_setR ?_ ?_ _ | refine below_dn ?_ _ | refine Below.trans ?_ (below_mo _ _ _ ?_) | refine Below.trans ?_ (below_mq _ _ ?_) | exact Nat.le_refl _) | (simp; done) | (simp; omega) | omega)) (srcB_new w A xs.length c 0) (by simp)).mono ?_; rintro e w1 ⟨ys, A1, c1, rfl, h1, h2, h3, h4, h5⟩)
  go_wp2
  go_ret
  exact ⟨ys, A1, c1, rfl, h1, h2, h3, h4, h5⟩
set_option maxHeartbeats 2000000 in
theorem P6Value_any {A : Option Addr} {xs : List Int} {W : World} {B : Nat} (hs : Nums .u8 W B A xs) (h8 : b8 xs) (c : Nat) {S : Option Addr} {ys : List Int} {V : World} {D : Nat} (hy : Nums .u8 V D S ys) (y8 : b8 ys) (cy : Nat) (hok : okS ys = true) (w : World) (hb : Below B W w) (hv : Below D V w) : Calls Try.prog 34 #[.slice A xs.length c, .slice S ys.length cy] w fun e w' => ∃ v : Int, e = .returned (.int .i64 v) ∧ (0 ≤ v ∧ v < szS ys) ∧ Below w.heap.size w w' := by
  have hB := hs.bsz hb
  have hD := hy.bsz hv
  have KS := Lib.hid (fun W' (hW : Below D V W') => l01Size_any hy y8 _ cy rfl W' hW)
  rw [show sizeTo ys ys.length = szS ys from rfl] at KS
  have hz := szS_bd hok
  generalize szS ys = Z at *
  have e1 : IntKind.i64.wrap (Z - 1) = Z - 1 := IntWalk.i64_in _ ⟨by omega, by omega⟩
  go_enter Try.func34, Try.ntmps34
  (go_wp2_with fail; refine (l00From_any _ _ _ _).mono ?_; rintro e w' ⟨rfl, rfl⟩)
  (go_wp2_with fail; refine (one_any hs h8 c _ (by repeat' (first | (with_reducible first | assumption | exact Below.refl _ _ | refine Below.drew ?_ | refine Below.alloc ?_ ?_ _ | refine Below.setCell ?_ ?_ _ | refine below_setR ?_ ?_ _ | refine below_dn ?_ _ | refine Below.trans ?_ (below_mo _ _ _ ?_) | refine Below.trans ?_ (below_mq _ _ ?_) | exact Nat.le_refl _) | (simp; done) | (simp; omega) | omega)) w.heap.size 0 hB (by omega) (srcB_new w A xs.length c 0) 4 (by omega)).mono ?_; rintro e w1 ⟨r, rfl, hsrc, hc1⟩)
  have hnx1 : Below w.heap.size w w1 := hc1.below (by repeat' (first | (with_reducible first | assumption | exact Below.refl _ _ | refine Below.drew ?_ | refine Below.alloc ?_ ?_ _ | refine Below.setCell ?_ ?_ _ | refine below_setR ?_ ?_ _ | refine below_dn ?_ _ | refine Below.trans ?_ (below_mo _ _ _ ?_) | refine Below.trans ?_ (below_mq _ _ ?_) | exact Nat.le_refl _) | (simp; done) | (simp; omega) | omega)) (by first | (simp; done) | (simp; omega)) (fun k hk => by omega)
  have hz1 := hnx1.size
  have hbw : Below B W w1 := hb.trans (hnx1.mono hB)
  have hvw : Below D V w1 := hv.trans (hnx1.mono hD)
  cases r
  · (go_wp2_with fail; refine (pick_any hs h8 c _ hbw w.heap.size _ hB (by omega) hsrc 1073741824 (by omega)).mono ?_; rintro e w2 ⟨x, rfl, hx, hsrc2, hc2⟩)
    have hnx2 : Below w.heap.size w w2 := hc2.below hnx1 hz1 (fun k hk => by omega)
    have m0 := Int.emod_nonneg x (show Z ≠ 0 by omega)
    have m1 := Int.emod_lt_of_pos x (show 0 < Z by omega)
    have e2 : x.tmod Z = x % Z := Int.tmod_eq_emod_of_nonneg hx.1
    have e3 : IntKind.i64.wrap (x % Z) = x % Z := IntWalk.i64_in _ ⟨by omega, by omega⟩
    have z1 : ¬ Z = 0 := by omega
    have z2 : (Z == 0) = false := beq_eq_false_iff_ne.2 z1
    have hvw2 : Below D V w2 := hv.trans (hnx2.mono hD)
    (go_wp2_with fail; refine (KS.out _ hvw2).mono ?_; rintro e w' ⟨rfl, rfl⟩)
    go_wp2
    go_ret
    exact ⟨x % Z, rfl, ⟨m0, m1⟩, hnx2⟩
  · (go_wp2_with fail; refine (KS.out _ hvw).mono ?_; rintro e w' ⟨rfl, rfl⟩)
    go_wp2
    go_ret
    exact ⟨Z - 1, rfl, ⟨by omega, by omega⟩, hnx1⟩
theorem sizeOfQ_any {A : Option Addr} {xs : List Int} {W : World} {B : Nat} (hs : Nums .u8 W B A xs) (h8 : b8 xs) (n c : Nat) (hn : xs.length = n) (w : World) (hb : Below B W w) (hk : okS xs = true) : Calls Try.prog 39 #[.slice A n c] w fun e w' => e = .returned (.tuple #[.int .i64 (sizeTo xs n), .int .i64 0]) ∧ w = w' := by
  have HK := Lib.hid hk
  go_enter Try.func39, Try.ntmps39
  (go_wp2_with fail; refine (l01Ok_any hs h8 _ _ hn _ hb).mono ?_; rintro e w' ⟨rfl, rfl⟩; rw [HK.out])
  (go_wp2_with fail; refine (l01Size_any hs h8 _ _ hn _ hb).mono ?_; rintro e w' ⟨rfl, rfl⟩)
  go_wp2
  go_returns
  exact ⟨rfl, rfl⟩
end Go.Proofs.Ytkphbagckbbalaa.X
