/- Motions as they are drawn. Conditions: none. -/
import Derived.Test.YtinjlofefmjolaaKEyeX
import Derived.Test.YtinjlofefmjolaaKBas
namespace Go.Proofs.Ytinjlofefmjolaa.X
open Go.RowKit
set_option linter.unusedVariables false
set_option linter.unusedSimpArgs false
set_option maxRecDepth 100000
/-- one of some numbers is drawn -/
def AmongP (S : Int → Prop) (g : Nat) (A : Option Addr) (n c b : Nat) (w : World) (e : Ending) (w' : World) : Prop := ∃ r : Int, e = .returned (.int .i64 r) ∧ S r ∧ SrcB w' g A n c (b + 2) ∧ Chg w w' (fun k => k = g)
theorem amongP_any (S : Int → Prop) {A : Option Addr} {xs : List Int} {W : World} {B : Nat} (hs : Nums .u8 W B A xs) (h8 : b8 xs) (c : Nat) (w : World) (hb : Below B W w) (g b : Nat) (hgB : B ≤ g) (hi : b ≤ 100000000) (hg : SrcB w g A xs.length c b) {q n : Nat} (hn : 1 ≤ n ∧ n ≤ 100) (hq : q ≠ g) (hc : ∀ i : Nat, i < n → ∃ v : Int, w.cell? ⟨q, i, none⟩ = some (.int .i64 v) ∧ S v) : Calls Try.prog 94 #[.pointer (some ⟨g, 0, none⟩), .slice (some ⟨q, 0, none⟩) n n] w (AmongP S g A xs.length c b w) := by
  have K := Lib.hid (pick_any hs h8 c w hb g b hgB hi hg (n : Int) (by omega))
  clear hb hg
  go_enter Try.func94, Try.ntmps94
  (go_wp2_with fail; refine K.out.mono ?_; rintro e w1 ⟨r, rfl, hr, hsrc, hch⟩)
  obtain ⟨k, rfl⟩ := Int.eq_ofNat_of_zero_le hr.1
  obtain ⟨v, hv, hv2⟩ := hc k (by omega)
  have h1 := hch.cell hv hq
  have g0 : (0 : Int) ≤ (k : Int) := by omega
  have g1 : (k : Int) < (n : Int) := by omega
  have g2 : k < n := by omega
  have HV := Lib.hid hv2
  clear hc hv hr hv2
  go_wp2
  go_ret
  exact ⟨v, rfl, HV.out, hsrc, hch⟩
theorem infoU8 : (Try.prog.info? 5).map (fun i => (i.zero, i.size, i.bytes)) = some (some (.int .u8 0), 1, 1) := by kernel_rfl
theorem undStk : Try.prog.underlying 46 = some (.slice 5) := by kernel_rfl
theorem drawn_cells7 (w : World) (t : TypeId) : ∀ i : Nat, i < 7 → ∃ v : Int, (w.alloc (.cells #[.int .i64 10, .int .i64 10, .int .i64 2, .int .i64 3, .int .i64 6, .int .i64 60, .int .i64 100] t)).cell? ⟨w.heap.size, i, none⟩ = some (.int .i64 v) ∧ 2 ≤ v ∧ v ≤ 100 := by
  intro i hi
  rcases (show i = 0 ∨ i = 1 ∨ i = 2 ∨ i = 3 ∨ i = 4 ∨ i = 5 ∨ i = 6 by omega) with rfl | rfl | rfl | rfl | rfl | rfl | rfl
  all_goals exact ⟨_, by simp [go_sem]; rfl, by decide, by decide⟩
/-- which blocks may be written: the stream's and new ones -/
def RE (w : World) (g : Nat) : Nat → Prop := fun k => k = g ∨ w.heap.size ≤ k
theorem Chg.alE {x y : World} {R : Nat → Prop} (h : Chg x y R) (o : Obj) : Chg x (y.alloc o) R := h.trans (Chg.of_alloc y o R)
theorem Chg.impE {x y : World} {R S : Nat → Prop} (h : Chg x y R) (hi : ∀ k, R k → S k) : Chg x y S := ⟨h.os, h.tape, h.output, h.size, fun k hk hn => h.block k hk (fun e => hn (hi k e))⟩
/-- a stack is drawn; the stream is at hand still -/
def StkR (g : Nat) (A : Option Addr) (n c : Nat) (w : World) (e : Ending) (w' : World) : Prop := ∃ (ys : List Int) (q cap : Nat), e = .returned (.slice (some ⟨q, 0, none⟩) ys.length cap) ∧ (1 ≤ ys.length ∧ ys.length ≤ 4) ∧ bases ys ∧ w'.ownsRow w.heap.size 5 1 (.slice (some ⟨q, 0, none⟩) ys.length cap) ys.length (ys.map (Value.int .u8)) ∧ SrcB w' g A n c 100 ∧ Chg w w' (RE w g)
set_option maxHeartbeats 4000000 in
theorem l02Stack_any {A : Option Addr} {xs : List Int} {W : World} {B : Nat} (hs : Nums .u8 W B A xs) (h8 : b8 xs) (c : Nat) (w : World) (hb : Below B W w) (g : Nat) (hgB : B ≤ g) (hg : SrcB w g A xs.length c 0) : Calls Try.prog 93 #[.pointer (some ⟨g, 0, none⟩)] w (StkR g A xs.length c w) := by
  obtain ⟨i0, hi, hz0, hz1, hz2⟩ := info_parts infoU8
  have hB := hs.bsz hb
  have hgz := hg.ltQ
  have S0 := Lib.hid (fun W' (hW : Below w.heap.size w W') => hg.keep hW hgz)
  go_enter Try.func93, Try.ntmps93
  (go_wp2_with fail; refine (pick_any hs h8 c _ (by repeat' (first | (with_reducible first | assumption | exact Below.refl _ _ | refine Below.drew ?_ | refine Below.alloc ?_ ?_ _ | refine Below.setCell ?_ ?_ _ | refine below_setR ?_ ?_ _ | refine below_dn ?_ _ | refine Below.trans ?_ (below_mo _ _ _ ?_) | refine Below.trans ?_ (below_mq _ _ ?_) | exact Nat.le_refl _) | (simp; done) | (simp; omega) | omega)) g 0 hgB (by omega) (S0.out _ (by repeat' (first | (with_reducible first | assumption | exact Below.refl _ _ | refine Below.drew ?_ | refine Below.alloc ?_ ?_ _ | refine Below.setCell ?_ ?_ _ | refine below_setR ?_ ?_ _ | refine below_dn ?_ _ | refine Below.trans ?_ (below_mo _ _ _ ?_) | refine Below.trans ?_ (below_mq _ _ ?_) | exact Nat.le_refl _) | (simp; done) | (simp; omega) | omega))) 4 (by omega)).mono ?_; rintro e w1 ⟨k0, rfl, hk0, hsrc, hc1⟩)
  obtain ⟨k1, rfl⟩ := Int.eq_ofNat_of_zero_le hk0.1
  have hch1 : Chg w w1 (RE w g) := (Chg.of_alloc w _ _).trans (hc1.impE (fun k hk => .inl hk))
  have own1 := hc1.row (own_litS w w.heap.size (Nat.le_refl _) 5 _ rfl) (fun k h1 h2 => by simp [Value.ownBlock] at h1; omega)
  have hsrc1 : SrcB w1 g A xs.length c (100 - 4 * (k1 + 1)) := hsrc.up (by omega)
  have hk6 : k1 ≤ 3 := by omega
  have e0 : IntKind.i64.wrap (1 + (k1 : Int)) = (k1 : Int) + 1 := (IntWalk.i64_in _ ⟨by omega, by omega⟩).trans (by omega)
  clear hsrc hc1 S0 hk0 hg
  go_wp2
  go_loopw [3, 4] (fun v i wr => ∃ (k : Nat) (ys : List Int), (ys.length + k ≤ 4 ∧ (k = 0 → 1 ≤ ys.length)) ∧ Hid (bases ys) ∧ i = .int .i64 (k : Int) ∧ wr.ownsRow w.heap.size 5 1 v ys.length (ys.map (Value.int .u8)) ∧ SrcB wr g A xs.length c (100 - 4 * k) ∧ Chg w wr (RE w g)) (fun _ i _ => (intOf i).toNat)
  case atStart => exact ⟨k1 + 1, [], ⟨by simp; omega, by omega⟩, (fun k hk => absurd hk (by simp)), by simp, by first | exact own1 | simpa using own1, hsrc1, hch1⟩
  case round =>
    obtain ⟨k, ys, ⟨hk, hk2⟩, HM, rfl, hown, hsrc, hch⟩ := hrel
    have hsize := hch.size
    by_cases hlt : 0 < k
    · have g0 : (0 : Int) < (k : Int) := by omega
      have hbw : Below B W wr := hch.below hb hB (fun q hq => by rcases hq with h | h <;> omega)
      have hne := hsrc.ne hown (by decide)
      have hgs := hsrc.ltQ
      have e1 : IntKind.i64.wrap ((k : Int) - 1) = (k : Int) - 1 := IntWalk.i64_in _ ⟨by omega, by omega⟩
      have HS := Lib.hid hsrc
      (go_wp2_with fail; refine (amongP_any (fun v => 2 ≤ v ∧ v ≤ 100) hs h8 c _ (hbw.alloc (by have := hs.bsz hbw; omega) _) g (100 - 4 * k) hgB (by omega) (hsrc.keep (Below.alloc (Below.refl _ _) (Nat.le_refl _) _) (by omega)) (q := wr.heap.size) (n := 7) (by omega) (by omega) (drawn_cells7 wr _)).mono ?_; rintro e w2 ⟨r, rfl, hr, hsrc2, hc2⟩)
      have hr' : 2 ≤ r ∧ r ≤ 100 := hr
      have own2 := hc2.row (hown.alloc _) (fun q h1 h2 => hne (by rw [h1, h2]))
      have hch2 : Chg w w2 (RE w g) := (hch.alE _).trans (hc2.impE (fun k hk => .inl hk))
      have hsz2 := hch2.size
      have hne2 := hsrc2.ne own2 (by decide)
      have e2 : IntKind.u8.wrap r = r := by rw [IntKind.wrap_u8]; omega
      have HN := Lib.hid (bases_snoc HM.out hr')
      clear hc2 hr
      go_wp2_with (first | (at_builtin; refine wpList_append_own _ rfl _ _ 46 rfl w.heap.size 5 i0 (.int .u8 0) 1 1 undStk hi hz0 hz1 hz2 rfl (by decide) _ _ _ rfl (own2.alloc _) ⟨w2.heap.size, 0, none⟩ 1 1 [.int .u8 r] rfl rfl (cell_one_new _ _ _) (fun x hx => by simp at hx; subst hx; rfl) (by unfold maxLen; omega) (by omega) (by simp; omega) ?_; intro v' w3 hown' hgrow3 hnil3))
      exact ⟨⟨k - 1, ys ++ [r], ⟨by rw [List.length_append, List.length_singleton]; omega, fun _ => by rw [List.length_append, List.length_singleton]; omega⟩, HN.out, by rw [show ((k - 1 : Nat) : Int) = (k : Int) - 1 by omega], by rw [List.map_append, List.length_append]; exact hown', (keepS hsrc2 hgrow3 hne2).up (by omega), (hch2.alE _).trans (Chg.of_grown hgrow3 (fun q hq => .inr (own2.lt q hq).1))⟩, by simp [intOf]; omega⟩
    · obtain rfl : k = 0 := by omega
      have hk3 := hk2 rfl
      obtain ⟨q, cap, rfl, hcap, hq⟩ := own_at hown hk3
      go_wp2
      go_ret
      exact ⟨ys, q, cap, rfl, ⟨hk3, by omega⟩, HM.out, hown, hsrc, hch⟩
end Go.Proofs.Ytinjlofefmjolaa.X
