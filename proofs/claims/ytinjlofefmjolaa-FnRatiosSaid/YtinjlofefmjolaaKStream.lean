/- Draws of the reference from bytes: the stream. Conditions: none. -/
import Derived.Test.YtinjlofefmjolaaKTail
namespace Go.Proofs.Ytinjlofefmjolaa.X
open Go.RowKit
set_option linter.unusedVariables false
set_option linter.unusedSimpArgs false
set_option maxRecDepth 100000
theorem Chg.refl' (x : World) (R : Nat → Prop) : Chg x x R := .of_below (Below.refl _ _) R
theorem Chg.dn {x y : World} {R : Nat → Prop} (h : Chg x y R) (n : Nat) : Chg x (y.drewN n) R := h.trans (.of_below (below_dn (Below.refl _ _) n) R)
theorem Chg.set {x y : World} {R : Nat → Prop} (h : Chg x y R) {g i : Nat} {v : Value} (hg : R g) : Chg x (y.setCell ⟨g, i, none⟩ v) R :=
  h.trans ⟨rfl, rfl, rfl, by simp, fun k _ hn => Below.heap_setCell y ⟨g, i, none⟩ v k (fun e => hn (e ▸ hg))⟩
theorem three {w : World} {g : Nat} {a b c : Value} {T : TypeId} (h : w.heap[g]? = some (.cells #[a, b, c] T)) : g < w.heap.size ∧ w.cell? ⟨g, 0, none⟩ = some a ∧ w.cell? ⟨g, 1, none⟩ = some b ∧ w.cell? ⟨g, 2, none⟩ = some c ∧ w.frozen? ⟨g, 1, none⟩ = false ∧ w.frozen? ⟨g, 2, none⟩ = false :=
  ⟨(Array.getElem?_eq_some_iff.1 h).1, (cell_of_row w g 0 _ T (0, 0) h).trans rfl, (cell_of_row w g 1 _ T (0, 0) h).trans rfl, (cell_of_row w g 2 _ T (0, 0) h).trans rfl, frozen_of_row w g 1 _ T h, frozen_of_row w g 2 _ T h⟩
theorem set12 {w : World} {g : Nat} {a b c b' c' : Value} {T : TypeId} (h : w.heap[g]? = some (.cells #[a, b, c] T)) : ((w.setCell ⟨g, 1, none⟩ b').setCell ⟨g, 2, none⟩ c').heap[g]? = some (.cells #[a, b', c'] T) := by
  have h1 := heap_setCell_same w g 1 _ T b' h
  have h2 := heap_setCell_same (w.setCell ⟨g, 1, none⟩ b') g 2 _ T c' h1
  exact h2
/-- the stream's place: its bytes, how many have been read, its hash -/
def Src (w : World) (g : Nat) (A : Option Addr) (n c : Nat) (i : Nat) : Prop := ∃ h : Int, w.heap[g]? = some (.cells #[.slice A n c, .int .i64 (i : Int), .int .u64 h] 106)
theorem Src.keep {w w' : World} {g : Nat} {A : Option Addr} {n c i : Nat} (h : Src w g A n c i) (hb : Below (g + 1) w w') : Src w' g A n c i := by
  obtain ⟨v, e⟩ := h
  exact ⟨v, (hb.block g (by omega)).trans e⟩
theorem and255 (x : Int) : 0 ≤ bits .and .u64 x 255 ∧ bits .and .u64 x 255 ≤ 255 := by
  have e : bits .and .u64 x 255 = IntKind.u64.wrap (((BitVec.ofInt 64 x) &&& (BitVec.ofInt 64 255)).toNat : Int) := rfl
  have h : ((BitVec.ofInt 64 x) &&& (BitVec.ofInt 64 255)).toNat ≤ 255 := by
    rw [BitVec.toNat_and]
    exact Nat.and_le_right
  rw [e, IntKind.wrap_u64]
  omega
def NextR (g : Nat) (A : Option Addr) (n c i : Nat) (w : World) (e : Ending) (w' : World) : Prop := ∃ r : Int, e = .returned (.int .i64 r) ∧ (0 ≤ r ∧ r ≤ 255) ∧ Src w' g A n c (i + 1) ∧ Chg w w' (fun k => k = g)
theorem w255 (x : Int) : 0 ≤ wrap64 (bits .and .u64 x 255) ∧ wrap64 (bits .and .u64 x 255) ≤ 255 := by
  have h := and255 x
  have e : wrap64 (bits .and .u64 x 255) = bits .and .u64 x 255 := IntWalk.wrap64_in _ ⟨by omega, by omega⟩
  omega
theorem next_end {w : World} {g n c i : Nat} {A : Option Addr} {h : Int} (a b : Nat) (h' : Int) {r : Int} (hg : w.heap[g]? = some (.cells #[.slice A n c, .int .i64 (i : Int), .int .u64 h] 106)) (hr : 0 ≤ r ∧ r ≤ 255) : NextR g A n c i w (.returned (.int .i64 r)) ((((w.drewN a).setCell ⟨g, 1, none⟩ (.int .i64 ((i : Int) + 1))).setCell ⟨g, 2, none⟩ (.int .u64 h')).drewN b) := by
  refine ⟨r, rfl, hr, ⟨h', ?_⟩, ?_⟩
  · rw [show ((i + 1 : Nat) : Int) = (i : Int) + 1 by omega]
    exact set12 (w := w.drewN a) hg
  · exact Chg.dn (Chg.set (Chg.set (Chg.dn (Chg.refl' w (fun k => k = g)) a) rfl) rfl) b
set_option maxHeartbeats 2000000 in
theorem next_any {A : Option Addr} {xs : List Int} {W : World} {B : Nat} (hs : Nums .u8 W B A xs) (h8 : b8 xs) (c : Nat) (w : World) (hb : Below B W w) (g i : Nat) (hi : i ≤ 1000000000) (hg : Src w g A xs.length c i) : Calls Try.prog 89 #[.pointer (some ⟨g, 0, none⟩)] w (NextR g A xs.length c i w) := by
  have hxl := hs.len
  obtain ⟨h, hg⟩ := hg
  obtain ⟨z0, z1, z2, z3, z4, z5⟩ := three hg
  have e1 : IntKind.i64.wrap ((i : Int) + 1) = (i : Int) + 1 := IntWalk.i64_in _ ⟨by omega, by omega⟩
  by_cases hlt : i < xs.length
  · obtain ⟨b, off, rfl, hbs, hc⟩ := hs.at hb hlt
    have hb8 := h8 (i : Int)
    have g0 : (0 : Int) ≤ (i : Int) := by omega
    have g1 : (i : Int) < (xs.length : Int) := by omega
    have g2 : (i : Int) + 1 ≤ (xs.length : Int) := by omega
    have g3 : i + 1 ≤ xs.length := by omega
    have e2 : IntKind.i64.wrap (el xs (i : Int)) = el xs (i : Int) := IntWalk.i64_in _ ⟨by omega, by omega⟩
    go_enter Try.func89, Try.ntmps89
    go_wp2
    go_quiet (fail)
    go_wp2
    go_quiet (fail)
    go_wp2
    go_quiet (fail)
    go_wp2
    go_ret
    exact next_end _ _ _ hg ⟨by omega, by omega⟩
  · have g1 : ¬ (i : Int) < (xs.length : Int) := by omega
    have g2 : ¬ (i : Int) + 1 ≤ (xs.length : Int) := by omega
    have g3 : ¬ i + 1 ≤ xs.length := by omega
    go_enter Try.func89, Try.ntmps89
    go_wp2
    go_quiet (fail)
    go_wp2
    go_quiet (fail)
    go_wp2
    go_ret
    exact next_end _ _ _ hg (w255 _)
/-- the stream, of which no more than n bytes and draws have been read -/
def SrcB (w : World) (g : Nat) (A : Option Addr) (n c b : Nat) : Prop := ∃ i, i ≤ b ∧ Src w g A n c i
def PickR (g : Nat) (A : Option Addr) (n c b : Nat) (m : Int) (w : World) (e : Ending) (w' : World) : Prop := ∃ r : Int, e = .returned (.int .i64 r) ∧ (0 ≤ r ∧ r < m) ∧ SrcB w' g A n c (b + 2) ∧ Chg w w' (fun k => k = g)
set_option maxHeartbeats 2000000 in
theorem pick_any {A : Option Addr} {xs : List Int} {W : World} {B : Nat} (hs : Nums .u8 W B A xs) (h8 : b8 xs) (c : Nat) (w : World) (hb : Below B W w) (g b : Nat) (hgB : B ≤ g) (hi : b ≤ 100000000) (hg : SrcB w g A xs.length c b) (m : Int) (hm : 1 ≤ m ∧ m ≤ 2000000000000) : Calls Try.prog 52 #[.pointer (some ⟨g, 0, none⟩), .int .i64 m] w (PickR g A xs.length c b m w) := by
  obtain ⟨i, hib, hg⟩ := hg
  have hBs := hs.bsz hb
  by_cases h1 : m ≤ 1
  · go_enter Try.func52, Try.ntmps52
    go_wp2
    go_ret
    exact ⟨0, rfl, ⟨by omega, by omega⟩, ⟨i, by omega, hg⟩, Chg.refl' _ _⟩
  have K0 := Lib.hid (next_any hs h8 c w hb g i (by omega) hg)
  have m0 : ¬ m = 0 := by omega
  have m1 : (m == 0) = false := beq_eq_false_iff_ne.2 m0
  by_cases h2 : 200 < m
  · go_enter Try.func52, Try.ntmps52
    (go_wp2_with fail; refine K0.out.mono ?_; rintro e w1 ⟨x, rfl, ⟨hx0, hx1⟩, hs1, hc1⟩)
    have hb1 := hc1.below hb hBs (fun k hk => by omega)
    have K1 := Lib.hid (next_any hs h8 c w1 hb1 g (i + 1) (by omega) hs1)
    have e1 : IntKind.i64.wrap (x * 256) = x * 256 := IntWalk.i64_in _ ⟨by omega, by omega⟩
    clear hs1 hb1 K0
    (go_wp2_with fail; refine K1.out.mono ?_; rintro e w2 ⟨y, rfl, ⟨hy0, hy1⟩, hs2, hc2⟩)
    have e2 : IntKind.i64.wrap (x * 256 + y) = x * 256 + y := IntWalk.i64_in _ ⟨by omega, by omega⟩
    have q0 := Int.emod_nonneg (x * 256 + y) m0
    have q1 := Int.emod_lt_of_pos (x * 256 + y) (show 0 < m by omega)
    have e3 : (x * 256 + y).tmod m = (x * 256 + y) % m := Int.tmod_eq_emod_of_nonneg (by omega)
    have e4 : IntKind.i64.wrap ((x * 256 + y) % m) = (x * 256 + y) % m := IntWalk.i64_in _ ⟨by omega, by omega⟩
    go_wp2
    go_ret
    exact ⟨_, rfl, ⟨q0, q1⟩, ⟨i + 1 + 1, by omega, hs2⟩, hc1.trans hc2⟩
  · go_enter Try.func52, Try.ntmps52
    (go_wp2_with fail; refine K0.out.mono ?_; rintro e w1 ⟨x, rfl, ⟨hx0, hx1⟩, hs1, hc1⟩)
    have q0 := Int.emod_nonneg x m0
    have q1 := Int.emod_lt_of_pos x (show 0 < m by omega)
    have e3 : x.tmod m = x % m := Int.tmod_eq_emod_of_nonneg (by omega)
    have e4 : IntKind.i64.wrap (x % m) = x % m := IntWalk.i64_in _ ⟨by omega, by omega⟩
    go_wp2
    go_ret
    exact ⟨_, rfl, ⟨q0, q1⟩, ⟨i + 1, by omega, hs1⟩, hc1⟩
set_option maxHeartbeats 1000000 in
theorem l00From_any (A : Option Addr) (n c : Nat) (w : World) : Calls Try.prog 40 #[.slice A n c] w fun e w' => e = .returned (.pointer (some ⟨w.heap.size, 0, none⟩)) ∧ w' = w.alloc (.cells #[.slice A n c, .int .i64 0, .int .u64 0] 106) := by
  go_enter Try.func40, Try.ntmps40
  go_wp2
  go_ret
  exact ⟨rfl, rfl⟩
end Go.Proofs.Ytinjlofefmjolaa.X
