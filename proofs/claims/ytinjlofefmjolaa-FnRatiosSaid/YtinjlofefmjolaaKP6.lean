/- What the laws draw from their bytes: numbers, trains. Conditions: none. -/
import Derived.Test.YtinjlofefmjolaaKOwn
import Derived.Test.YtinjlofefmjolaaKMoves
import Derived.Test.YtinjlofefmjolaaKGearX
import Derived.Test.YtinjlofefmjolaaKOpen
namespace Go.Proofs.Ytinjlofefmjolaa.X
open Go.RowKit
set_option linter.unusedVariables false
set_option linter.unusedSimpArgs false
set_option maxRecDepth 100000
theorem calls_atQ {P : Program} {f : FuncId} {args : Array Value} {K : Ending → World → Prop} (S : World → Prop) (w : World) (h : S w) (k : ∀ u, S u → Calls P f args u K) : Calls P f args w K := k w h
theorem f6big_f {A : Option Addr} (n c : Nat) (hn : n ≤ 4096) (w : World) : Calls Try.prog 5 #[.slice A n c] w fun e w' => e = .returned (.bool false) ∧ w = w' := by
  have g0 : ¬ (4096 : Int) < (n : Int) := by omega
  have g2 : ¬ 4096 < n := by omega
  go_enter Try.func5, Try.ntmps5
  go_wp2
  go_ret
  exact ⟨by first | rfl | (simp; done) | (simp; omega), rfl⟩
theorem f6big_t {A : Option Addr} (n c : Nat) (hn : ¬ n ≤ 4096) (w : World) : Calls Try.prog 5 #[.slice A n c] w fun e w' => e = .returned (.bool true) ∧ w = w' := by
  have g0 : (4096 : Int) < (n : Int) := by omega
  have g2 : 4096 < n := by omega
  go_enter Try.func5, Try.ntmps5
  go_wp2
  go_ret
  exact ⟨by first | rfl | (simp; done) | (simp; omega), rfl⟩
/-- a number that is drawn is at most 65535 -/
def PickL (g : Nat) (A : Option Addr) (n c b : Nat) (m : Int) (w : World) (e : Ending) (w' : World) : Prop := ∃ r : Int, e = .returned (.int .i64 r) ∧ (0 ≤ r ∧ r < m ∧ r ≤ 65535) ∧ SrcB w' g A n c (b + 2) ∧ Chg w w' (fun k => k = g)
set_option maxHeartbeats 2000000 in
theorem pick_lo {A : Option Addr} {xs : List Int} {W : World} {B : Nat} (hs : Nums .u8 W B A xs) (h8 : b8 xs) (c : Nat) (w : World) (hb : Below B W w) (g b : Nat) (hgB : B ≤ g) (hi : b ≤ 100000000) (hg : SrcB w g A xs.length c b) (m : Int) (hm : 1 ≤ m ∧ m ≤ 2000000000000) : Calls Try.prog 52 #[.pointer (some ⟨g, 0, none⟩), .int .i64 m] w (PickL g A xs.length c b m w) := by
  obtain ⟨i, hib, hg⟩ := hg
  have hBs := hs.bsz hb
  by_cases h1 : m ≤ 1
  · go_enter Try.func52, Try.ntmps52
    go_wp2
    go_ret
    exact ⟨0, rfl, ⟨by omega, by omega, by omega⟩, ⟨i, by omega, hg⟩, Chg.refl' _ _⟩
  have K0 := Lib.hid (next_any hs h8 c w hb g i (by omega) hg)
  have m0 : ¬ m = 0 := by omega
  have m1 : (m == 0) = false := beq_eq_false_iff_ne.2 m0
  by_cases h2 : 200 < m
  · go_enter Try.func52, Try.ntmps52
    (go_wp2_with fail; refine K0.out.mono ?_; rintro e w1 ⟨x, rfl, ⟨hx0, hx1⟩, hs1, hc1⟩)
    have hb1 := hc1.below hb hBs (fun k hk => by omega)
    have K1 := Lib.hid (next_any hs h8 c w1 hb1 g (i + 1) (by omega) hs1)
    have e1 : IntKind.i64.wrap (x * 256) = x * 256 := IntWalk.i64_in _ ⟨by omega, by omega⟩
    clear hs1 hb1 K0
    (go_wp2_with fail; refine K1.out.mono ?_; rintro e w2 ⟨y, rfl, ⟨hy0, hy1⟩, hs2, hc2⟩)
    have e2 : IntKind.i64.wrap (x * 256 + y) = x * 256 + y := IntWalk.i64_in _ ⟨by omega, by omega⟩
    have q0 := Int.emod_nonneg (x * 256 + y) m0
    have q1 := Int.emod_lt_of_pos (x * 256 + y) (show 0 < m by omega)
    have q2 : (x * 256 + y) % m ≤ 65535 := by
      have h3 := Int.mul_ediv_add_emod (x * 256 + y) m
      have h4 := Int.mul_nonneg (show 0 ≤ m by omega) (Int.ediv_nonneg (show 0 ≤ x * 256 + y by omega) (show 0 ≤ m by omega))
      omega
    have e3 : (x * 256 + y).tmod m = (x * 256 + y) % m := Int.tmod_eq_emod_of_nonneg (by omega)
    have e4 : IntKind.i64.wrap ((x * 256 + y) % m) = (x * 256 + y) % m := IntWalk.i64_in _ ⟨by omega, by omega⟩
    go_wp2
    go_ret
    exact ⟨_, rfl, ⟨q0, q1, q2⟩, ⟨i + 1 + 1, by omega, hs2⟩, hc1.trans hc2⟩
  · go_enter Try.func52, Try.ntmps52
    (go_wp2_with fail; refine K0.out.mono ?_; rintro e w1 ⟨x, rfl, ⟨hx0, hx1⟩, hs1, hc1⟩)
    have q0 := Int.emod_nonneg x m0
    have q1 := Int.emod_lt_of_pos x (show 0 < m by omega)
    have e3 : x.tmod m = x % m := Int.tmod_eq_emod_of_nonneg (by omega)
    have e4 : IntKind.i64.wrap (x % m) = x % m := IntWalk.i64_in _ ⟨by omega, by omega⟩
    go_wp2
    go_ret
    exact ⟨_, rfl, ⟨q0, q1, by omega⟩, ⟨i + 1, by omega, hs1⟩, hc1⟩
set_option maxHeartbeats 1000000 in
theorem P6Pick_lo {A : Option Addr} {xs : List Int} {W : World} {B : Nat} (hs : Nums .u8 W B A xs) (h8 : b8 xs) (c : Nat) (w : World) (hb : Below B W w) (m : Int) (hm : 1 ≤ m ∧ m ≤ 2000000000000) : Calls Try.prog 19 #[.slice A xs.length c, .int .i64 m] w fun e w' => ∃ r : Int, e = .returned (.int .i64 r) ∧ (0 ≤ r ∧ r < m ∧ r ≤ 65535) ∧ Below w.heap.size w w' := by
  have hB := hs.bsz hb
  go_enter Try.func19, Try.ntmps19
  (go_wp2_with fail; refine (l00From_any _ _ _ _).mono ?_; rintro e w' ⟨rfl, rfl⟩)
  (go_wp2_with fail; refine (pick_lo hs h8 c _ (by repeat' (first | (with_reducible first | assumption | exact Below.refl _ _ | refine Below.drew ?_ | refine Below.alloc ?_ ?_ _ | refine Below.setCell ?_ ?_ _ | refine below_setR ?_ ?_ _ | refine below_dn ?_ _ | refine Below.trans ?_ (below_mo _ _ _ ?_) | refine Below.trans ?_ (below_mq _ _ ?_) | exact Nat.le_refl _) | (simp; done) | (simp; omega) | omega)) w.heap.size 0 hB (by omega) (srcB_new w A xs.length c 0) m hm).mono ?_; rintro e w1 ⟨r, rfl, hr, hsrc, hc1⟩)
  have hnx1 : Below w.heap.size w w1 := hc1.below (by repeat' (first | (with_reducible first | assumption | exact Below.refl _ _ | refine Below.drew ?_ | refine Below.alloc ?_ ?_ _ | refine Below.setCell ?_ ?_ _ | refine below_setR ?_ ?_ _ | refine below_dn ?_ _ | refine Below.trans ?_ (below_mo _ _ _ ?_) | refine Below.trans ?_ (below_mq _ _ ?_) | exact Nat.le_refl _) | (simp; done) | (simp; omega) | omega)) (by first | (simp; done) | (simp; omega)) (fun k hk => by omega)
  go_wp2
  go_ret
  exact ⟨r, rfl, hr, hnx1⟩
theorem P6Pick_any {A : Option Addr} {xs : List Int} {W : World} {B : Nat} (hs : Nums .u8 W B A xs) (h8 : b8 xs) (c : Nat) (w : World) (hb : Below B W w) (m : Int) (hm : 1 ≤ m ∧ m ≤ 2000000000000) : Calls Try.prog 19 #[.slice A xs.length c, .int .i64 m] w fun e w' => ∃ r : Int, e = .returned (.int .i64 r) ∧ (0 ≤ r ∧ r < m) ∧ Below w.heap.size w w' :=
  (P6Pick_lo hs h8 c w hb m hm).mono fun _ _ ⟨r, h1, h2, h3⟩ => ⟨r, h1, ⟨h2.1, h2.2.1⟩, h3⟩
/-- the cells of pairs -/
def lcq (q : IntKind) : List (Int × Int) → List Value
  | [] => []
  | r :: l => .int q r.1 :: .int q r.2 :: lcq q l
theorem lcq_app (q : IntKind) : ∀ (a b : List (Int × Int)), lcq q (a ++ b) = lcq q a ++ lcq q b
  | [], b => rfl
  | r :: a, b => by show _ :: _ :: lcq q (a ++ b) = _ :: _ :: (lcq q a ++ lcq q b); rw [lcq_app q a b]
theorem lcq_at (q : IntKind) : ∀ (a : List (Int × Int)) (i : Nat) (x : Int × Int), a[i]? = some x → (lcq q a)[i * 2]? = some (.int q x.1) ∧ (lcq q a)[i * 2 + 1]? = some (.int q x.2)
  | [], i, x, h => by simp at h
  | r :: a, 0, x, h => by
    simp at h
    subst h
    exact ⟨rfl, rfl⟩
  | r :: a, i + 1, x, h => by
    have ih := lcq_at q a i x (by simpa using h)
    rw [show (i + 1) * 2 = i * 2 + 1 + 1 by omega]
    exact ih
theorem own_prs {q : IntKind} {w : World} {b : Nat} {e : TypeId} {v : Value} {log : List (Int × Int)} (h : w.ownsRow b e 2 v log.length (lcq q log)) (hl : log.length ≤ 1048576) : ∃ A c, v = .slice A log.length c ∧ Prs q q w w.heap.size A log := by
  have hc := fun g hg => h.cells (g := g) hg
  have hlt := h.lt
  rcases h.2 with ⟨e1, e2⟩ | ⟨g, cap, cur, e1, _⟩
  · exact ⟨none, 0, by rw [e1, e2], ⟨fun hn => absurd hn (by omega), hl, Nat.le_refl _⟩⟩
  · subst e1
    refine ⟨_, cap, rfl, ⟨fun hn => ⟨g, 0, rfl, (hlt g rfl).2, fun i x hx j u hu => ?_⟩, hl, Nat.le_refl _⟩⟩
    obtain ⟨c0, c1⟩ := lcq_at q log i x hx
    match j, hu with
    | 0, hu =>
      simp [encP] at hu
      subst hu
      have := hc g rfl _ _ c0
      rw [add_plain rfl] at this
      simpa using this
    | 1, hu =>
      simp [encP] at hu
      subst hu
      have := hc g rfl _ _ c1
      rw [add_plain rfl] at this
      simpa using this
theorem own_lit2Q (w : World) (b : Nat) (hb : b ≤ w.heap.size) (e : TypeId) (g : Nat) (hg : g = w.heap.size) : (w.alloc (.cells #[] e)).ownsRow b e 2 (.slice (some ⟨g, 0, none⟩) 0 0) 0 [] := by
  subst hg
  exact ⟨rfl, .inr ⟨_, 0, #[], rfl, hb, heap_alloc_new w _, Nat.le_refl _, by decide, rfl, rfl⟩⟩
/-- pairs as they are drawn -/
def prOK (a b : Int) : Prop := (8 ≤ a ∧ a ≤ 57) ∧ 8 ≤ b ∧ b ≤ 57
end Go.Proofs.Ytinjlofefmjolaa.X
