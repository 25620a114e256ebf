/- What the laws draw from their bytes: numbers, trains. Conditions: none. -/
import Derived.Test.YtkphbagckbbalaaKMoves
import Derived.Test.YtkphbagckbbalaaKGearX
import Derived.Test.YtkphbagckbbalaaKOpen
namespace Go.Proofs.Ytkphbagckbbalaa.X
open Go.RowKit
set_option linter.unusedVariables false
set_option linter.unusedSimpArgs false
set_option maxRecDepth 100000
theorem calls_atQ {P : Program} {f : FuncId} {args : Array Value} {K : Ending → World → Prop} (S : World → Prop) (w : World) (h : S w) (k : ∀ u, S u → Calls P f args u K) : Calls P f args w K := k w h
theorem f6big_f {A : Option Addr} (n c : Nat) (hn : n ≤ 4096) (w : World) : Calls Try.prog 20 #[.slice A n c] w fun e w' => e = .returned (.bool false) ∧ w = w' := by
  have g0 : ¬ (4096 : Int) < (n : Int) := by omega
  have g2 : ¬ 4096 < n := by omega
  go_enter Try.func20, Try.ntmps20
  go_wp2
  go_ret
  exact ⟨by first | rfl | (simp; done) | (simp; omega), rfl⟩
theorem f6big_t {A : Option Addr} (n c : Nat) (hn : ¬ n ≤ 4096) (w : World) : Calls Try.prog 20 #[.slice A n c] w fun e w' => e = .returned (.bool true) ∧ w = w' := by
  have g0 : (4096 : Int) < (n : Int) := by omega
  have g2 : 4096 < n := by omega
  go_enter Try.func20, Try.ntmps20
  go_wp2
  go_ret
  exact ⟨by first | rfl | (simp; done) | (simp; omega), rfl⟩
/-- a number that is drawn is at most 65535 -/
def PickL (g : Nat) (A : Option Addr) (n c b : Nat) (m : Int) (w : World) (e : Ending) (w' : World) : Prop := ∃ r : Int, e = .returned (.int .i64 r) ∧ (0 ≤ r ∧ r < m ∧ r ≤ 65535) ∧ SrcB w' g A n c (b + 2) ∧ Chg w w' (fun k => k = g)
set_option maxHeartbeats 2000000 in
theorem pick_lo {A : Option Addr} {xs : List Int} {W : World} {B : Nat} (hs : Nums .u8 W B A xs) (h8 : b8 xs) (c : Nat) (w : World) (hb : Below B W w) (g b : Nat) (hgB : B ≤ g) (hi : b ≤ 100000000) (hg : SrcB w g A xs.length c b) (m : Int) (hm : 1 ≤ m ∧ m ≤ 2000000000000) : Calls Try.prog 77 #[.pointer (some ⟨g, 0, none⟩), .int .i64 m] w (PickL g A xs.length c b m w) := by
  obtain ⟨i, hib, hg⟩ := hg
  have hBs := hs.bsz hb
  by_cases h1 : m ≤ 1
  · go_enter Try.func77, Try.ntmps77
    go_wp2
    go_ret
    exact ⟨0, rfl, ⟨by omega, by omega, by omega⟩, ⟨i, by omega, hg⟩, Chg.refl' _ _⟩
  have K0 := Lib.hid (next_any hs h8 c w hb g i (by omega) hg)
  have m0 : ¬ m = 0 := by omega
  have m1 : (m == 0) = false := beq_eq_false_iff_ne.2 m0
  by_cases h2 : 200 < m
  · go_enter Try.func77, Try.ntmps77
    (go_wp2_with fail; refine K0.out.mono ?_; rintro e w1 ⟨x, rfl, ⟨hx0, hx1⟩, hs1, hc1⟩)
    have hb1 := hc1.below hb hBs (fun k hk => by omega)
    have K1 := Lib.hid (next_any hs h8 c w1 hb1 g (i + 1) (by omega) hs1)
    have e1 : IntKind.i64.wrap (x * 256) = x * 256 := IntWalk.i64_in _ ⟨by omega, by omega⟩
    clear hs1 hb1 K0
    (go_wp2_with fail; refine K1.out.mono ?_; rintro e w2 ⟨y, rfl, ⟨hy0, hy1⟩, hs2, hc2⟩)
    have e2 : IntKind.i64.wrap (x * 256 + y) = x * 256 + y := IntWalk.i64_in _ ⟨by omega, by omega⟩
    have q0 := Int.emod_nonneg (x * 256 + y) m0
    have q1 := Int.emod_lt_of_pos (x * 256 + y) (show 0 < m by omega)
    have q2 : (x * 256 + y) % m ≤ 65535 := by
      have h3 := Int.mul_ediv_add_emod (x * 256 + y) m
      have h4 := Int.mul_nonneg (show 0 ≤ m by omega) (Int.ediv_nonneg (show 0 ≤ x * 256 + y by omega) (show 0 ≤ m by omega))
      omega
    have e3 : (x * 256 + y).tmod m = (x * 256 + y) % m := Int.tmod_eq_emod_of_nonneg (by omega)
    have e4 : IntKind.i64.wrap ((x * 256 + y) % m) = (x * 256 + y) % m := IntWalk.i64_in _ ⟨by omega, by omega⟩
    go_wp2
    go_ret
    exact ⟨_, rfl, ⟨q0, q1, q2⟩, ⟨i + 1 + 1, by omega, hs2⟩, hc1.trans hc2⟩
  · go_enter Try.func77, Try.ntmps77
    (go_wp2_with fail; refine K0.out.mono ?_; rintro e w1 ⟨x, rfl, ⟨hx0, hx1⟩, hs1, hc1⟩)
    have q0 := Int.emod_nonneg x m0
    have q1 := Int.emod_lt_of_pos x (show 0 < m by omega)
    have e3 : x.tmod m = x % m := Int.tmod_eq_emod_of_nonneg (by omega)
    have e4 : IntKind.i64.wrap (x % m) = x % m := IntWalk.i64_in _ ⟨by omega, by omega⟩
    go_wp2
    go_ret
    exact ⟨_, rfl, ⟨q0, q1, by omega⟩, ⟨i + 1, by omega, hs1⟩, hc1⟩
set_option maxHeartbeats 1000000 in
theorem P6Pick_lo {A : Option Addr} {xs : List Int} {W : World} {B : Nat} (hs : Nums .u8 W B A xs) (h8 : b8 xs) (c : Nat) (w : World) (hb : Below B W w) (m : Int) (hm : 1 ≤ m ∧ m ≤ 2000000000000) : Calls Try.prog 21 #[.slice A xs.length c, .int .i64 m] w fun e w' => ∃ r : Int, e = .returned (.int .i64 r) ∧ (0 ≤ r ∧ r < m ∧ r ≤ 65535) ∧ Below w.heap.size w w' := by
  have hB := hs.bsz hb
  go_enter Try.func21, Try.ntmps21
  (go_wp2_with fail; refine (l00From_any _ _ _ _).mono ?_; rintro e w' ⟨rfl, rfl⟩)
  (go_wp2_with fail; refine (pick_lo hs h8 c _ (by repeat' (first | (with_reducible first | assumption | exact Below.refl _ _ | refine Below.drew ?_ | refine Below.alloc ?_ ?_ _ | refine Below.setCell ?_ ?_ _ | refine below_setR ?_ ?_ _ | refine below_dn ?_ _ | refine Below.trans ?_ (below_mo _ _ _ ?_) | refine Below.trans ?_ (below_mq _ _ ?_) | exact Nat.le_refl _) | (simp; done) | (simp; omega) | omega)) w.heap.size 0 hB (by omega) (srcB_new w A xs.length c 0) m hm).mono ?_; rintro e w1 ⟨r, rfl, hr, hsrc, hc1⟩)
  have hnx1 : Below w.heap.size w w1 := hc1.below (by repeat' (first | (with_reducible first | assumption | exact Below.refl _ _ | refine Below.drew ?_ | refine Below.alloc ?_ ?_ _ | refine Below.setCell ?_ ?_ _ | refine below_setR ?_ ?_ _ | refine below_dn ?_ _ | refine Below.trans ?_ (below_mo _ _ _ ?_) | refine Below.trans ?_ (below_mq _ _ ?_) | exact Nat.le_refl _) | (simp; done) | (simp; omega) | omega)) (by first | (simp; done) | (simp; omega)) (fun k hk => by omega)
  go_wp2
  go_ret
  exact ⟨r, rfl, hr, hnx1⟩
theorem P6Pick_any {A : Option Addr} {xs : List Int} {W : World} {B : Nat} (hs : Nums .u8 W B A xs) (h8 : b8 xs) (c : Nat) (w : World) (hb : Below B W w) (m : Int) (hm : 1 ≤ m ∧ m ≤ 2000000000000) : Calls Try.prog 21 #[.slice A xs.length c, .int .i64 m] w fun e w' => ∃ r : Int, e = .returned (.int .i64 r) ∧ (0 ≤ r ∧ r < m) ∧ Below w.heap.size w w' :=
  (P6Pick_lo hs h8 c w hb m hm).mono fun _ _ ⟨r, h1, h2, h3⟩ => ⟨r, h1, ⟨h2.1, h2.2.1⟩, h3⟩
/-- the cells of pairs -/
def lcq (q : IntKind) : List (Int × Int) → List Value
  | [] => []
  | r :: l => .int q r.1 :: .int q r.2 :: lcq q l
theorem lcq_app (q : IntKind) : ∀ (a b : List (Int × Int)), lcq q (a ++ b) = lcq q a ++ lcq q b
  | [], b => rfl
  | r :: a, b => by show _ :: _ :: lcq q (a ++ b) = _ :: _ :: (lcq q a ++ lcq q b); rw [lcq_app q a b]
theorem lcq_at (q : IntKind) : ∀ (a : List (Int × Int)) (i : Nat) (x : Int × Int), a[i]? = some x → (lcq q a)[i * 2]? = some (.int q x.1) ∧ (lcq q a)[i * 2 + 1]? = some (.int q x.2)
  | [], i, x, h => by simp at h
  | r :: a, 0, x, h => by
    simp at h
    subst h
    exact ⟨rfl, rfl⟩
  | r :: a, i + 1, x, h => by
    have ih := lcq_at q a i x (by simpa using h)
    rw [show (i + 1) * 2 = i * 2 + 1 + 1 by omega]
    exact ih
theorem own_prs {q : IntKind} {w : World} {b : Nat} {e : TypeId} {v : Value} {log : List (Int × Int)} (h : w.ownsRow b e 2 v log.length (lcq q log)) (hl : log.length ≤ 1048576) : ∃ A c, v = .slice A log.length c ∧ Prs q q w w.heap.size A log := by
  have hc := fun g hg => h.cells (g := g) hg
  have hlt := h.lt
  rcases h.2 with ⟨e1, e2⟩ | ⟨g, cap, cur, e1, _⟩
  · exact ⟨none, 0, by rw [e1, e2], ⟨fun hn => absurd hn (by omega), hl, Nat.le_refl _⟩⟩
  · subst e1
    refine ⟨_, cap, rfl, ⟨fun hn => ⟨g, 0, rfl, (hlt g rfl).2, fun i x hx j u hu => ?_⟩, hl, Nat.le_refl _⟩⟩
    obtain ⟨c0, c1⟩ := lcq_at q log i x hx
    match j, hu with
    | 0, hu =>
      simp [encP] at hu
      subst hu
      have := hc g rfl _ _ c0
      rw [add_plain rfl] at this
      simpa using this
    | 1, hu =>
      simp [encP] at hu
      subst hu
      have := hc g rfl _ _ c1
      rw [add_plain rfl] at this
      simpa using this
theorem own_lit2Q (w : World) (b : Nat) (hb : b ≤ w.heap.size) (e : TypeId) (g : Nat) (hg : g = w.heap.size) : (w.alloc (.cells #[] e)).ownsRow b e 2 (.slice (some ⟨g, 0, none⟩) 0 0) 0 [] := by
  subst hg
  exact ⟨rfl, .inr ⟨_, 0, #[], rfl, hb, heap_alloc_new w _, Nat.le_refl _, by decide, rfl, rfl⟩⟩
theorem cell_two_newQ (w : World) (x y : Value) (t : TypeId) : ∀ j u, [x, y][j]? = some u → (w.alloc (.cells #[x, y] t)).cell? ((⟨w.heap.size, 0, none⟩ : Addr).add j) = some u := by
  intro j u hj
  match j, hj with
  | 0, hj =>
    simp at hj
    subst hj
    simp [Addr.add, go_sem]
  | 1, hj =>
    simp at hj
    subst hj
    simp [Addr.add, go_sem]
theorem p_snoc {P : Int → Int → Prop} {ms : List (Int × Int)} (h : ∀ k : Nat, k < ms.length → P (p1 ms (k : Int)) (p2 ms (k : Int))) {a b : Int} (hr : P a b) : ∀ k : Nat, k < (ms ++ [(a, b)]).length → P (p1 (ms ++ [(a, b)]) (k : Int)) (p2 (ms ++ [(a, b)]) (k : Int)) := fun k hk => by
  by_cases c : k < ms.length
  · have := h k c
    rw [p1_at hk, p2_at hk, List.getElem_append_left c]
    rw [p1_at c, p2_at c] at this
    exact this
  · rw [p1_at hk, p2_at hk]
    rw [List.length_append, List.length_singleton] at hk
    obtain rfl : k = ms.length := by omega
    simpa using hr
/-- pairs as they are drawn -/
def prOK (a b : Int) : Prop := (8 ≤ a ∧ a ≤ 57) ∧ 8 ≤ b ∧ b ≤ 57
theorem infoPr : (Try.prog.info? 133).map (fun i => (i.zero, i.size, i.bytes)) = some (some (.agg #[.int .i16 0, .int .i16 0]), 2, 4) := by kernel_rfl
theorem undPr : Try.prog.underlying 55 = some (.slice 133) := by kernel_rfl
/-- The call hands back a train. -/
def RetTrn (w : World) (e : Ending) (w' : World) : Prop := ∃ (ts : List (Int × Int)) (A : Option Addr) (c : Nat), e = .returned (.slice A ts.length c) ∧ (1 ≤ ts.length ∧ ts.length ≤ 3) ∧ (∀ k : Nat, k < ts.length → prOK (p1 ts (k : Int)) (p2 ts (k : Int))) ∧ Prs .i16 .i16 w' w'.heap.size A ts ∧ Below w.heap.size w w'
set_option maxHeartbeats 4000000 in
theorem P6Train_any {A : Option Addr} {xs : List Int} {W : World} {B : Nat} (hs : Nums .u8 W B A xs) (h8 : b8 xs) (c : Nat) (w : World) (hb : Below B W w) : Calls Try.prog 27 #[.slice A xs.length c] w (RetTrn w) := by
  have hB := hs.bsz hb
  obtain ⟨i0, hi, hz0, hz1, hz2⟩ := info_parts infoPr
  go_enter Try.func27, Try.ntmps27
  (go_wp2_with fail; refine (l00From_any _ _ _ _).mono ?_; rintro e w' ⟨rfl, rfl⟩)
  have S0 := Lib.hid (fun W' (hW : Below (w.heap.size + 1) (w.alloc (.cells #[.slice A xs.length c, .int .i64 0, .int .u64 0] 178)) W') => (srcB_new w A xs.length c 0).keep hW (by omega))
  (go_wp2_with fail; refine (pick_any hs h8 c _ (by repeat' (first | (with_reducible first | assumption | exact Below.refl _ _ | refine Below.drew ?_ | refine Below.alloc ?_ ?_ _ | refine Below.setCell ?_ ?_ _ | refine below_setR ?_ ?_ _ | refine below_dn ?_ _ | refine Below.trans ?_ (below_mo _ _ _ ?_) | refine Below.trans ?_ (below_mq _ _ ?_) | exact Nat.le_refl _) | (simp; done) | (simp; omega) | omega)) w.heap.size 0 hB (by omega) (S0.out _ (by repeat' (first | (with_reducible first | assumption | exact Below.refl _ _ | refine Below.drew ?_ | refine Below.alloc ?_ ?_ _ | refine Below.setCell ?_ ?_ _ | refine below_setR ?_ ?_ _ | refine below_dn ?_ _ | refine Below.trans ?_ (below_mo _ _ _ ?_) | refine Below.trans ?_ (below_mq _ _ ?_) | exact Nat.le_refl _) | (simp; done) | (simp; omega) | omega))) 3 (by omega)).mono ?_; rintro e w1 ⟨k0, rfl, hk0, hsrc, hc1⟩)
  obtain ⟨k1, rfl⟩ := Int.eq_ofNat_of_zero_le hk0.1
  have hnx1 : Below w.heap.size w w1 := hc1.below (by repeat' (first | (with_reducible first | assumption | exact Below.refl _ _ | refine Below.drew ?_ | refine Below.alloc ?_ ?_ _ | refine Below.setCell ?_ ?_ _ | refine below_setR ?_ ?_ _ | refine below_dn ?_ _ | refine Below.trans ?_ (below_mo _ _ _ ?_) | refine Below.trans ?_ (below_mq _ _ ?_) | exact Nat.le_refl _) | (simp; done) | (simp; omega) | omega)) (by first | (simp; done) | (simp; omega)) (fun k hk => by omega)
  have own1 := hc1.row (own_lit2Q (w.alloc (.cells #[.slice A xs.length c, .int .i64 0, .int .u64 0] 178)) w.heap.size (by first | (simp; done) | (simp; omega)) 133 _ rfl) (fun k h1 h2 => by simp [Value.ownBlock] at h1; omega)
  have hsrc1 : SrcB w1 w.heap.size A xs.length c (100 - 4 * (k1 + 1)) := hsrc.up (by omega)
  have hk6 : k1 ≤ 2 := by omega
  have e0 : IntKind.i64.wrap (1 + (k1 : Int)) = (k1 : Int) + 1 := (IntWalk.i64_in _ ⟨by omega, by omega⟩).trans (by omega)
  clear hsrc hc1 S0 hk0
  go_wp2
  go_loopw [4, 5] (fun v i wr => ∃ (k : Nat) (ms : List (Int × Int)), (ms.length + k ≤ 3 ∧ (k = 0 → 1 ≤ ms.length)) ∧ Hid (∀ k : Nat, k < ms.length → prOK (p1 ms (k : Int)) (p2 ms (k : Int))) ∧ i = .int .i64 (k : Int) ∧ wr.ownsRow w.heap.size 133 2 v ms.length (lcq .i16 ms) ∧ SrcB wr w.heap.size A xs.length c (100 - 4 * k) ∧ Below w.heap.size w wr) (fun _ i _ => (intOf i).toNat)
  case atStart => exact ⟨k1 + 1, [], ⟨by simp; omega, by omega⟩, (fun k hk => absurd hk (by simp)), by simp, by first | exact own1 | simpa [lcq] using own1, hsrc1, hnx1⟩
  case round =>
    obtain ⟨k, ms, ⟨hk, hk2⟩, HM, rfl, hown, hsrc, hnx⟩ := hrel
    have hsize := hnx.size
    by_cases hlt : 0 < k
    · have g0 : (0 : Int) < (k : Int) := by omega
      have hbw : Below B W wr := hb.trans (hnx.mono hB)
      have hne := hsrc.ne hown (by decide)
      have HP := Lib.hid (pick_any hs h8 c wr hbw w.heap.size (100 - 4 * k) hB (by omega) hsrc 50 (by omega))
      have e1 : IntKind.i64.wrap ((k : Int) - 1) = (k : Int) - 1 := IntWalk.i64_in _ ⟨by omega, by omega⟩
      clear hsrc
      (go_wp2_with fail; refine HP.out.mono ?_; rintro e w2 ⟨r, rfl, hr, hsrc2, hc2⟩)
      have own2 := hc2.row hown (fun q h1 h2 => hne (by rw [h1, h2]))
      have hnx2 := hc2.below hnx hsize (fun q hq => by omega)
      have hsz2 := hc2.size
      have hne2 := hsrc2.ne own2 (by decide)
      have e2 : IntKind.i64.wrap (8 + r) = 8 + r := IntWalk.i64_in _ ⟨by omega, by omega⟩
      have e3 : IntKind.i16.wrap (8 + r) = 8 + r := IntWalk.i16_in _ ⟨by omega, by omega⟩
      have hbw2 : Below B W w2 := hb.trans (hnx2.mono hB)
      have HP2 := Lib.hid (pick_any hs h8 c w2 hbw2 w.heap.size (100 - 4 * k + 2) hB (by omega) hsrc2 50 (by omega))
      clear HP hc2 hsrc2
      (go_wp2_with fail; refine HP2.out.mono ?_; rintro e w4 ⟨s, rfl, hs4, hsrc4, hc4⟩)
      have own4 := hc4.row own2 (fun q h1 h2 => hne2 (by rw [h1, h2]))
      have hnx4 := hc4.below hnx2 (by omega) (fun q hq => by omega)
      have hsz4 := hc4.size
      have hne4 := hsrc4.ne own4 (by decide)
      have e4 : IntKind.i64.wrap (8 + s) = 8 + s := IntWalk.i64_in _ ⟨by omega, by omega⟩
      have e5 : IntKind.i16.wrap (8 + s) = 8 + s := IntWalk.i16_in _ ⟨by omega, by omega⟩
      have HN := Lib.hid (p_snoc HM.out (a := 8 + r) (b := 8 + s) ⟨⟨by omega, by omega⟩, by omega, by omega⟩)
      clear HP2 hc4
      go_wp2_with (first | (at_builtin; refine wpList_append_own _ rfl _ _ 55 rfl w.heap.size 133 i0 (.agg #[.int .i16 0, .int .i16 0]) 2 4 undPr hi hz0 hz1 hz2 rfl (by decide) _ _ _ rfl (own4.alloc _) ⟨w4.heap.size, 0, none⟩ 1 1 [.int .i16 (8 + r), .int .i16 (8 + s)] rfl rfl (cell_two_newQ _ _ _ _) (fun x hx => by simp at hx; rcases hx with rfl | rfl <;> rfl) (by unfold maxLen; omega) (by omega) (by simp; omega) ?_; intro v' w3 hown' hgrow3 hnil3))
      exact ⟨⟨k - 1, ms ++ [(8 + r, 8 + s)], ⟨by rw [List.length_append, List.length_singleton]; omega, fun _ => by rw [List.length_append, List.length_singleton]; omega⟩, HN.out, by rw [show ((k - 1 : Nat) : Int) = (k : Int) - 1 by omega], by rw [lcq_app, List.length_append]; exact hown', (keepS hsrc4 hgrow3 hne4).up (by omega), (hnx4.alloc (by omega) _).grown hgrow3 (by first | (simp; done) | (simp; omega)) (fun q hq => (own4.lt q hq).1)⟩, by simp [intOf]; omega⟩
    · obtain rfl : k = 0 := by omega
      have hk3 := hk2 rfl
      obtain ⟨A1, c1, rfl, N1⟩ := own_prs hown (by omega)
      go_wp2
      go_ret
      exact ⟨ms, A1, c1, rfl, ⟨hk3, by omega⟩, HM.out, N1, hnx⟩
end Go.Proofs.Ytkphbagckbbalaa.X
