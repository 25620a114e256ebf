/- What digits are worth. Conditions: none. -/
import Derived.Test.YtkphbagckbbalaaKBack
import Derived.Test.YtkphbagckbbalaaKNum
namespace Go.Proofs.Ytkphbagckbbalaa.X
open Go.RowKit Go.Shelf
set_option linter.unusedVariables false
set_option linter.unusedSimpArgs false
set_option maxRecDepth 100000
attribute [local go_sem] Oper.semAt_some
/-- what the digits f of the wheels from n - m on are worth -/
def vlR (xs : List Int) (f : Nat → Int) (n : Nat) : Nat → Int
  | 0 => 0
  | m + 1 => vlR xs f n m * el xs ((n - (m + 1) : Nat) : Int) + f (n - (m + 1))
/-- what digits are worth -/
def vl (xs : List Int) (f : Nat → Int) : Int := vlR xs f xs.length xs.length
/-- digits are valid -/
def okD (xs : List Int) (f : Nat → Int) : Bool := okS xs && decide (∀ i : Nat, i < 8 → if i < xs.length then f i < el xs i else f i = 0)
def vlF (f : Nat → Int) (pre : List WB) : Int := pre.foldl (fun acc x => IntKind.i64.wrap (IntKind.i64.wrap (acc * x.1.2) + f x.1.1)) 0
theorem vlF_snoc (f : Nat → Int) (pre : List WB) (x : WB) : vlF f (pre ++ [x]) = IntKind.i64.wrap (IntKind.i64.wrap (vlF f pre * x.1.2) + f x.1.1) := by simp [vlF]
theorem tp_bd {xs : List Int} {f : Nat → Int} (hk : okS xs = true) (hf : ∀ k, 0 ≤ f k ∧ f k ≤ 255) (hd : ∀ i : Nat, i < xs.length → f i < el xs i) : ∀ m : Nat, m ≤ xs.length → 0 ≤ vlR xs f xs.length m ∧ pr xs (xs.length - m) * (vlR xs f xs.length m + 1) ≤ pr xs xs.length
  | 0, _ => by simp [vlR]
  | m + 1, hm => by
    obtain ⟨h1, h2⟩ := tp_bd hk hf hd m (by omega)
    have h3 := hf (xs.length - (m + 1))
    have h4 := hd (xs.length - (m + 1)) (by omega)
    have h5 := okS_el hk (k := xs.length - (m + 1)) (by omega)
    have h6 := pr_pos hk (k := xs.length - (m + 1)) (by omega)
    have e : xs.length - m = xs.length - (m + 1) + 1 := by omega
    rw [e, show pr xs (xs.length - (m + 1) + 1) = pr xs (xs.length - (m + 1)) * el xs ((xs.length - (m + 1) : Nat) : Int) from rfl] at h2
    unfold vlR
    have h7 := Int.mul_nonneg h1 (show 0 ≤ el xs ((xs.length - (m + 1) : Nat) : Int) by omega)
    refine ⟨by omega, ?_⟩
    have h8 : vlR xs f xs.length m * el xs ((xs.length - (m + 1) : Nat) : Int) + f (xs.length - (m + 1)) + 1 ≤ el xs ((xs.length - (m + 1) : Nat) : Int) * (vlR xs f xs.length m + 1) := by
      rw [Int.mul_add, Int.mul_comm (el xs _) (vlR xs f xs.length m)]
      omega
    have h9 := Int.mul_le_mul_of_nonneg_left h8 (show 0 ≤ pr xs (xs.length - (m + 1)) by omega)
    rw [← Int.mul_assoc] at h9
    omega
theorem vlR_bd {xs : List Int} {f : Nat → Int} (hk : okS xs = true) (hf : ∀ k, 0 ≤ f k ∧ f k ≤ 255) (hd : ∀ i : Nat, i < xs.length → f i < el xs i) (m : Nat) (hm : m ≤ xs.length) : 0 ≤ vlR xs f xs.length m ∧ vlR xs f xs.length m < 1000000000000 := by
  obtain ⟨h1, h2⟩ := tp_bd hk hf hd m hm
  have h3 := pr_pos hk (k := xs.length - m) (by omega)
  have h4 := pr_all hk
  have h5 := Int.mul_le_mul_of_nonneg_right h3 (show 0 ≤ vlR xs f xs.length m + 1 by omega)
  omega
theorem okD_parts {xs : List Int} {f : Nat → Int} (h : okD xs f = true) : okS xs = true ∧ (∀ i : Nat, i < xs.length → f i < el xs i) ∧ ∀ i : Nat, i < 8 → xs.length ≤ i → f i = 0 := by
  unfold okD at h
  simp only [Bool.and_eq_true, decide_eq_true_eq] at h
  have hl := okS_len h.1
  refine ⟨h.1, fun i hi => ?_, fun i h8 hi => ?_⟩
  · have := h.2 i (by omega); rwa [if_pos hi] at this
  · have := h.2 i h8; rwa [if_neg (by omega)] at this
theorem vl_lt {xs : List Int} {f : Nat → Int} (h : okD xs f = true) (hf : ∀ k, 0 ≤ f k ∧ f k ≤ 255) : 0 ≤ vl xs f ∧ vl xs f < szS xs := by
  obtain ⟨hk, hd, _⟩ := okD_parts h
  obtain ⟨h1, h2⟩ := tp_bd hk hf hd xs.length (Nat.le_refl _)
  have e : xs.length - xs.length = 0 := by omega
  rw [e] at h2
  have e2 : pr xs 0 = 1 := rfl
  rw [e2] at h2
  have h4 := pr_all hk
  unfold vl szS
  omega
theorem vlF_all {xs : List Int} {f : Nat → Int} (hk : okS xs = true) (h8 : b8 xs) (hn : xs.length ≤ 8) (hf : ∀ k, 0 ≤ f k ∧ f k ≤ 255) (hd : ∀ i : Nat, i < xs.length → f i < el xs i) : ∀ m : Nat, m ≤ xs.length → vlF f (bkTo xs h8 hn m) = vlR xs f xs.length m
  | 0, _ => rfl
  | m + 1, hm => by
    obtain ⟨b1, b2⟩ := vlR_bd hk hf hd m (by omega)
    obtain ⟨b3, b4⟩ := vlR_bd hk hf hd (m + 1) hm
    rw [bkTo_succ, vlF_snoc, vlF_all hk h8 hn hf hd m (by omega)]
    have e1 : (bkAt xs h8 hn m).1.1 = xs.length - (m + 1) := by show (xs.length - 1 - m) % 8 = _; rw [Nat.mod_eq_of_lt (by omega)]; omega
    have e2 : (bkAt xs h8 hn m).1.2 = el xs ((xs.length - (m + 1) : Nat) : Int) := by show el xs _ = _; rw [show xs.length - 1 - m = xs.length - (m + 1) by omega]
    rw [e1, e2]
    have h3 := hf (xs.length - (m + 1))
    have h5 := okS_el hk (k := xs.length - (m + 1)) (by omega)
    have h7 := Int.mul_nonneg b1 (show 0 ≤ el xs ((xs.length - (m + 1) : Nat) : Int) by omega)
    unfold vlR at b4 b3
    have w1 : IntKind.i64.wrap (vlR xs f xs.length m * el xs ((xs.length - (m + 1) : Nat) : Int)) = vlR xs f xs.length m * el xs ((xs.length - (m + 1) : Nat) : Int) := IntWalk.i64_in _ (by omega)
    rw [w1]
    exact IntWalk.i64_in _ (by omega)
set_option maxRecDepth 100000 in
set_option maxHeartbeats 2000000 in
theorem value_any {A : Option Addr} {xs : List Int} {W : World} {B : Nat} (hs : Nums .u8 W B A xs) (h8 : b8 xs) (n c : Nat) (hn : xs.length = n) (w : World) (hb : Below B W w) (hk : okS xs = true) (f : Nat → Int) (hf : ∀ k, 0 ≤ f k ∧ f k ≤ 255) (hd : ∀ i : Nat, i < xs.length → f i < el xs i) : Calls Try.prog 120 #[.slice A n c, .agg #[.int .u8 (f 0), .int .u8 (f 1), .int .u8 (f 2), .int .u8 (f 3), .int .u8 (f 4), .int .u8 (f 5), .int .u8 (f 6), .int .u8 (f 7)]] w fun e w' => e = .returned (.int .i64 (vl xs f)) ∧ Below w.heap.size w w' := by
  obtain rfl := hn
  have hl := (okS_len hk).2
  have hB := hs.bsz hb
  have HV := Lib.hid (vlF_all hk h8 hl hf hd xs.length (Nat.le_refl _))
  refine (callsIn_wide (n := 3)).1 ?_
  have hro : Fence.wide.round = none := rfl
  refine callsIn_of_wp_marks Try.func120 rfl trivial ?_ hro
  simp only [Try.ntmps120, List.size_toArray, List.length_cons, List.length_nil, Nat.reduceAdd, Nat.reduceSub, Array.replicate_succ, Array.replicate_zero, List.push_toArray, List.append_toArray, List.nil_append, List.cons_append]
  gi_wp2_with (refine ⟨trivial, ?_⟩; gi_at_call 181; refine (back_in Fence.wide _ trivial hro _ _ _ _).mono ?_; rintro e w' ⟨rfl, rfl⟩)
  have bN := Boxed.new ((w.alloc (.cells #[.int .u8 (f 0), .int .u8 (f 1), .int .u8 (f 2), .int .u8 (f 3), .int .u8 (f 4), .int .u8 (f 5), .int .u8 (f 6), .int .u8 (f 7)] 43)).alloc (.cells #[.int .i64 0] 2)) 24 (.slice A xs.length c)
  rw [World.size_alloc, World.size_alloc] at bN
  have hB0 : Below w.heap.size w (((w.alloc (.cells #[.int .u8 (f 0), .int .u8 (f 1), .int .u8 (f 2), .int .u8 (f 3), .int .u8 (f 4), .int .u8 (f 5), .int .u8 (f 6), .int .u8 (f 7)] 43)).alloc (.cells #[.int .i64 0] 2)).alloc (.cells #[.slice A xs.length c] 24)) := (by repeat' (first | (with_reducible first | assumption | exact Below.refl _ _ | refine Below.drew ?_ | refine Below.alloc ?_ ?_ _ | refine Below.setCell ?_ ?_ _ | refine below_setR ?_ ?_ _ | refine below_dn ?_ _ | refine Below.trans ?_ (below_mo _ _ _ ?_) | refine Below.trans ?_ (below_mq _ _ ?_) | exact Nat.le_refl _) | (simp; done) | (simp; omega) | omega))
  have hBB : Below B W (((w.alloc (.cells #[.int .u8 (f 0), .int .u8 (f 1), .int .u8 (f 2), .int .u8 (f 3), .int .u8 (f 4), .int .u8 (f 5), .int .u8 (f 6), .int .u8 (f 7)] 43)).alloc (.cells #[.int .i64 0] 2)).alloc (.cells #[.slice A xs.length c] 24)) := (by repeat' (first | (with_reducible first | assumption | exact Below.refl _ _ | refine Below.drew ?_ | refine Below.alloc ?_ ?_ _ | refine Below.setCell ?_ ?_ _ | refine below_setR ?_ ?_ _ | refine below_dn ?_ _ | refine Below.trans ?_ (below_mo _ _ _ ?_) | refine Below.trans ?_ (below_mq _ _ ?_) | exact Nat.le_refl _) | (simp; done) | (simp; omega) | omega))
  refine wpIn_rangeFunc_ownG hro (by omega) (gf := 196) (lb := #[.pointer (some ⟨w.heap.size + 1 + 1, 0, none⟩)]) rfl trivial (enters_of Try.func196 (by kernel_rfl) rfl)
    (back_stops Fence.wide _ trivial hro (by omega) (w.heap.size + 1 + 1) w.heap.size c hs h8 hl hB _ hBB (by simp) (by simp; omega) bN.cell) KpS.t (kpS_b (by simp; omega) (by simp)) (Below.refl _ _) (fun _ => rfl)
    (fun pre W1 => ((W1.cell? ⟨w.heap.size + 1, 0, none⟩ = some (.int .i64 (vlF f pre)) ∧ W1.frozen? ⟨w.heap.size + 1, 0, none⟩ = false) ∧ ∀ j : Nat, j < 8 → W1.cell? ⟨w.heap.size, j, none⟩ = some (.int .u8 (f j))) ∧ Below w.heap.size w W1)
    (fun _ _ _ => False)
    (OwnFrom.and (Own.from (fun s A B row hs hg hr => ⟨⟨cell_kept hs.1.1 hg hr, (frozen_kept hs.1.1 hg hr).trans hs.1.2⟩, fun j hj => cell_kept (hs.2 j hj) hg hr⟩) _) (ownFrom_below (Nat.le_refl _) (by simp; omega)))
    (fun _ _ _ _ _ hs _ _ => hs)
    ⟨⟨⟨by simp [go_sem, vlF], by simp [go_sem]⟩, fun j hj => by rcases lt8 hj with rfl | rfl | rfl | rfl | rfl | rfl | rfl | rfl <;> simp [go_sem]⟩, hB0⟩
    (fun x => { tmps := #[.slice A xs.length c, .agg #[.int .u8 (f 0), .int .u8 (f 1), .int .u8 (f 2), .int .u8 (f 3), .int .u8 (f 4), .int .u8 (f 5), .int .u8 (f 6), .int .u8 (f 7)], undef, .pointer (some ⟨w.heap.size, 0, none⟩), .int .i64 0, .pointer (some ⟨w.heap.size + 1, 0, none⟩), .int .i64 (x.1.1 : Int), .int .u8 x.1.2, .slice A xs.length c, .func (.func 196) #[] #[.pointer (some ⟨w.heap.size + 1 + 1, 0, none⟩)], .int .i64 (x.1.1 : Int), .int .u8 x.1.2, undef, undef, undef, undef, undef, undef, undef, undef, undef, undef], defers := [] }) ?assign ?body ?done ?stop
  case assign =>
    intro l x W K hK
    dsimp only [wbEnc]
    gi_wp2
    exact hK
  case body =>
    rintro l pre ⟨⟨i, b⟩, hi, hx0, hx1⟩ W1 ⟨⟨⟨hc, hf1⟩, hcs⟩, hB1⟩ _
    have hci := hcs i hi
    obtain ⟨f0, f1⟩ := hf i
    have g0 : (0 : Int) ≤ (i : Int) := by omega
    have g1 : (i : Int) < 8 := by omega
    have eb : IntKind.i64.wrap b = b := IntWalk.i64_in _ ⟨by simp only at hx0; omega, by simp only at hx1; omega⟩
    have ef : IntKind.i64.wrap (f i) = f i := IntWalk.i64_in _ ⟨by omega, by omega⟩
    gi_wp2
    gi_region_with (fail)
    all_goals gi_wp2
    all_goals exact ⟨((KeepsOthers.setCell _ _ _).trans (KeepsOthers.drew _)).from _, ⟨((Below.refl _ _).setCell (p := ⟨w.heap.size + 1, 0, none⟩) (by show w.heap.size ≤ w.heap.size + 1; omega) _).drew, Below.heap_setCell _ _ _ _ (by show w.heap.size + 1 + 1 ≠ w.heap.size + 1; omega)⟩, ⟨⟨⟨by rw [vlF_snoc]; exact World.cell?_setCell_same' _ _ _ (by rw [hc]; rfl), (World.frozen?_setCell _ _ _ _).trans hf1⟩, fun j hj => (World.cell?_of_block (a := ⟨w.heap.size, j, none⟩) (Below.heap_setCell _ _ _ _ (by show w.heap.size ≠ w.heap.size + 1; omega))).trans (hcs j hj)⟩, (hB1.setCell (p := ⟨w.heap.size + 1, 0, none⟩) (by show w.heap.size ≤ w.heap.size + 1; omega) _).drew⟩⟩
  case done =>
    rintro D ys W1 hD rfl ⟨⟨⟨hc, _⟩, _⟩, hB1⟩ hK
    gi_wp2
    refine ⟨by simp, .inl ⟨_, _, rfl, run_takeDeferred hK, ?_⟩⟩
    exact ⟨_, results_tmp rfl _ _ _, by rw [HV.out]; rfl, hB1.trans (belowK_b (w := w) (Nat.le_refl _) W1 D _ _ (by simp at hD; omega) hK rfl rfl)⟩
  case stop =>
    rintro D c pre W1 _ _ h _
    exact h.elim
end Go.Proofs.Ytkphbagckbbalaa.X
