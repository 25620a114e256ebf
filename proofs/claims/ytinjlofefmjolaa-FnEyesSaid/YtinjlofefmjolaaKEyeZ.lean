/- Bumped wheels: words for the law's walk. Conditions: none. -/
import Derived.Test.YtinjlofefmjolaaKEyeX
import Derived.ChangeKeysEq
namespace Go.Proofs.Ytinjlofefmjolaa.X
open Go.RowKit
set_option linter.unusedVariables false
set_option linter.unusedSimpArgs false
set_option maxRecDepth 100000
theorem jOK_bdE {a b : Int} (h : jOK a b = true) : (0 ≤ a ∧ a ≤ 1) ∧ 0 ≤ b ∧ b < 1000 := by
  unfold jOK at h
  split at h
  · have := of_decide_eq_true h; omega
  · split at h
    · rw [Bool.and_eq_true] at h
      have h1 := of_decide_eq_true h.1
      have h2 := of_decide_eq_true h.2
      omega
    · exact absurd h (by decide)
theorem j8_ok {xs : List Int} {js : List (Int × Int)} (h : okO xs js = true) : j8 js := by
  intro k
  by_cases hk : k.toNat < js.length
  · have h1 := jOK_bdE ((okO_parts h).2.2 k.toNat hk)
    have e1 : p1 js ((k.toNat : Nat) : Int) = p1 js k := by unfold p1; rw [Int.toNat_natCast]
    have e2 : p2 js ((k.toNat : Nat) : Int) = p2 js k := by unfold p2; rw [Int.toNat_natCast]
    rw [e1, e2] at h1
    omega
  · have e : js.getD k.toNat (0, 0) = (0, 0) := by rw [List.getD_eq_getElem?_getD, List.getElem?_eq_none (by omega)]; rfl
    unfold p1 p2
    rw [e]
    decide
/-- parts of which the wheels 1 .. k-1 have been bumped -/
def bmpd (xs : List Int) (js : List (Int × Int)) (t : Int) (k : Nat) (p : Nat → Int) : Prop := p 0 = ptV xs js t 0 ∧ ∀ i : Nat, i + 1 < xs.length → (k ≤ i + 1 → p (i + 1) = ptV xs js t (i + 1)) ∧ (i + 1 < k → ∃ b : Int, (-500 ≤ b ∧ b < 500) ∧ p (i + 1) = (ptV xs js t (i + 1) + b) % (el xs ((i + 1 : Nat) : Int) * 1000))
theorem bmpd_0 {xs : List Int} (js : List (Int × Int)) (t : Int) (h : 1 ≤ xs.length) : bmpd xs js t 1 (paTo xs js t xs.length) := by
  refine ⟨?_, fun i hi => ⟨fun _ => ?_, fun hk => absurd hk (by omega)⟩⟩
  · unfold paTo; rw [if_pos (by omega)]
  · unfold paTo; rw [if_pos hi]
theorem bmpd_up {xs : List Int} {js : List (Int × Int)} {t : Int} {k : Nat} {p : Nat → Int} (h : bmpd xs js t k p) (hk1 : 1 ≤ k) (hk : k < xs.length) {b : Int} (hb : -500 ≤ b ∧ b < 500) : bmpd xs js t (k + 1) (bpP xs p k b) := by
  refine ⟨?_, fun i hi => ⟨fun hki => ?_, fun hki => ?_⟩⟩
  · unfold bpP upd; rw [if_neg (by omega)]; exact h.1
  · unfold bpP upd; rw [if_neg (by omega)]; exact (h.2 i hi).1 (by omega)
  · by_cases e : i + 1 = k
    · subst e
      refine ⟨b, hb, ?_⟩
      unfold bpP upd bpV
      rw [if_pos rfl, (h.2 i hi).1 (Nat.le_refl _)]
    · obtain ⟨b', h1, h2⟩ := (h.2 i hi).2 (by omega)
      exact ⟨b', h1, by unfold bpP upd; rw [if_neg e]; exact h2⟩
theorem bmpd_end {xs : List Int} {js : List (Int × Int)} {t : Int} {p : Nat → Int} (h : bmpd xs js t xs.length p) : bumped xs js t p := ⟨h.1, fun i hi => (h.2 i hi).2 hi⟩
theorem paTo_ok {xs : List Int} {js : List (Int × Int)} (t : Int) (h : okO xs js = true) : okP2 xs (paTo xs js t xs.length) := by
  refine ⟨fun i hi => ?_, fun i h1 _ => ?_⟩
  · unfold paTo; rw [if_pos hi]; exact ptV_bd h i hi
  · unfold paTo; rw [if_neg (by omega)]
theorem eight {w : World} {g : Nat} {f : Nat → Int} {T : TypeId} (h : w.heap[g]? = some (.cells #[.int .i64 (f 0), .int .i64 (f 1), .int .i64 (f 2), .int .i64 (f 3), .int .i64 (f 4), .int .i64 (f 5), .int .i64 (f 6), .int .i64 (f 7)] T)) : g < w.heap.size ∧ w.cell? ⟨g, 0, none⟩ = some (.int .i64 (f 0)) ∧ w.cell? ⟨g, 1, none⟩ = some (.int .i64 (f 1)) ∧ w.cell? ⟨g, 2, none⟩ = some (.int .i64 (f 2)) ∧ w.cell? ⟨g, 3, none⟩ = some (.int .i64 (f 3)) ∧ w.cell? ⟨g, 4, none⟩ = some (.int .i64 (f 4)) ∧ w.cell? ⟨g, 5, none⟩ = some (.int .i64 (f 5)) ∧ w.cell? ⟨g, 6, none⟩ = some (.int .i64 (f 6)) ∧ w.cell? ⟨g, 7, none⟩ = some (.int .i64 (f 7)) :=
  ⟨(Array.getElem?_eq_some_iff.1 h).1, (cell_of_row w g 0 _ T (0, 0) h).trans rfl, (cell_of_row w g 1 _ T (0, 0) h).trans rfl, (cell_of_row w g 2 _ T (0, 0) h).trans rfl, (cell_of_row w g 3 _ T (0, 0) h).trans rfl, (cell_of_row w g 4 _ T (0, 0) h).trans rfl, (cell_of_row w g 5 _ T (0, 0) h).trans rfl, (cell_of_row w g 6 _ T (0, 0) h).trans rfl, (cell_of_row w g 7 _ T (0, 0) h).trans rfl⟩
theorem eightF {w : World} {g : Nat} {f : Nat → Int} {T : TypeId} (h : w.heap[g]? = some (.cells #[.int .i64 (f 0), .int .i64 (f 1), .int .i64 (f 2), .int .i64 (f 3), .int .i64 (f 4), .int .i64 (f 5), .int .i64 (f 6), .int .i64 (f 7)] T)) : w.frozen? ⟨g, 0, none⟩ = false ∧ w.frozen? ⟨g, 1, none⟩ = false ∧ w.frozen? ⟨g, 2, none⟩ = false ∧ w.frozen? ⟨g, 3, none⟩ = false ∧ w.frozen? ⟨g, 4, none⟩ = false ∧ w.frozen? ⟨g, 5, none⟩ = false ∧ w.frozen? ⟨g, 6, none⟩ = false ∧ w.frozen? ⟨g, 7, none⟩ = false :=
  ⟨frozen_of_row w g 0 _ T h, frozen_of_row w g 1 _ T h, frozen_of_row w g 2 _ T h, frozen_of_row w g 3 _ T h, frozen_of_row w g 4 _ T h, frozen_of_row w g 5 _ T h, frozen_of_row w g 6 _ T h, frozen_of_row w g 7 _ T h⟩
theorem eight8 {w : World} {g : Nat} {f : Nat → Int} {T : TypeId} (h : w.heap[g]? = some (.cells #[.int .u8 (f 0), .int .u8 (f 1), .int .u8 (f 2), .int .u8 (f 3), .int .u8 (f 4), .int .u8 (f 5), .int .u8 (f 6), .int .u8 (f 7)] T)) : g < w.heap.size ∧ w.cell? ⟨g, 0, none⟩ = some (.int .u8 (f 0)) ∧ w.cell? ⟨g, 1, none⟩ = some (.int .u8 (f 1)) ∧ w.cell? ⟨g, 2, none⟩ = some (.int .u8 (f 2)) ∧ w.cell? ⟨g, 3, none⟩ = some (.int .u8 (f 3)) ∧ w.cell? ⟨g, 4, none⟩ = some (.int .u8 (f 4)) ∧ w.cell? ⟨g, 5, none⟩ = some (.int .u8 (f 5)) ∧ w.cell? ⟨g, 6, none⟩ = some (.int .u8 (f 6)) ∧ w.cell? ⟨g, 7, none⟩ = some (.int .u8 (f 7)) :=
  ⟨(Array.getElem?_eq_some_iff.1 h).1, (cell_of_row w g 0 _ T (0, 0) h).trans rfl, (cell_of_row w g 1 _ T (0, 0) h).trans rfl, (cell_of_row w g 2 _ T (0, 0) h).trans rfl, (cell_of_row w g 3 _ T (0, 0) h).trans rfl, (cell_of_row w g 4 _ T (0, 0) h).trans rfl, (cell_of_row w g 5 _ T (0, 0) h).trans rfl, (cell_of_row w g 6 _ T (0, 0) h).trans rfl, (cell_of_row w g 7 _ T (0, 0) h).trans rfl⟩
theorem twoE {w : World} {g : Nat} {a b : Value} {T : TypeId} (h : w.heap[g]? = some (.cells #[a, b] T)) : g < w.heap.size ∧ w.cell? ⟨g, 0, none⟩ = some a ∧ w.cell? ⟨g, 1, none⟩ = some b :=
  ⟨(Array.getElem?_eq_some_iff.1 h).1, (cell_of_row w g 0 _ T (0, 0) h).trans rfl, (cell_of_row w g 1 _ T (0, 0) h).trans rfl⟩
/-- eight cells are written -/
def w8 (w : World) (g : Nat) (f : Nat → Int) : World := (((((((w.setCell ⟨g, 0, none⟩ (.int .i64 (f 0))).setCell ⟨g, 1, none⟩ (.int .i64 (f 1))).setCell ⟨g, 2, none⟩ (.int .i64 (f 2))).setCell ⟨g, 3, none⟩ (.int .i64 (f 3))).setCell ⟨g, 4, none⟩ (.int .i64 (f 4))).setCell ⟨g, 5, none⟩ (.int .i64 (f 5))).setCell ⟨g, 6, none⟩ (.int .i64 (f 6))).setCell ⟨g, 7, none⟩ (.int .i64 (f 7))
theorem set8_0 {w : World} {g : Nat} {a0 a1 a2 a3 a4 a5 a6 a7 v : Value} {T : TypeId} (h : w.heap[g]? = some (.cells #[a0, a1, a2, a3, a4, a5, a6, a7] T)) : (w.setCell ⟨g, 0, none⟩ v).heap[g]? = some (.cells #[v, a1, a2, a3, a4, a5, a6, a7] T) := heap_setCell_same w g 0 _ T v h
theorem set8_1 {w : World} {g : Nat} {a0 a1 a2 a3 a4 a5 a6 a7 v : Value} {T : TypeId} (h : w.heap[g]? = some (.cells #[a0, a1, a2, a3, a4, a5, a6, a7] T)) : (w.setCell ⟨g, 1, none⟩ v).heap[g]? = some (.cells #[a0, v, a2, a3, a4, a5, a6, a7] T) := heap_setCell_same w g 1 _ T v h
theorem set8_2 {w : World} {g : Nat} {a0 a1 a2 a3 a4 a5 a6 a7 v : Value} {T : TypeId} (h : w.heap[g]? = some (.cells #[a0, a1, a2, a3, a4, a5, a6, a7] T)) : (w.setCell ⟨g, 2, none⟩ v).heap[g]? = some (.cells #[a0, a1, v, a3, a4, a5, a6, a7] T) := heap_setCell_same w g 2 _ T v h
theorem set8_3 {w : World} {g : Nat} {a0 a1 a2 a3 a4 a5 a6 a7 v : Value} {T : TypeId} (h : w.heap[g]? = some (.cells #[a0, a1, a2, a3, a4, a5, a6, a7] T)) : (w.setCell ⟨g, 3, none⟩ v).heap[g]? = some (.cells #[a0, a1, a2, v, a4, a5, a6, a7] T) := heap_setCell_same w g 3 _ T v h
theorem set8_4 {w : World} {g : Nat} {a0 a1 a2 a3 a4 a5 a6 a7 v : Value} {T : TypeId} (h : w.heap[g]? = some (.cells #[a0, a1, a2, a3, a4, a5, a6, a7] T)) : (w.setCell ⟨g, 4, none⟩ v).heap[g]? = some (.cells #[a0, a1, a2, a3, v, a5, a6, a7] T) := heap_setCell_same w g 4 _ T v h
theorem set8_5 {w : World} {g : Nat} {a0 a1 a2 a3 a4 a5 a6 a7 v : Value} {T : TypeId} (h : w.heap[g]? = some (.cells #[a0, a1, a2, a3, a4, a5, a6, a7] T)) : (w.setCell ⟨g, 5, none⟩ v).heap[g]? = some (.cells #[a0, a1, a2, a3, a4, v, a6, a7] T) := heap_setCell_same w g 5 _ T v h
theorem set8_6 {w : World} {g : Nat} {a0 a1 a2 a3 a4 a5 a6 a7 v : Value} {T : TypeId} (h : w.heap[g]? = some (.cells #[a0, a1, a2, a3, a4, a5, a6, a7] T)) : (w.setCell ⟨g, 6, none⟩ v).heap[g]? = some (.cells #[a0, a1, a2, a3, a4, a5, v, a7] T) := heap_setCell_same w g 6 _ T v h
theorem set8_7 {w : World} {g : Nat} {a0 a1 a2 a3 a4 a5 a6 a7 v : Value} {T : TypeId} (h : w.heap[g]? = some (.cells #[a0, a1, a2, a3, a4, a5, a6, a7] T)) : (w.setCell ⟨g, 7, none⟩ v).heap[g]? = some (.cells #[a0, a1, a2, a3, a4, a5, a6, v] T) := heap_setCell_same w g 7 _ T v h
theorem w8_at {w : World} {g : Nat} {f0 f : Nat → Int} {T : TypeId} (h : w.heap[g]? = some (.cells #[.int .i64 (f0 0), .int .i64 (f0 1), .int .i64 (f0 2), .int .i64 (f0 3), .int .i64 (f0 4), .int .i64 (f0 5), .int .i64 (f0 6), .int .i64 (f0 7)] T)) : (w8 w g f).heap[g]? = some (.cells #[.int .i64 (f 0), .int .i64 (f 1), .int .i64 (f 2), .int .i64 (f 3), .int .i64 (f 4), .int .i64 (f 5), .int .i64 (f 6), .int .i64 (f 7)] T) := set8_7 (set8_6 (set8_5 (set8_4 (set8_3 (set8_2 (set8_1 (set8_0 h)))))))
theorem w8_past {w : World} {g k : Nat} {f : Nat → Int} {o : Obj} (hk : k ≠ g) (h : w.heap[k]? = some o) : (w8 w g f).heap[k]? = some o := by
  unfold w8
  repeat' refine (Below.heap_setCell _ ⟨g, _, none⟩ _ k hk).trans ?_
  exact h
theorem w8_below {w w' : World} {g B : Nat} {f : Nat → Int} (h : Below B w w') (hg : B ≤ g) : Below B w (w8 w' g f) := by
  unfold w8
  repeat' refine Below.setCell ?_ hg _
  exact h
theorem eqItems_sameE {P : Program} (w : World) (d : Nat) {e : TypeId} {k : IntKind} (he : P.plainKey e = true) (hu : P.underlying e = some (.int k)) (c : Nat) (xs : Array Value) : ∀ (is : List Nat), (∀ i ∈ is, ∃ q x, xs[i * c]? = some (.int q x)) → (Op.eqItems (d + 1) e c xs xs is).run P w = .ok true w
  | [], _ => by simp [Op.eqItems]
  | i :: is, h => by
    obtain ⟨q, x, hx⟩ := h i (by simp)
    have p1 := run_part_plain (P := P) (w := w) he hx
    have ih := eqItems_sameE w d he hu c xs is (fun j hj => h j (by simp [hj]))
    simp only [Op.eqItems, Sem.run_bind, p1, Result.andThen_ok, run_equalIn_int w d e q k x x hu]
    simpa using ih
@[go_sem] theorem eqDigE (f : Nat → Int) (w : World) : (Op.equalIn 10000 57 (.agg #[.int .u8 (f 0), .int .u8 (f 1), .int .u8 (f 2), .int .u8 (f 3), .int .u8 (f 4), .int .u8 (f 5), .int .u8 (f 6), .int .u8 (f 7)]) (.agg #[.int .u8 (f 0), .int .u8 (f 1), .int .u8 (f 2), .int .u8 (f 3), .int .u8 (f 4), .int .u8 (f 5), .int .u8 (f 6), .int .u8 (f 7)])).run Try.prog w = .ok true w := by
  obtain ⟨i, hi⟩ := Option.isSome_iff_exists.1 (show (Try.prog.info? 5).isSome = true by kernel_rfl)
  rw [run_equalIn_array w 9999 _ _ Try.underlying57 hi]
  refine eqItems_sameE w 9998 (k := .u8) (by kernel_rfl) (by kernel_rfl) _ _ _ ?_
  intro i hi
  rw [show Try.prog.cellsOf 5 = 1 by kernel_rfl, Nat.mul_one]
  rcases lt8 (List.mem_range.1 hi) with rfl | rfl | rfl | rfl | rfl | rfl | rfl | rfl <;> exact ⟨_, _, rfl⟩
@[go_sem] theorem eqPts (f : Nat → Int) (w : World) : (Op.equalIn 10000 53 (.agg #[.int .i64 (f 0), .int .i64 (f 1), .int .i64 (f 2), .int .i64 (f 3), .int .i64 (f 4), .int .i64 (f 5), .int .i64 (f 6), .int .i64 (f 7)]) (.agg #[.int .i64 (f 0), .int .i64 (f 1), .int .i64 (f 2), .int .i64 (f 3), .int .i64 (f 4), .int .i64 (f 5), .int .i64 (f 6), .int .i64 (f 7)])).run Try.prog w = .ok true w := by
  obtain ⟨i, hi⟩ := Option.isSome_iff_exists.1 (show (Try.prog.info? 2).isSome = true by kernel_rfl)
  rw [run_equalIn_array w 9999 _ _ Try.underlying53 hi]
  refine eqItems_sameE w 9998 (k := .i64) (by kernel_rfl) (by kernel_rfl) _ _ _ ?_
  intro i hi
  rw [show Try.prog.cellsOf 2 = 1 by kernel_rfl, Nat.mul_one]
  rcases lt8 (List.mem_range.1 hi) with rfl | rfl | rfl | rfl | rfl | rfl | rfl | rfl <;> exact ⟨_, _, rfl⟩
end Go.Proofs.Ytinjlofefmjolaa.X
