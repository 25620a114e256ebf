/- Photos as rows of sixteen cells. Conditions: none. -/
import Derived.Test.YtbihgnmiocfelaaKMarks8
import Derived.Test.YtbihgnmiocfelaaKMarks5
import Derived.Test.YtbihgnmiocfelaaKMarks4
import Derived.StillTailTactics
import Derived.Deep.MidRow
import Derived.Deep.WholeRow
import Derived.Deep.Upon
namespace Go.Proofs.Ytbihgnmiocfelaa.X
open Go.RowKit
set_option linter.unusedVariables false
set_option linter.unusedSimpArgs false
set_option maxRecDepth 100000
theorem phTo_all {xs : List Int} {p : Nat → Int} : ∀ {n : Nat}, phTo xs p n = true → ∀ k : Nat, k < n → phAt xs p k = true
  | 0, _, k, hk => absurd hk (by omega)
  | n + 1, h, k, hk => by
    unfold phTo at h
    rw [Bool.and_eq_true] at h
    by_cases e : k = n
    · subst e; exact h.2
    · exact phTo_all h.1 k (by omega)
theorem okP_out {xs : List Int} {p : Nat → Int} (h : okP xs p = true) {i : Nat} (h1 : 2 * xs.length ≤ i) (h2 : i < 16) : p i = 0 := by
  unfold okP at h
  rw [Bool.and_eq_true] at h
  have := phTo_all h.2 (i / 2) (by omega)
  unfold phAt at this
  rw [if_neg (by omega), Bool.and_eq_true, beq_iff_eq, beq_iff_eq] at this
  rcases Nat.mod_two_eq_zero_or_one i with e | e
  · have e2 : 2 * (i / 2) = i := by omega
    rw [e2] at this; exact this.1
  · have e2 : 2 * (i / 2) + 1 = i := by omega
    rw [e2] at this; exact this.2
theorem okP_S {xs : List Int} {p : Nat → Int} (h : okP xs p = true) : okS xs = true := by
  unfold okP at h
  rw [Bool.and_eq_true] at h
  exact h.1
/-- sixteen numbers -/
def l16 (f : Nat → Int) : List Value := [Value.int .u64 (f 0), Value.int .u64 (f 1), Value.int .u64 (f 2), Value.int .u64 (f 3), Value.int .u64 (f 4), Value.int .u64 (f 5), Value.int .u64 (f 6), Value.int .u64 (f 7), Value.int .u64 (f 8), Value.int .u64 (f 9), Value.int .u64 (f 10), Value.int .u64 (f 11), Value.int .u64 (f 12), Value.int .u64 (f 13), Value.int .u64 (f 14), Value.int .u64 (f 15)]
def a16 (f : Nat → Int) : Array Value := (l16 f).toArray
@[go_sem, simp] theorem a16_size (f : Nat → Int) : (a16 f).size = 16 := rfl
theorem a16_all (f : Nat → Int) : (a16 f).all (·.oneCell') = true := by simp [a16, l16, Value.oneCell']
theorem a16_e0 (f : Nat → Int) {k : Nat} (h : k < 8) : (a16 f)[k * 2]? = some (.int .u64 (f (2 * k))) := by
  rcases lt8 h with rfl | rfl | rfl | rfl | rfl | rfl | rfl | rfl <;> rfl
theorem a16_e1 (f : Nat → Int) {k : Nat} (h : k < 8) : (a16 f)[k * 2 + 1]? = some (.int .u64 (f (2 * k + 1))) := by
  rcases lt8 h with rfl | rfl | rfl | rfl | rfl | rfl | rfl | rfl <;> rfl
theorem a16_set (f : Nat → Int) (a b : Int) {k : Nat} (h : k < 8) : ((a16 f).setIfInBounds (k * 2) (.int .u64 a)).setIfInBounds (k * 2 + 1) (.int .u64 b) = a16 (upd2 f k a b) := by
  rcases lt8 h with rfl | rfl | rfl | rfl | rfl | rfl | rfl | rfl <;> rfl
theorem a16_zero : (#[Value.int .u64 0, Value.int .u64 0, Value.int .u64 0, Value.int .u64 0, Value.int .u64 0, Value.int .u64 0, Value.int .u64 0, Value.int .u64 0, Value.int .u64 0, Value.int .u64 0, Value.int .u64 0, Value.int .u64 0, Value.int .u64 0, Value.int .u64 0, Value.int .u64 0, Value.int .u64 0] : Array Value) = a16 (fun _ => 0) := rfl
@[go_sem] theorem a16_index (f : Nat → Int) {k : Nat} (h : k < 8) (W : World) : (Instr.index 43 (.agg (a16 f)) (.int .i64 (k : Int))).run Try.prog W = .ok (.agg #[.int .u64 (f (2 * k)), .int .u64 (f (2 * k + 1))]) W := idxP f h W
theorem a16_info : (Try.prog.info? 43).map (·.size) = some 16 := by kernel_rfl
theorem load16 {ops : Array Oper} {rest : List Oper} {d : Option Tmp} {t : TypeId} {x : Operand} {pos : _} {af : _} {gd : _} {a : Act} {w : World} {Q : Exit → Act → World → Prop} {g : Nat} {cs : Array Value} {t0 : TypeId} {fr : Nat × Nat}
    (hw : Region.wanted ⟨d, .load 43 x, t, pos, af, gd⟩ (yielded ops a.tmps) = true) (hx : a.eval x = .pointer (some ⟨g, 0, none⟩)) (hg : w.heap[g]? = some (.cells cs t0 fr)) (hs : cs.size = 16)
    (h : wpList Try.prog ops Q rest (a.put d (.agg cs)) w) : wpList Try.prog ops Q (⟨d, .load 43 x, t, pos, af, gd⟩ :: rest) a w :=
  wpList_step fun _ hK => by
    rw [if_pos hw]
    exact wp_load_row 43 x rfl g hx t0 cs fr _ hg Try.underlying43 rfl (by rw [hs]; exact a16_info) (hK _ _ h)
theorem a16_infob : (Try.prog.info? 36).map (·.size) = some 16 := by kernel_rfl
theorem load16b {ops : Array Oper} {rest : List Oper} {d : Option Tmp} {t : TypeId} {x : Operand} {pos : _} {af : _} {gd : _} {a : Act} {w : World} {Q : Exit → Act → World → Prop} {g : Nat} {cs : Array Value} {t0 : TypeId} {fr : Nat × Nat}
    (hw : Region.wanted ⟨d, .load 36 x, t, pos, af, gd⟩ (yielded ops a.tmps) = true) (hx : a.eval x = .pointer (some ⟨g, 0, none⟩)) (hg : w.heap[g]? = some (.cells cs t0 fr)) (hs : cs.size = 16)
    (h : wpList Try.prog ops Q rest (a.put d (.agg cs)) w) : wpList Try.prog ops Q (⟨d, .load 36 x, t, pos, af, gd⟩ :: rest) a w :=
  wpList_step fun _ hK => by
    rw [if_pos hw]
    exact wp_load_row 36 x rfl g hx t0 cs fr _ hg Try.underlying36 rfl (by rw [hs]; exact a16_infob) (hK _ _ h)
theorem range_row {w : World} {g : Nat} {f : Nat → Int} {t : TypeId} {fr : Nat × Nat} (h : w.heap[g]? = some (.cells (a16 f) t fr)) : w.rangeAt g 0 (l16 f) := fun j v hv => by
  rw [Nat.zero_add, cell_of_row w g _ _ t fr h]
  exact (List.getElem?_toArray ..).trans hv
theorem there_row {w : World} {g : Nat} {f f' : Nat → Int} {t : TypeId} (h : w.heap[g]? = some (.cells (a16 f) t (0, 0))) : w.there g 0 (List.toArray (l16 f')).size := fun j hj => by
  have hj' : j < (a16 f).size := hj
  refine ⟨?_, ?_⟩
  · rw [Nat.zero_add, cell_of_row w g _ _ t _ h, Array.getElem?_eq_getElem hj']; rfl
  · rw [frozen_of_row w g _ _ t h]
theorem there_any {w : World} {g : Nat} {f f' : Nat → Int} (h : w.heap[g]? = some (.cells (a16 f) 43 (0, 0))) : w.there g 0 (List.toArray (l16 f')).size := there_row h
theorem there_new {f' : Nat → Int} (t : TypeId) (w : World) : (w.alloc (.cells (a16 fun _ => 0) t)).there w.heap.size 0 (List.toArray (l16 f')).size := there_row (heap_alloc_at rfl)
/-- sixteen numbers of 64 bits -/
def u16 (f : Nat → Int) : Prop := ∀ k : Nat, 0 ≤ f k ∧ f k < 18446744073709551616
theorem cells_row {w : World} {g : Nat} {f : Nat → Int} {t : TypeId} {fr : Nat × Nat} (h : w.heap[g]? = some (.cells (a16 f) t fr)) : w.cell? ⟨g, 0, none⟩ = some (.int .u64 (f 0)) ∧ w.cell? ⟨g, 1, none⟩ = some (.int .u64 (f 1)) ∧ w.cell? ⟨g, 2, none⟩ = some (.int .u64 (f 2)) ∧ w.cell? ⟨g, 3, none⟩ = some (.int .u64 (f 3)) ∧ w.cell? ⟨g, 4, none⟩ = some (.int .u64 (f 4)) ∧ w.cell? ⟨g, 5, none⟩ = some (.int .u64 (f 5)) ∧ w.cell? ⟨g, 6, none⟩ = some (.int .u64 (f 6)) ∧ w.cell? ⟨g, 7, none⟩ = some (.int .u64 (f 7)) ∧ w.cell? ⟨g, 8, none⟩ = some (.int .u64 (f 8)) ∧ w.cell? ⟨g, 9, none⟩ = some (.int .u64 (f 9)) ∧ w.cell? ⟨g, 10, none⟩ = some (.int .u64 (f 10)) ∧ w.cell? ⟨g, 11, none⟩ = some (.int .u64 (f 11)) ∧ w.cell? ⟨g, 12, none⟩ = some (.int .u64 (f 12)) ∧ w.cell? ⟨g, 13, none⟩ = some (.int .u64 (f 13)) ∧ w.cell? ⟨g, 14, none⟩ = some (.int .u64 (f 14)) ∧ w.cell? ⟨g, 15, none⟩ = some (.int .u64 (f 15)) := by
  have e := fun j => cell_of_row w g j _ t fr h
  refine ⟨?_, ?_, ?_, ?_, ?_, ?_, ?_, ?_, ?_, ?_, ?_, ?_, ?_, ?_, ?_, ?_⟩ <;> (rw [e]; rfl)
theorem lit16 {f : FuncId} {args : Array Value} {w : World} {F : Nat → Int} {c : Int} (h : Calls Try.prog f args w fun e w' => e = .returned (.tuple #[.agg (a16 F), .int .i64 c]) ∧ Below w.heap.size w w') : Calls Try.prog f args w fun e w' => e = .returned (.tuple #[.agg #[.int .u64 (F 0), .int .u64 (F 1), .int .u64 (F 2), .int .u64 (F 3), .int .u64 (F 4), .int .u64 (F 5), .int .u64 (F 6), .int .u64 (F 7), .int .u64 (F 8), .int .u64 (F 9), .int .u64 (F 10), .int .u64 (F 11), .int .u64 (F 12), .int .u64 (F 13), .int .u64 (F 14), .int .u64 (F 15)], .int .i64 c]) ∧ Below w.heap.size w w' := h
theorem row16 {w : World} {g : Nat} {f : Nat → Int} {t : TypeId} {fr : Nat × Nat} (h : w.heap[g]? = some (.cells #[.int .u64 (f 0), .int .u64 (f 1), .int .u64 (f 2), .int .u64 (f 3), .int .u64 (f 4), .int .u64 (f 5), .int .u64 (f 6), .int .u64 (f 7), .int .u64 (f 8), .int .u64 (f 9), .int .u64 (f 10), .int .u64 (f 11), .int .u64 (f 12), .int .u64 (f 13), .int .u64 (f 14), .int .u64 (f 15)] t fr)) : w.heap[g]? = some (.cells (a16 f) t fr) := h
/-- Is block g a row of sixteen cells that may be written? -/
def isRow16 (w : World) (g : Nat) : Bool := match w.heap[g]? with
  | some (.cells cs _ fr) => decide (cs.size = 16) && decide (fr = (0, 0))
  | _ => false
def rowOf (w : World) (g : Nat) : Array Value := match w.heap[g]? with
  | some (.cells cs _ _) => cs
  | _ => #[]
theorem isRow16_iff {w : World} {g : Nat} (h : isRow16 w g = true) : ∃ t, w.heap[g]? = some (.cells (rowOf w g) t (0, 0)) ∧ (rowOf w g).size = 16 := by
  unfold isRow16 at h
  unfold rowOf
  split at h
  · rename_i cs t fr e
    rw [e]
    simp only [Bool.and_eq_true, decide_eq_true_eq] at h
    exact ⟨t, by rw [h.2], h.1⟩
  · cases h
theorem row16_of {w : World} {g : Nat} {f : Nat → Int} {t : TypeId} (h : w.heap[g]? = some (.cells (a16 f) t (0, 0))) : isRow16 w g = true ∧ rowOf w g = a16 f := by
  unfold isRow16 rowOf
  rw [h]
  exact ⟨rfl, rfl⟩
theorem row_congr {w w' : World} {g g' : Nat} (h : w'.heap[g']? = w.heap[g]?) : isRow16 w' g' = isRow16 w g ∧ rowOf w' g' = rowOf w g := by
  unfold isRow16 rowOf
  rw [h]
  exact ⟨rfl, rfl⟩
def isRowO : Obj → Bool
  | .cells cs _ fr => decide (cs.size = 16) && decide (fr = (0, 0))
  | _ => false
def rowO : Obj → Array Value
  | .cells cs _ _ => cs
  | _ => #[]
@[go_sem] theorem isRowO_a16 (f : Nat → Int) (t : TypeId) : isRowO (.cells (a16 f) t (0, 0)) = true := rfl
@[go_sem] theorem rowO_a16 (f : Nat → Int) (t : TypeId) : rowO (.cells (a16 f) t (0, 0)) = a16 f := rfl
theorem isRow_at {w : World} {g : Nat} {o : Obj} (h : w.heap[g]? = some o) : isRow16 w g = isRowO o ∧ rowOf w g = rowO o := by
  unfold isRow16 rowOf isRowO rowO
  rw [h]
  cases o <;> exact ⟨rfl, rfl⟩
theorem isRow_none {w : World} {g : Nat} (h : w.heap[g]? = none) : isRow16 w g = false ∧ rowOf w g = #[] := by
  unfold isRow16 rowOf
  rw [h]
  exact ⟨rfl, rfl⟩
/-- the rows among the new blocks -/
def isRowN (os : Array Obj) (k : Nat) : Bool := (os[k]?).elim false isRowO
def rowN (os : Array Obj) (k : Nat) : Array Value := (os[k]?).elim #[] rowO
section
variable (w : World) (os : Array Obj) (d g : Nat) (o : Obj) (p : Q1)
theorem row_mo : isRow16 (mo w os d) g = (if g < w.heap.size then isRow16 w g else isRowN os (g - w.heap.size)) ∧ rowOf (mo w os d) g = (if g < w.heap.size then rowOf w g else rowN os (g - w.heap.size)) := by
  by_cases h : g < w.heap.size
  · rw [if_pos h, if_pos h]; exact row_congr (heap_mo w os d g h)
  · rw [if_neg h, if_neg h]
    have e : (mo w os d).heap[g]? = os[g - w.heap.size]? := by simp [mo, Array.getElem?_append, h]
    unfold isRowN rowN
    cases hx : os[g - w.heap.size]? with
    | none => exact isRow_none (e.trans hx)
    | some x => exact isRow_at (e.trans hx)
theorem row_alloc : isRow16 (w.alloc o) g = (if g < w.heap.size then isRow16 w g else if g = w.heap.size then isRowO o else false) ∧ rowOf (w.alloc o) g = (if g < w.heap.size then rowOf w g else if g = w.heap.size then rowO o else #[]) := by
  by_cases h : g < w.heap.size
  · rw [if_pos h, if_pos h]; exact row_congr (Below.heap_alloc w o g h)
  · rw [if_neg h, if_neg h]
    by_cases h2 : g = w.heap.size
    · rw [if_pos h2, if_pos h2]; exact isRow_at (heap_alloc_at h2)
    · rw [if_neg h2, if_neg h2]; exact isRow_none (Array.getElem?_eq_none (by simp; omega))
@[go_sem] theorem isRow_mo : isRow16 (mo w os d) g = (if g < w.heap.size then isRow16 w g else isRowN os (g - w.heap.size)) := (row_mo w os d g).1
@[go_sem] theorem rowOf_mo : rowOf (mo w os d) g = (if g < w.heap.size then rowOf w g else rowN os (g - w.heap.size)) := (row_mo w os d g).2
@[go_sem] theorem isRow_mq : isRow16 (mq w p) g = (if g < w.heap.size then isRow16 w g else isRowN p.os (g - w.heap.size)) := (row_mo w p.os p.d g).1
@[go_sem] theorem rowOf_mq : rowOf (mq w p) g = (if g < w.heap.size then rowOf w g else rowN p.os (g - w.heap.size)) := (row_mo w p.os p.d g).2
@[go_sem] theorem isRow_drew : isRow16 w.drew g = isRow16 w g := rfl
@[go_sem] theorem rowOf_drew : rowOf w.drew g = rowOf w g := rfl
@[go_sem] theorem isRow_drewN : isRow16 (w.drewN d) g = isRow16 w g := rfl
@[go_sem] theorem rowOf_drewN : rowOf (w.drewN d) g = rowOf w g := rfl
@[go_sem] theorem isRow_alloc : isRow16 (w.alloc o) g = (if g < w.heap.size then isRow16 w g else if g = w.heap.size then isRowO o else false) := (row_alloc w g o).1
@[go_sem] theorem rowOf_alloc : rowOf (w.alloc o) g = (if g < w.heap.size then rowOf w g else if g = w.heap.size then rowO o else #[]) := (row_alloc w g o).2
theorem size_some {w : World} {g : Nat} (h : isRow16 w g = true) : g < w.heap.size := (Array.getElem?_eq_some_iff.1 (isRow16_iff h).choose_spec.1).1
@[go_sem] theorem isRow_set (f : Nat → Int) (h : isRow16 w g = true) : isRow16 (w.setRow g (a16 f)) g = true := by
  obtain ⟨t, h1, _⟩ := isRow16_iff h
  exact (row16_of (setRow_heap _ _ _ _ _ _ h1)).1
@[go_sem] theorem rowOf_set (f : Nat → Int) (h : isRow16 w g = true) : rowOf (w.setRow g (a16 f)) g = a16 f := by
  obtain ⟨t, h1, _⟩ := isRow16_iff h
  exact (row16_of (setRow_heap _ _ _ _ _ _ h1)).2
@[go_sem] theorem isRow_other (k : Nat) (cs : Array Value) (h : g ≠ k) : isRow16 (w.setRow k cs) g = isRow16 w g := (row_congr (setRow_other w k g cs h)).1
@[go_sem] theorem rowOf_other (k : Nat) (cs : Array Value) (h : g ≠ k) : rowOf (w.setRow k cs) g = rowOf w g := (row_congr (setRow_other w k g cs h)).2
@[go_sem] theorem cell_set_other (k i : Nat) (cs : Array Value) (h : g ≠ k) : (w.setRow k cs).cell? ⟨g, i, none⟩ = w.cell? ⟨g, i, none⟩ := cell_setRow_other w k cs ⟨g, i, none⟩ h
end
@[go_sem] theorem setRow_new (w : World) (g : Nat) (c c' : Array Value) (t : TypeId) (h : g = w.heap.size) : (w.alloc (.cells c t)).setRow g c' = w.alloc (.cells c' t) := by
  subst h; exact World.setRow_alloc_new w c c' t
theorem ext_world {w w' : World} (h1 : w.heap = w'.heap) (h2 : w.tape = w'.tape) (h3 : w.drawn = w'.drawn) (h4 : w.os = w'.os) (h5 : w.output = w'.output) : w = w' := by
  cases w; cases w'; simp_all
@[go_sem] theorem setRow_past (w : World) (g : Nat) (o : Obj) (c : Array Value) (h : g < w.heap.size) : (w.alloc o).setRow g c = (w.setRow g c).alloc o := by
  refine ext_world ?_ rfl rfl rfl rfl
  apply Array.ext_getElem?
  intro k
  by_cases hk : k = w.heap.size
  · subst hk
    rw [setRow_other _ _ _ _ (by omega), heap_alloc_new]
    exact (heap_alloc_at (by simp)).symm
  · by_cases hg : k = g
    · subst hg
      simp only [World.setRow, World.alloc, Array.getElem?_modify, Array.getElem?_push, Array.size_modify, hk, if_false, if_true]
    · rw [setRow_other _ _ _ _ hg]
      simp only [World.alloc]
      rw [Array.getElem?_push, if_neg hk, Array.getElem?_push, if_neg (by simpa using hk), setRow_other _ _ _ _ hg]
@[go_sem] theorem setRow_mo (w : World) (os : Array Obj) (d g : Nat) (c : Array Value) (h : g < w.heap.size) : (mo w os d).setRow g c = mo (w.setRow g c) os d := by
  refine ext_world ?_ rfl rfl rfl rfl
  apply Array.ext_getElem?
  intro k
  by_cases hg : k = g
  · subst hg
    rw [heap_mo _ _ _ _ (by simpa using h)]
    simp only [World.setRow]
    rw [Array.getElem?_modify, Array.getElem?_modify, heap_mo _ _ _ _ h]
  · rw [setRow_other _ _ _ _ hg]
    simp only [mo]
    rw [Array.getElem?_append, Array.getElem?_append, setRow_size, setRow_other _ _ _ _ hg]
@[go_sem] theorem setRow_drew (w : World) (g : Nat) (c : Array Value) : w.drew.setRow g c = (w.setRow g c).drew := rfl
/-- sixteen cells from the head of block g -/
def load16At (g : Nat) : Sem (Array Value) := loadCellsFrom ⟨g, 0, none⟩ 0 16 #[]
@[go_sem ↓ high] theorem load16_fold (g : Nat) : loadCellsFrom ⟨g, 0, none⟩ 0 16 #[] = load16At g := rfl
@[go_sem ↓ high] theorem load16_fold2 (g : Nat) : loadCells ⟨g, 0, none⟩ 16 = load16At g := rfl
@[go_sem] theorem run_load16 {P : Program} (w : World) (g : Nat) (h : isRow16 w g = true) : (load16At g).run P w = .ok (rowOf w g) w := by
  obtain ⟨t, h1, h2⟩ := isRow16_iff h
  have := run_loadCells_list (P := P) w ⟨g, 0, none⟩ (rowOf w g).toList (fun j v hv => by
    have hadd : (⟨g, 0, none⟩ : Addr).add j = ⟨g, j, none⟩ := by unfold Addr.add; split <;> simp_all
    rw [hadd, cell_of_row _ _ j _ t (0, 0) h1]
    simpa using hv)
  rw [show (rowOf w g).toList.length = 16 by simpa using h2] at this
  unfold load16At
  simpa [loadCells] using this
@[go_sem high] theorem run_store16 (w : World) (g : Nat) (f : Nat → Int) (h : isRow16 w g = true) : (storeCells ⟨g, 0, none⟩ (a16 f).toList 0).run Try.prog w = .ok () (w.setRow g (a16 f)) := by
  obtain ⟨t, h1, h2⟩ := isRow16_iff h
  have := run_storeVar_row (P := Try.prog) w g t 43 _ (a16 f) h1 a16_info h2 (a16_all f)
  have hi := a16_info
  cases hq : Try.prog.info? 43 with
  | none => simp [hq] at hi
  | some i =>
    have hs : (16 : Nat) = i.size := by simp [hq] at hi; omega
    simpa [storeVar, sizeOf, typeInfo, hq, Value.cells, hs] using this
def cut16 (f : Nat → Int) : Nat → Int := fun i => if i < 16 then f i else 0
theorem cut16_u16 {f : Nat → Int} (h : ∀ i, i < 16 → (Lit.int .u64 (f i)).wf = true) : u16 (cut16 f) := by
  intro k
  unfold cut16
  split
  · rename_i hk
    have := h k hk
    simp [Lit.wf, show IntKind.u64.min = 0 by decide, show IntKind.u64.max = 18446744073709551615 by decide] at this
    omega
  · omega
theorem one16 (f : Nat → Int) : ∀ v ∈ l16 f, v.oneCell' = true := by simp [l16, Value.oneCell']
theorem heap_setC_past {w : World} {g k : Nat} {vs : List Value} {o : Obj} (e : k ≠ g) (h : w.heap[k]? = some o) : (w.setCells g 0 vs).heap[k]? = some o := (World.heap_setCells_other w g 0 vs (Array.getElem?_eq_some_iff.1 h).1 e).trans h
theorem setC_row {w : World} {g : Nat} {f : Nat → Int} {old : Array Value} {t : TypeId} (h : w.heap[g]? = some (.cells old t (0, 0))) (ho : old.size = 16) : w.setCells g 0 (List.toArray (l16 f)).toList = w.setRow g (a16 f) := by
  have h1 := run_storeVar_mid (P := Try.prog) w g 0 43 (a16 f) (fun j hj => by
    have hj' : j < old.size := by rw [ho]; exact hj
    refine ⟨?_, ?_⟩
    · rw [Nat.zero_add, cell_of_row w g _ _ t _ h, Array.getElem?_eq_getElem hj']; rfl
    · rw [frozen_of_row w g _ _ t h]) a16_info (a16_all f)
  have h2 := run_storeVar_row (P := Try.prog) w g t 43 old (a16 f) h a16_info ho (a16_all f)
  have h3 := h1.symm.trans h2
  injection h3
theorem heap_drew_at {w : World} {g : Nat} {o : Obj} (h : w.heap[g]? = some o) : w.drew.heap[g]? = some o := h
theorem store16 {ops : Array Oper} {rest : List Oper} {d : Option Tmp} {t : TypeId} {x y : Operand} {pos : _} {af : _} {gd : _} {a : Act} {w : World} {Q : Exit → Act → World → Prop} {g : Nat} {old cells : Array Value} {t0 : TypeId}
    (hw : Region.wanted ⟨d, .store 43 x y, t, pos, af, gd⟩ (yielded ops a.tmps) = true) (hx : a.eval x = .pointer (some ⟨g, 0, none⟩)) (hy : a.eval y = .agg cells) (hg : w.heap[g]? = some (.cells old t0 (0, 0))) (ho : old.size = 16) (hs : cells.size = 16) (h1 : cells.all (·.oneCell') = true)
    (h : wpList Try.prog ops Q rest (a.put d undef) (w.setRow g cells)) : wpList Try.prog ops Q (⟨d, .store 43 x y, t, pos, af, gd⟩ :: rest) a w :=
  wpList_step fun _ hK => by
    rw [if_pos hw]
    exact wp_store_row 43 x y rfl g cells hx hy t0 old hg (by rw [hs]; exact a16_info) (by rw [ho, hs]) h1 (hK _ _ h)
theorem still_tail {P : Program} {id : Nat} {Q : Exit → Act → World → Prop} {a : Act} {w : World} {l : List Oper} (n : Nat) (hm : P.follows .mixedOrders = true) (hB : Region.lexTailB .any l.toArray n = true)
    (h : wpStill P l.toArray w.drew (fun a' => wpList P l.toArray Q (l.drop n) a' w.drew) (l.take n) a) : (Code.region id l.toArray true).wp P Q a w := wp_region_still_tail n hm hB h
theorem heap_set_at {w : World} {g k : Nat} {cs old : Array Value} {t : TypeId} {fr : Nat × Nat} (e : k = g) (h : w.heap[g]? = some (.cells old t fr)) : (w.setRow g cs).heap[k]? = some (.cells cs t fr) := by
  subst e; exact setRow_heap _ _ _ _ _ _ h
theorem heap_set_past {w : World} {g k : Nat} {cs : Array Value} {o : Obj} (e : k ≠ g) (h : w.heap[k]? = some o) : (w.setRow g cs).heap[k]? = some o := (setRow_other w g k cs e).trans h
theorem heap_mq_at {w : World} {p : Q1} {g : Nat} {o : Obj} (h : w.heap[g]? = some o) : (mq w p).heap[g]? = some o := heap_mo_at h
theorem ret16 {fn : Func} {p u : Tmp} (h : fn.results = #[.cell p 43, .tmp u]) {R : Ending → World → Prop} {a : Act} {w : World} {g : Nat} {t : TypeId} {cs : Array Value} {fr : Nat × Nat}
    (hp : a.tmps.getD p undef = .pointer (some ⟨g, 0, none⟩)) (hg : w.heap[g]? = some (.cells cs t fr)) (hs : cs.size = 16) (hf : a.defers = []) (hR : R (.returned (.tuple #[.agg cs, a.tmps.getD u undef])) w) : bodyPost Try.prog fn R .ret a w :=
  ret_cell_tmp h g t cs fr _ hp hg Try.underlying43 rfl (by rw [hs]; exact a16_info) hf hR
theorem ret16one {fn : Func} {p : Tmp} (h : fn.results = #[.cell p 43]) {R : Ending → World → Prop} {a : Act} {w : World} {g : Nat} {t : TypeId} {cs : Array Value} {fr : Nat × Nat}
    (hp : a.tmps.getD p undef = .pointer (some ⟨g, 0, none⟩)) (hg : w.heap[g]? = some (.cells cs t fr)) (hs : cs.size = 16) (hf : a.defers = []) (hR : R (.returned (.agg cs)) w) : bodyPost Try.prog fn R .ret a w :=
  bodyPost_ret (results_cell_row h _ _ g t cs fr _ hp hg Try.underlying43 rfl (by rw [hs]; exact a16_info)) hf hR
theorem cells16 {w : World} {g : Nat} {f : Nat → Int} {t : TypeId} {fr : Nat × Nat} (h : w.heap[g]? = some (.cells (a16 f) t fr)) {k : Nat} (hk : k < 8) : w.cell? ⟨g, k * 2, none⟩ = some (.int .u64 (f (2 * k))) ∧ w.cell? ⟨g, k * 2 + 1, none⟩ = some (.int .u64 (f (2 * k + 1))) := by
  rw [cell_of_row w g _ _ t fr h, cell_of_row w g _ _ t fr h]
  exact ⟨a16_e0 f hk, a16_e1 f hk⟩
theorem phIn_of {w : World} {g : Nat} {f : Nat → Int} {t : TypeId} {fr : Nat × Nat} (h : w.heap[g]? = some (.cells (a16 f) t fr)) : PhIn w g f :=
  ⟨(Array.getElem?_eq_some_iff.1 h).1, fun _ hk => cells16 h hk⟩
theorem implVP {A : Option Addr} {xs : List Int} {W : World} {B : Nat} (hs : Nums .u8 W B A xs) (h8 : b8 xs) (n c : Nat) (hn : xs.length = n) (w : World) (hb : Below B W w) (p : Nat → Int) : Calls Try.prog 128 #[.slice A n c, .agg (a16 p)] w fun e w' => e = .returned (.bool (okP xs p)) ∧ Below w.heap.size w w' := implValidPhoto_any hs h8 _ _ hn _ hb p
theorem specVP {A : Option Addr} {xs : List Int} {W : World} {B : Nat} (hs : Nums .u8 W B A xs) (h8 : b8 xs) (n c : Nat) (hn : xs.length = n) (w : World) (hb : Below B W w) (p : Nat → Int) : Calls Try.prog 125 #[.slice A n c, .agg (a16 p)] w fun e w' => e = .returned (.bool (okP xs p)) ∧ Below w.heap.size w w' := specValidPhoto_any hs h8 _ _ hn _ hb p
theorem photoOKa {A : Option Addr} {xs : List Int} {W : World} {B : Nat} (hs : Nums .u8 W B A xs) (h8 : b8 xs) (n c : Nat) (hn : xs.length = n) (w : World) (hb : Below B W w) (p : Nat → Int) (hk : okS xs = true) : Calls Try.prog 238 #[.slice A n c, .agg (a16 p)] w fun e w' => e = .returned (.bool (phOK xs p)) ∧ Below w.heap.size w w' := photoOK_any hs h8 _ _ hn _ hb p hk
theorem toPh (p : Nat → Int) (w : World) : Calls Try.prog 24 #[.agg (a16 p)] w fun e w' => e = .returned (.agg (a16 p)) ∧ Below w.heap.size w w' := toPhoto_any p w
end Go.Proofs.Ytbihgnmiocfelaa.X
