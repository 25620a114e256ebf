/- Words for the walks of this seat: how slices of numbers and of structs read, what is kept; small lemmas. Conditions: none. -/
import Derived.Test.YtaahfebnbholmaaProg
import Derived.WalkKit
import Derived.KernelRfl
import Derived.WideLaws
import Derived.Deep.QuietTactic
import Derived.BigQuiet
import Derived.Laws.Rows
import Derived.WalkLawsBesides
import Derived.WalkSpells
import Derived.LoopN
import Derived.Deep.Draws
import Derived.Deep.LoopGhost
import Derived.Deep.DeepCutAuto
import Derived.Deep.CutBlock
import Derived.Deep.DeepFit
import Derived.Lib.Hide
import Derived.Deep.RegionHeld3
import Derived.Laws.OwnMore
import Derived.Laws.MakeOwn
import Derived.Maps.AppendAt
namespace Go.Proofs.Ytaahfebnbholmaa.X
open Go.RowKit
set_option linter.unusedVariables false
set_option linter.unusedSimpArgs false

/-- Behind a call that leaves all old memory as it was. -/
theorem bcell {W w1 : World} (hb : Below W.heap.size W w1) : (∀ b o, b < W.heap.size → w1.cell? ⟨b, o, none⟩ = W.cell? ⟨b, o, none⟩) ∧ (∀ b o, b < W.heap.size → w1.frozen? ⟨b, o, none⟩ = W.frozen? ⟨b, o, none⟩) :=
  ⟨fun b o h => hb.cell (p := ⟨b, o, none⟩) h, fun b o h => hb.frozen (p := ⟨b, o, none⟩) h⟩

/-- The slice at A holds the elements xs, each of size cells; it lies below block B. -/
def SL {α : Type} (w : World) (B size : Nat) (enc : α → List Value) (A : Option Addr) (xs : List α) : Prop :=
  0 < xs.length → ∃ b off, A = some ⟨b, off, none⟩ ∧ b < B ∧ ∀ (i : Nat) (x : α), xs[i]? = some x → ∀ (j : Nat) (u : Value), (enc x)[j]? = some u → w.cell? ⟨b, off + i * size + j, none⟩ = some u

theorem SL.keep {α : Type} {w w' : World} {B B' C size : Nat} {enc : α → List Value} {A : Option Addr} {xs : List α} (h : SL w B size enc A xs) (hb : Below C w w') (hC : B ≤ C) (hB : B ≤ B') : SL w' B' size enc A xs := by
  intro hn
  obtain ⟨b, off, e, hlt, hc⟩ := h hn
  exact ⟨b, off, e, by omega, fun i x hx j u hu => (hb.cell (p := ⟨b, _, none⟩) (by show b < C; omega)).trans (hc i x hx j u hu)⟩

/-- One cell an element: the cell of element k. -/
theorem SL.at1 {α : Type} {w : World} {B : Nat} {enc : α → Value} {A : Option Addr} {xs : List α} (h : SL w B 1 (fun x => [enc x]) A xs) {k : Nat} (hk : k < xs.length) :
    ∃ b off, A = some ⟨b, off, none⟩ ∧ b < B ∧ w.cell? ⟨b, off + k, none⟩ = some (enc xs[k]) := by
  obtain ⟨b, off, e, hlt, hc⟩ := h (by omega)
  refine ⟨b, off, e, hlt, ?_⟩
  have := hc k xs[k] (List.getElem?_eq_getElem hk) 0 (enc xs[k]) rfl
  simpa using this

/-- Two cells an element. -/
theorem SL.at2 {α : Type} {w : World} {B : Nat} {e0 e1 : α → Value} {A : Option Addr} {xs : List α} (h : SL w B 2 (fun x => [e0 x, e1 x]) A xs) {k : Nat} (hk : k < xs.length) :
    ∃ b off, A = some ⟨b, off, none⟩ ∧ b < B ∧ w.cell? ⟨b, off + k * 2, none⟩ = some (e0 xs[k]) ∧ w.cell? ⟨b, off + k * 2 + 1, none⟩ = some (e1 xs[k]) := by
  obtain ⟨b, off, e, hlt, hc⟩ := h (by omega)
  refine ⟨b, off, e, hlt, ?_, ?_⟩
  · have := hc k xs[k] (List.getElem?_eq_getElem hk) 0 (e0 xs[k]) rfl
    simpa using this
  · exact hc k xs[k] (List.getElem?_eq_getElem hk) 1 (e1 xs[k]) rfl

/-- The world w with the blocks os behind its own; d answers have been drawn. -/
def more (w : World) (os : Array Obj) (d : Nat) : World := { w with heap := w.heap ++ os, drawn := d }
section
variable (w : World) (os ps : Array Obj) (d e : Nat)
@[go_sem, simp] theorem size_more : (more w os d).heap.size = w.heap.size + os.size := by simp [more]
@[go_sem] theorem more_more : more (more w os d) ps e = more w (os ++ ps) e := by simp [more, Array.append_assoc]
@[go_sem] theorem more_drew : (more w os d).drew = more w os (d + 1) := rfl
theorem heap_more (k : Nat) (hk : k < w.heap.size) : (more w os d).heap[k]? = w.heap[k]? := by
  simp [more, Array.getElem?_append, hk]
@[go_sem] theorem cell_more (n i : Nat) (hn : n < w.heap.size) : (more w os d).cell? ⟨n, i, none⟩ = w.cell? ⟨n, i, none⟩ := World.cell?_of_block (heap_more w os d n hn)
@[go_sem] theorem frozen_more (n i : Nat) (hn : n < w.heap.size) : (more w os d).frozen? ⟨n, i, none⟩ = w.frozen? ⟨n, i, none⟩ := World.frozen?_of_block (heap_more w os d n hn)
@[go_sem] theorem setCell_more (n i : Nat) (v : Value) (hn : n < w.heap.size) : (more w os d).setCell ⟨n, i, none⟩ v = more (w.setCell ⟨n, i, none⟩ v) os d := by
  simp only [more, World.setCell]
  congr 1
  apply Array.ext_getElem?
  intro k
  by_cases hk : k < w.heap.size
  · rw [Array.getElem?_append, if_pos (by simpa using hk), Array.getElem?_modify, Array.getElem?_modify, Array.getElem?_append, if_pos hk]
  · have hne : ¬ n = k := by omega
    simp [Array.getElem?_modify, Array.getElem?_append, hk, hne]
theorem below_more {B : Nat} (hB : B ≤ w.heap.size) : Below B w (more w os d) :=
  ⟨rfl, rfl, rfl, by simp, fun k hk => heap_more w os d k (by omega)⟩
end
/-- What leaves all old memory as it was lays new blocks behind it, no more. -/
theorem more_of {w w' : World} (h : Below w.heap.size w w') : ∃ os d, w' = more w os d := by
  refine ⟨w'.heap.extract w.heap.size w'.heap.size, w'.drawn, ?_⟩
  have hs := h.size
  have hh : w'.heap = w.heap ++ w'.heap.extract w.heap.size w'.heap.size := by
    apply Array.ext_getElem?
    intro k
    by_cases hk : k < w.heap.size
    · rw [h.block k hk, Array.getElem?_append, if_pos hk]
    · rw [Array.getElem?_append, if_neg hk, Array.getElem?_extract]
      by_cases hk2 : k < w'.heap.size
      · rw [if_pos (by omega)]; congr 1; omega
      · rw [if_neg (by omega), Array.getElem?_eq_none (by omega)]
  obtain ⟨hp, tp, dr, o, out⟩ := w'
  obtain ⟨hp0, tp0, dr0, o0, out0⟩ := w
  have h1 := h.os
  have h2 := h.tape
  have h3 := h.output
  simp only at h1 h2 h3 hh
  subst h1 h2 h3
  simp only [more]
  congr 1

theorem more_nil (w : World) : more w #[] w.drawn = w := by simp [more]
/-- The call hands back a slice of new memory that holds xs. -/
def RetSL {α : Type} (w : World) (size : Nat) (enc : α → List Value) (xs : List α) (e : Ending) (w' : World) : Prop :=
  ∃ B d, e = .returned (.slice B xs.length d) ∧ SL w' w'.heap.size size enc B xs ∧ Below w.heap.size w w'
theorem sl_of_block {α : Type} {w : World} {g size : Nat} {enc : α → List Value} {xs : List α} {cs : Array Value} {T : TypeId} {fr : Nat × Nat} (hg : w.heap[g]? = some (.cells cs T fr))
    (h : ∀ (i : Nat) (x : α), xs[i]? = some x → ∀ (j : Nat) (u : Value), (enc x)[j]? = some u → cs[i * size + j]? = some u) : SL w w.heap.size size enc (some ⟨g, 0, none⟩) xs := by
  intro _
  refine ⟨g, 0, rfl, (Array.getElem?_eq_some_iff.1 hg).1, fun i x hx j u hu => ?_⟩
  rw [cell_of_row w g _ cs T fr hg, Nat.zero_add]
  exact h i x hx j u hu
theorem heap_more_alloc (w : World) (o : Obj) (os : Array Obj) (d : Nat) : (more (w.alloc o) os d).heap[w.heap.size]? = some o := by
  rw [heap_more _ _ _ _ (by simp)]
  exact heap_alloc_new w o

/-- The first k elements of xs stand in the cells cur. -/
def Fill {α : Type} (size : Nat) (enc : α → List Value) (cur : Array Value) (xs : List α) (k : Nat) : Prop :=
  ∀ (i : Nat) (x : α), i < k → xs[i]? = some x → ∀ (j : Nat) (u : Value), (enc x)[j]? = some u → cur[i * size + j]? = some u
theorem Fill.zero {α : Type} {size : Nat} {enc : α → List Value} {cur : Array Value} {xs : List α} : Fill size enc cur xs 0 := fun i x h => absurd h (by omega)
theorem Fill.step1 {α : Type} {f : α → Value} {cur : Array Value} {xs : List α} {k : Nat} (h : Fill 1 (fun x => [f x]) cur xs k) (hk : k < cur.size) (hx : k < xs.length) :
    Fill 1 (fun x => [f x]) (cur.setIfInBounds k (f xs[k])) xs (k + 1) := by
  intro i x hi hxi j u hu
  have hj : j = 0 := by
    have := (List.getElem?_eq_some_iff.1 hu).1
    simpa using this
  subst hj
  by_cases e : i = k
  · subst e
    rw [List.getElem?_eq_getElem hx] at hxi
    injection hxi with hxi
    subst hxi
    simp at hu
    subst hu
    simp [Array.getElem?_setIfInBounds, hk]
  · have := h i x (by omega) hxi 0 u hu
    rw [Array.getElem?_setIfInBounds, if_neg (by omega)]
    exact this
theorem Fill.step2 {α : Type} {f g : α → Value} {cur : Array Value} {xs : List α} {k : Nat} (h : Fill 2 (fun x => [f x, g x]) cur xs k) (hk : k * 2 + 1 < cur.size) (hx : k < xs.length) :
    Fill 2 (fun x => [f x, g x]) ((cur.setIfInBounds (k * 2) (f xs[k])).setIfInBounds (k * 2 + 1) (g xs[k])) xs (k + 1) := by
  intro i x hi hxi j u hu
  have hj : j < 2 := by
    have := (List.getElem?_eq_some_iff.1 hu).1
    simpa using this
  by_cases e : i = k
  · subst e
    rw [List.getElem?_eq_getElem hx] at hxi
    injection hxi with hxi
    subst hxi
    rcases (show j = 0 ∨ j = 1 by omega) with rfl | rfl
    · simp at hu
      subst hu
      rw [Array.getElem?_setIfInBounds, if_neg (by omega), Array.getElem?_setIfInBounds, if_pos (by omega), if_pos (by omega)]
    · simp at hu
      subst hu
      rw [Array.getElem?_setIfInBounds, if_pos rfl, if_pos (by simpa using hk)]
  · have := h i x (by omega) hxi j u hu
    rw [Array.getElem?_setIfInBounds, if_neg (by omega), Array.getElem?_setIfInBounds, if_neg (by omega)]
    exact this
theorem Fill.done {α : Type} {size : Nat} {enc : α → List Value} {cur : Array Value} {xs : List α} {k : Nat} (h : Fill size enc cur xs k) (hk : xs.length ≤ k) {w : World} {T : TypeId} {os : Array Obj} {d : Nat} :
    SL (more (w.alloc (.cells cur T)) os d) (more (w.alloc (.cells cur T)) os d).heap.size size enc (some ⟨w.heap.size, 0, none⟩) xs :=
  sl_of_block (heap_more_alloc w _ os d) fun i x hx j u hu => h i x (by have := (List.getElem?_eq_some_iff.1 hx).1; omega) hx j u hu
theorem below_step {B : Nat} {w w1 w2 : World} (h : Below B w w1) (g : Below w1.heap.size w1 w2) (hB : B ≤ w.heap.size) : Below B w w2 := h.trans (g.mono (Nat.le_trans hB h.size))
theorem below_dn (w : World) (n : Nat) : Below w.heap.size w (w.drewN n) := ⟨rfl, rfl, rfl, Nat.le_refl _, fun _ _ => rfl⟩
theorem below_dnB {B : Nat} {a w : World} (h : Below B a w) (n : Nat) : Below B a (w.drewN n) := ⟨h.os, h.tape, h.output, h.size, h.block⟩
theorem more_drewN (w : World) (os : Array Obj) (d n : Nat) : (more w os d).drewN n = more w os (d + n) := rfl
/-- A call in a region that draws, of a callee that leaves the world alone. -/
theorem quietW {P : Program} {f : FuncId} {args : Array Value} {w : World} {n : Nat} {v : Value}
    (h : Calls P f args (w.drewN n) fun e w' => e = .returned v ∧ w.drewN n = w') : Calls P f args (w.drewN n) fun e w'' => e = .returned v ∧ ∃ m, w'' = w.drewN m :=
  h.mono fun _ _ ⟨he, hm⟩ => ⟨he, n, hm.symm⟩
end Go.Proofs.Ytaahfebnbholmaa.X
