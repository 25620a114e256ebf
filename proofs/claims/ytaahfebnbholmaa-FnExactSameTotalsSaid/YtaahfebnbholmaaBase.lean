/- Words for the walks of this seat: how slices of numbers and of structs read, what is kept; small lemmas. Conditions: none. -/
import Derived.Test.YtaahfebnbholmaaProg
import Derived.WalkKit
import Derived.KernelRfl
import Derived.WideLaws
import Derived.Deep.QuietTactic
import Derived.BigQuiet
import Derived.Laws.Rows
import Derived.WalkLawsBesides
import Derived.WalkSpells
import Derived.LoopN
import Derived.Deep.Draws
import Derived.Deep.LoopGhost
import Derived.Deep.DeepCutAuto
import Derived.Deep.CutBlock
import Derived.Deep.DeepFit
import Derived.Lib.Hide
import Derived.Deep.RegionHeld3
import Derived.Laws.OwnMore
import Derived.Laws.MakeOwn
import Derived.Maps.AppendAt
namespace Go.Proofs.Ytaahfebnbholmaa.X
open Go.RowKit

/-- Behind a call that leaves all old memory as it was. -/
theorem bcell {W w1 : World} (hb : Below W.heap.size W w1) : (∀ b o, b < W.heap.size → w1.cell? ⟨b, o, none⟩ = W.cell? ⟨b, o, none⟩) ∧ (∀ b o, b < W.heap.size → w1.frozen? ⟨b, o, none⟩ = W.frozen? ⟨b, o, none⟩) :=
  ⟨fun b o h => hb.cell (p := ⟨b, o, none⟩) h, fun b o h => hb.frozen (p := ⟨b, o, none⟩) h⟩

/-- The slice at A holds the elements xs, each of size cells; it lies below block B. -/
def SL {α : Type} (w : World) (B size : Nat) (enc : α → List Value) (A : Option Addr) (xs : List α) : Prop :=
  0 < xs.length → ∃ b off, A = some ⟨b, off, none⟩ ∧ b < B ∧ ∀ (i : Nat) (x : α), xs[i]? = some x → ∀ (j : Nat) (u : Value), (enc x)[j]? = some u → w.cell? ⟨b, off + i * size + j, none⟩ = some u

theorem SL.keep {α : Type} {w w' : World} {B B' C size : Nat} {enc : α → List Value} {A : Option Addr} {xs : List α} (h : SL w B size enc A xs) (hb : Below C w w') (hC : B ≤ C) (hB : B ≤ B') : SL w' B' size enc A xs := by
  intro hn
  obtain ⟨b, off, e, hlt, hc⟩ := h hn
  exact ⟨b, off, e, by omega, fun i x hx j u hu => (hb.cell (p := ⟨b, _, none⟩) (by show b < C; omega)).trans (hc i x hx j u hu)⟩

/-- One cell an element: the cell of element k. -/
theorem SL.at1 {α : Type} {w : World} {B : Nat} {enc : α → Value} {A : Option Addr} {xs : List α} (h : SL w B 1 (fun x => [enc x]) A xs) {k : Nat} (hk : k < xs.length) :
    ∃ b off, A = some ⟨b, off, none⟩ ∧ b < B ∧ w.cell? ⟨b, off + k, none⟩ = some (enc xs[k]) := by
  obtain ⟨b, off, e, hlt, hc⟩ := h (by omega)
  refine ⟨b, off, e, hlt, ?_⟩
  have := hc k xs[k] (List.getElem?_eq_getElem hk) 0 (enc xs[k]) rfl
  simpa using this

/-- Two cells an element. -/
theorem SL.at2 {α : Type} {w : World} {B : Nat} {e0 e1 : α → Value} {A : Option Addr} {xs : List α} (h : SL w B 2 (fun x => [e0 x, e1 x]) A xs) {k : Nat} (hk : k < xs.length) :
    ∃ b off, A = some ⟨b, off, none⟩ ∧ b < B ∧ w.cell? ⟨b, off + k * 2, none⟩ = some (e0 xs[k]) ∧ w.cell? ⟨b, off + k * 2 + 1, none⟩ = some (e1 xs[k]) := by
  obtain ⟨b, off, e, hlt, hc⟩ := h (by omega)
  refine ⟨b, off, e, hlt, ?_, ?_⟩
  · have := hc k xs[k] (List.getElem?_eq_getElem hk) 0 (e0 xs[k]) rfl
    simpa using this
  · exact hc k xs[k] (List.getElem?_eq_getElem hk) 1 (e1 xs[k]) rfl

/-- The world w with the blocks os behind its own; d answers have been drawn. -/
def more (w : World) (os : Array Obj) (d : Nat) : World := { w with heap := w.heap ++ os, drawn := d }
section
variable (w : World) (os ps : Array Obj) (d e : Nat)
@[go_sem, simp] theorem size_more : (more w os d).heap.size = w.heap.size + os.size := by simp [more]
@[go_sem] theorem more_more : more (more w os d) ps e = more w (os ++ ps) e := by simp [more, Array.append_assoc]
@[go_sem] theorem more_drew : (more w os d).drew = more w os (d + 1) := rfl
theorem heap_more (k : Nat) (hk : k < w.heap.size) : (more w os d).heap[k]? = w.heap[k]? := by
  simp [more, Array.getElem?_append, hk]
@[go_sem] theorem cell_more (n i : Nat) (hn : n < w.heap.size) : (more w os d).cell? ⟨n, i, none⟩ = w.cell? ⟨n, i, none⟩ := World.cell?_of_block (heap_more w os d n hn)
@[go_sem] theorem frozen_more (n i : Nat) (hn : n < w.heap.size) : (more w os d).frozen? ⟨n, i, none⟩ = w.frozen? ⟨n, i, none⟩ := World.frozen?_of_block (heap_more w os d n hn)
@[go_sem] theorem setCell_more (n i : Nat) (v : Value) (hn : n < w.heap.size) : (more w os d).setCell ⟨n, i, none⟩ v = more (w.setCell ⟨n, i, none⟩ v) os d := by
  simp only [more, World.setCell]
  congr 1
  apply Array.ext_getElem?
  intro k
  by_cases hk : k < w.heap.size
  · rw [Array.getElem?_append, if_pos (by simpa using hk), Array.getElem?_modify, Array.getElem?_modify, Array.getElem?_append, if_pos hk]
  · have hne : ¬ n = k := by omega
    simp [Array.getElem?_modify, Array.getElem?_append, hk, hne]
theorem below_more {B : Nat} (hB : B ≤ w.heap.size) : Below B w (more w os d) :=
  ⟨rfl, rfl, rfl, by simp, fun k hk => heap_more w os d k (by omega)⟩
end
/-- What leaves all old memory as it was lays new blocks behind it, no more. -/
theorem more_of {w w' : World} (h : Below w.heap.size w w') : ∃ os d, w' = more w os d := by
  refine ⟨w'.heap.extract w.heap.size w'.heap.size, w'.drawn, ?_⟩
  have hs := h.size
  have hh : w'.heap = w.heap ++ w'.heap.extract w.heap.size w'.heap.size := by
    apply Array.ext_getElem?
    intro k
    by_cases hk : k < w.heap.size
    · rw [h.block k hk, Array.getElem?_append, if_pos hk]
    · rw [Array.getElem?_append, if_neg hk, Array.getElem?_extract]
      by_cases hk2 : k < w'.heap.size
      · rw [if_pos (by omega)]; congr 1; omega
      · rw [if_neg (by omega), Array.getElem?_eq_none (by omega)]
  obtain ⟨hp, tp, dr, o, out⟩ := w'
  obtain ⟨hp0, tp0, dr0, o0, out0⟩ := w
  have h1 := h.os
  have h2 := h.tape
  have h3 := h.output
  simp only at h1 h2 h3 hh
  subst h1 h2 h3
  simp only [more]
  congr 1
end Go.Proofs.Ytaahfebnbholmaa.X
