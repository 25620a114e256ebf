/- Words for the walks: slices that lie below a block, worlds with new blocks behind, arrays of eight numbers. Conditions: none. -/
import Derived.Test.YtinjlofefmjolaaProg
import Derived.WalkKit
import Derived.KernelRfl
import Derived.WideLaws
import Derived.Deep.QuietTactic
import Derived.BigQuiet
import Derived.Laws.Rows
import Derived.WalkLawsBesides
import Derived.WalkSpells
import Derived.LoopN
import Derived.Deep.Draws
import Derived.Deep.LoopGhost
import Derived.Deep.DeepCutAuto
import Derived.Deep.CutBlock
import Derived.Deep.DeepFit
import Derived.Lib.Hide
import Derived.Deep.RegionHeld3
import Derived.Deep.DrawnRows
import Derived.Deep.WholeRow
import Derived.Laws.OwnMore
import Derived.Laws.MakeOwn
import Derived.Maps.AppendAt
import Derived.Handy
namespace Go.Proofs.Ytinjlofefmjolaa.X
open Go.RowKit
set_option linter.unusedVariables false
set_option linter.unusedSimpArgs false
set_option maxRecDepth 100000
@[go_sem] theorem lt_add1 {a b x0 : Nat} (h : a < b) : (a < b + x0) = True := by simp; omega
@[go_sem] theorem lt_add2 {a b x0 x1 : Nat} (h : a < b) : (a < b + x0 + x1) = True := by simp; omega
@[go_sem] theorem lt_add3 {a b x0 x1 x2 : Nat} (h : a < b) : (a < b + x0 + x1 + x2) = True := by simp; omega
@[go_sem] theorem lt_add4 {a b x0 x1 x2 x3 : Nat} (h : a < b) : (a < b + x0 + x1 + x2 + x3) = True := by simp; omega
@[go_sem] theorem lt_add5 {a b x0 x1 x2 x3 x4 : Nat} (h : a < b) : (a < b + x0 + x1 + x2 + x3 + x4) = True := by simp; omega
@[go_sem] theorem lt_add6 {a b x0 x1 x2 x3 x4 x5 : Nat} (h : a < b) : (a < b + x0 + x1 + x2 + x3 + x4 + x5) = True := by simp; omega
@[go_sem] theorem lt_add7 {a b x0 x1 x2 x3 x4 x5 x6 : Nat} (h : a < b) : (a < b + x0 + x1 + x2 + x3 + x4 + x5 + x6) = True := by simp; omega
@[go_sem] theorem lt_add8 {a b x0 x1 x2 x3 x4 x5 x6 x7 : Nat} (h : a < b) : (a < b + x0 + x1 + x2 + x3 + x4 + x5 + x6 + x7) = True := by simp; omega
@[go_sem] theorem lt_add9 {a b x0 x1 x2 x3 x4 x5 x6 x7 x8 : Nat} (h : a < b) : (a < b + x0 + x1 + x2 + x3 + x4 + x5 + x6 + x7 + x8) = True := by simp; omega
@[go_sem] theorem lt_add10 {a b x0 x1 x2 x3 x4 x5 x6 x7 x8 x9 : Nat} (h : a < b) : (a < b + x0 + x1 + x2 + x3 + x4 + x5 + x6 + x7 + x8 + x9) = True := by simp; omega
@[go_sem] theorem lt_add11 {a b x0 x1 x2 x3 x4 x5 x6 x7 x8 x9 x10 : Nat} (h : a < b) : (a < b + x0 + x1 + x2 + x3 + x4 + x5 + x6 + x7 + x8 + x9 + x10) = True := by simp; omega
@[go_sem] theorem lt_add12 {a b x0 x1 x2 x3 x4 x5 x6 x7 x8 x9 x10 x11 : Nat} (h : a < b) : (a < b + x0 + x1 + x2 + x3 + x4 + x5 + x6 + x7 + x8 + x9 + x10 + x11) = True := by simp; omega
@[go_sem] theorem lt_add13 {a b x0 x1 x2 x3 x4 x5 x6 x7 x8 x9 x10 x11 x12 : Nat} (h : a < b) : (a < b + x0 + x1 + x2 + x3 + x4 + x5 + x6 + x7 + x8 + x9 + x10 + x11 + x12) = True := by simp; omega
@[go_sem] theorem lt_add14 {a b x0 x1 x2 x3 x4 x5 x6 x7 x8 x9 x10 x11 x12 x13 : Nat} (h : a < b) : (a < b + x0 + x1 + x2 + x3 + x4 + x5 + x6 + x7 + x8 + x9 + x10 + x11 + x12 + x13) = True := by simp; omega
@[go_sem] theorem lt_add15 {a b x0 x1 x2 x3 x4 x5 x6 x7 x8 x9 x10 x11 x12 x13 x14 : Nat} (h : a < b) : (a < b + x0 + x1 + x2 + x3 + x4 + x5 + x6 + x7 + x8 + x9 + x10 + x11 + x12 + x13 + x14) = True := by simp; omega
@[go_sem] theorem lt_add16 {a b x0 x1 x2 x3 x4 x5 x6 x7 x8 x9 x10 x11 x12 x13 x14 x15 : Nat} (h : a < b) : (a < b + x0 + x1 + x2 + x3 + x4 + x5 + x6 + x7 + x8 + x9 + x10 + x11 + x12 + x13 + x14 + x15) = True := by simp; omega
@[go_sem] theorem lt_add17 {a b x0 x1 x2 x3 x4 x5 x6 x7 x8 x9 x10 x11 x12 x13 x14 x15 x16 : Nat} (h : a < b) : (a < b + x0 + x1 + x2 + x3 + x4 + x5 + x6 + x7 + x8 + x9 + x10 + x11 + x12 + x13 + x14 + x15 + x16) = True := by simp; omega
@[go_sem] theorem lt_add18 {a b x0 x1 x2 x3 x4 x5 x6 x7 x8 x9 x10 x11 x12 x13 x14 x15 x16 x17 : Nat} (h : a < b) : (a < b + x0 + x1 + x2 + x3 + x4 + x5 + x6 + x7 + x8 + x9 + x10 + x11 + x12 + x13 + x14 + x15 + x16 + x17) = True := by simp; omega
@[go_sem] theorem lt_add19 {a b x0 x1 x2 x3 x4 x5 x6 x7 x8 x9 x10 x11 x12 x13 x14 x15 x16 x17 x18 : Nat} (h : a < b) : (a < b + x0 + x1 + x2 + x3 + x4 + x5 + x6 + x7 + x8 + x9 + x10 + x11 + x12 + x13 + x14 + x15 + x16 + x17 + x18) = True := by simp; omega
@[go_sem] theorem lt_add20 {a b x0 x1 x2 x3 x4 x5 x6 x7 x8 x9 x10 x11 x12 x13 x14 x15 x16 x17 x18 x19 : Nat} (h : a < b) : (a < b + x0 + x1 + x2 + x3 + x4 + x5 + x6 + x7 + x8 + x9 + x10 + x11 + x12 + x13 + x14 + x15 + x16 + x17 + x18 + x19) = True := by simp; omega
@[go_sem] theorem lt_add21 {a b x0 x1 x2 x3 x4 x5 x6 x7 x8 x9 x10 x11 x12 x13 x14 x15 x16 x17 x18 x19 x20 : Nat} (h : a < b) : (a < b + x0 + x1 + x2 + x3 + x4 + x5 + x6 + x7 + x8 + x9 + x10 + x11 + x12 + x13 + x14 + x15 + x16 + x17 + x18 + x19 + x20) = True := by simp; omega
@[go_sem] theorem lt_add22 {a b x0 x1 x2 x3 x4 x5 x6 x7 x8 x9 x10 x11 x12 x13 x14 x15 x16 x17 x18 x19 x20 x21 : Nat} (h : a < b) : (a < b + x0 + x1 + x2 + x3 + x4 + x5 + x6 + x7 + x8 + x9 + x10 + x11 + x12 + x13 + x14 + x15 + x16 + x17 + x18 + x19 + x20 + x21) = True := by simp; omega
@[go_sem] theorem lt_add23 {a b x0 x1 x2 x3 x4 x5 x6 x7 x8 x9 x10 x11 x12 x13 x14 x15 x16 x17 x18 x19 x20 x21 x22 : Nat} (h : a < b) : (a < b + x0 + x1 + x2 + x3 + x4 + x5 + x6 + x7 + x8 + x9 + x10 + x11 + x12 + x13 + x14 + x15 + x16 + x17 + x18 + x19 + x20 + x21 + x22) = True := by simp; omega
@[go_sem] theorem lt_add24 {a b x0 x1 x2 x3 x4 x5 x6 x7 x8 x9 x10 x11 x12 x13 x14 x15 x16 x17 x18 x19 x20 x21 x22 x23 : Nat} (h : a < b) : (a < b + x0 + x1 + x2 + x3 + x4 + x5 + x6 + x7 + x8 + x9 + x10 + x11 + x12 + x13 + x14 + x15 + x16 + x17 + x18 + x19 + x20 + x21 + x22 + x23) = True := by simp; omega
@[go_sem] theorem lt_add25 {a b x0 x1 x2 x3 x4 x5 x6 x7 x8 x9 x10 x11 x12 x13 x14 x15 x16 x17 x18 x19 x20 x21 x22 x23 x24 : Nat} (h : a < b) : (a < b + x0 + x1 + x2 + x3 + x4 + x5 + x6 + x7 + x8 + x9 + x10 + x11 + x12 + x13 + x14 + x15 + x16 + x17 + x18 + x19 + x20 + x21 + x22 + x23 + x24) = True := by simp; omega
@[go_sem] theorem lt_add26 {a b x0 x1 x2 x3 x4 x5 x6 x7 x8 x9 x10 x11 x12 x13 x14 x15 x16 x17 x18 x19 x20 x21 x22 x23 x24 x25 : Nat} (h : a < b) : (a < b + x0 + x1 + x2 + x3 + x4 + x5 + x6 + x7 + x8 + x9 + x10 + x11 + x12 + x13 + x14 + x15 + x16 + x17 + x18 + x19 + x20 + x21 + x22 + x23 + x24 + x25) = True := by simp; omega
@[go_sem] theorem lt_add27 {a b x0 x1 x2 x3 x4 x5 x6 x7 x8 x9 x10 x11 x12 x13 x14 x15 x16 x17 x18 x19 x20 x21 x22 x23 x24 x25 x26 : Nat} (h : a < b) : (a < b + x0 + x1 + x2 + x3 + x4 + x5 + x6 + x7 + x8 + x9 + x10 + x11 + x12 + x13 + x14 + x15 + x16 + x17 + x18 + x19 + x20 + x21 + x22 + x23 + x24 + x25 + x26) = True := by simp; omega
@[go_sem] theorem lt_add28 {a b x0 x1 x2 x3 x4 x5 x6 x7 x8 x9 x10 x11 x12 x13 x14 x15 x16 x17 x18 x19 x20 x21 x22 x23 x24 x25 x26 x27 : Nat} (h : a < b) : (a < b + x0 + x1 + x2 + x3 + x4 + x5 + x6 + x7 + x8 + x9 + x10 + x11 + x12 + x13 + x14 + x15 + x16 + x17 + x18 + x19 + x20 + x21 + x22 + x23 + x24 + x25 + x26 + x27) = True := by simp; omega
@[go_sem] theorem lt_add29 {a b x0 x1 x2 x3 x4 x5 x6 x7 x8 x9 x10 x11 x12 x13 x14 x15 x16 x17 x18 x19 x20 x21 x22 x23 x24 x25 x26 x27 x28 : Nat} (h : a < b) : (a < b + x0 + x1 + x2 + x3 + x4 + x5 + x6 + x7 + x8 + x9 + x10 + x11 + x12 + x13 + x14 + x15 + x16 + x17 + x18 + x19 + x20 + x21 + x22 + x23 + x24 + x25 + x26 + x27 + x28) = True := by simp; omega
@[go_sem] theorem lt_add30 {a b x0 x1 x2 x3 x4 x5 x6 x7 x8 x9 x10 x11 x12 x13 x14 x15 x16 x17 x18 x19 x20 x21 x22 x23 x24 x25 x26 x27 x28 x29 : Nat} (h : a < b) : (a < b + x0 + x1 + x2 + x3 + x4 + x5 + x6 + x7 + x8 + x9 + x10 + x11 + x12 + x13 + x14 + x15 + x16 + x17 + x18 + x19 + x20 + x21 + x22 + x23 + x24 + x25 + x26 + x27 + x28 + x29) = True := by simp; omega
theorem lt_size {B : Nat} {W w : World} (hb : Below B W w) {b o : Nat} {v : Value} (h : W.cell? ⟨b, o, none⟩ = some v) : b < w.heap.size := by
  have h1 : b < W.heap.size := block_lt_of_cell h
  have := hb.size
  omega
/-- element i of a list of numbers -/
def el (xs : List Int) (i : Int) : Int := xs.getD i.toNat 0
theorem el_at {xs : List Int} {k : Nat} (hk : k < xs.length) : el xs k = xs[k] := by
  unfold el; rw [Int.toNat_natCast, List.getD_eq_getElem?_getD, List.getElem?_eq_getElem hk]; rfl
/-- The slice at A holds the elements xs, each of size cells; it lies in W, below block B. -/
def SL {α : Type} (w : World) (B size : Nat) (enc : α → List Value) (A : Option Addr) (xs : List α) : Prop :=
  0 < xs.length → ∃ b off, A = some ⟨b, off, none⟩ ∧ b < B ∧ ∀ (i : Nat) (x : α), xs[i]? = some x → ∀ (j : Nat) (u : Value), (enc x)[j]? = some u → w.cell? ⟨b, off + i * size + j, none⟩ = some u
theorem SL.keep {α : Type} {w w' : World} {B B' C size : Nat} {enc : α → List Value} {A : Option Addr} {xs : List α} (h : SL w B size enc A xs) (hb : Below C w w') (hC : B ≤ C) (hB : B ≤ B') : SL w' B' size enc A xs := by
  intro hn
  obtain ⟨b, off, e, hlt, hc⟩ := h hn
  exact ⟨b, off, e, by omega, fun i x hx j u hu => (hb.cell (p := ⟨b, _, none⟩) (by show b < C; omega)).trans (hc i x hx j u hu)⟩
/-- The slice at A holds the numbers xs of kind k; it lies in W, below block B. -/
structure Nums (k : IntKind) (W : World) (B : Nat) (A : Option Addr) (xs : List Int) : Prop where
  sl : SL W B 1 (fun x => [Value.int k x]) A xs
  len : xs.length ≤ 1048576
  le : B ≤ W.heap.size
theorem Nums.at {q : IntKind} {W w : World} {B : Nat} {A : Option Addr} {xs : List Int} (h : Nums q W B A xs) (hb : Below B W w) {k : Nat} (hk : k < xs.length) :
    ∃ b off, A = some ⟨b, off, none⟩ ∧ b < w.heap.size ∧ w.cell? ⟨b, off + k, none⟩ = some (.int q (el xs k)) := by
  obtain ⟨b, off, e, hlt, hc⟩ := h.sl (by omega)
  have hc := hc k xs[k] (List.getElem?_eq_getElem hk) 0 _ rfl
  rw [Nat.mul_one, Nat.add_zero] at hc
  refine ⟨b, off, e, lt_size hb hc, ?_⟩
  rw [el_at hk]
  exact (hb.cell (p := ⟨b, _, none⟩) hlt).trans hc
theorem Nums.bsz {q : IntKind} {W w : World} {B : Nat} {A : Option Addr} {xs : List Int} (h : Nums q W B A xs) (hb : Below B W w) : B ≤ w.heap.size := Nat.le_trans h.le hb.size
/-- .. the first numbers alone -/
theorem Nums.take {q : IntKind} {W : World} {B : Nat} {A : Option Addr} {xs : List Int} (h : Nums q W B A xs) (m : Nat) : Nums q W B A (xs.take m) := by
  refine ⟨fun hn => ?_, by have := h.len; rw [List.length_take]; omega, h.le⟩
  have h0 : 0 < xs.length := by rw [List.length_take] at hn; omega
  obtain ⟨b, off, e, hlt, hc⟩ := h.sl h0
  refine ⟨b, off, e, hlt, fun i x hx j u hu => hc i x ?_ j u hu⟩
  rw [List.getElem?_take] at hx
  split at hx
  · exact hx
  · cases hx
/-- element i of a list of pairs -/
def p1 (xs : List (Int × Int)) (i : Int) : Int := (xs.getD i.toNat (0, 0)).1
def p2 (xs : List (Int × Int)) (i : Int) : Int := (xs.getD i.toNat (0, 0)).2
theorem p1_at {xs : List (Int × Int)} {k : Nat} (hk : k < xs.length) : p1 xs k = xs[k].1 := by
  unfold p1; rw [Int.toNat_natCast, List.getD_eq_getElem?_getD, List.getElem?_eq_getElem hk]; rfl
theorem p2_at {xs : List (Int × Int)} {k : Nat} (hk : k < xs.length) : p2 xs k = xs[k].2 := by
  unfold p2; rw [Int.toNat_natCast, List.getD_eq_getElem?_getD, List.getElem?_eq_getElem hk]; rfl
def encP (k0 k1 : IntKind) : Int × Int → List Value := fun x => [Value.int k0 x.1, Value.int k1 x.2]
/-- The slice at A holds the pairs xs; it lies in W, below block B. -/
structure Prs (k0 k1 : IntKind) (W : World) (B : Nat) (A : Option Addr) (xs : List (Int × Int)) : Prop where
  sl : SL W B 2 (encP k0 k1) A xs
  len : xs.length ≤ 1048576
  le : B ≤ W.heap.size
theorem Prs.bsz {k0 k1 : IntKind} {W w : World} {B : Nat} {A : Option Addr} {xs : List (Int × Int)} (h : Prs k0 k1 W B A xs) (hb : Below B W w) : B ≤ w.heap.size := Nat.le_trans h.le hb.size
theorem Prs.at {k0 k1 : IntKind} {W w : World} {B : Nat} {A : Option Addr} {xs : List (Int × Int)} (h : Prs k0 k1 W B A xs) (hb : Below B W w) {k : Nat} (hk : k < xs.length) :
    ∃ b off, A = some ⟨b, off, none⟩ ∧ b < w.heap.size ∧ w.cell? ⟨b, off + k * 2, none⟩ = some (.int k0 (p1 xs k)) ∧ w.cell? ⟨b, off + k * 2 + 1, none⟩ = some (.int k1 (p2 xs k)) := by
  obtain ⟨b, off, e, hlt, hc⟩ := h.sl (by omega)
  have h0 := hc k xs[k] (List.getElem?_eq_getElem hk) 0 (.int k0 xs[k].1) rfl
  have h1 := hc k xs[k] (List.getElem?_eq_getElem hk) 1 (.int k1 xs[k].2) rfl
  rw [Nat.add_zero] at h0
  refine ⟨b, off, e, lt_size hb h0, ?_, ?_⟩
  · rw [p1_at hk]; exact (hb.cell (p := ⟨b, _, none⟩) hlt).trans h0
  · rw [p2_at hk]; exact (hb.cell (p := ⟨b, _, none⟩) hlt).trans h1
theorem addr_same {b off b' off' : Nat} (h : (some ⟨b, off, none⟩ : Option Addr) = some ⟨b', off', none⟩) : b = b' ∧ off = off' := by
  injection h with h
  injection h with h1 h2
  exact ⟨h1, h2⟩
/-- The call hands back a slice of new memory that holds the pairs xs. -/
def RetP (k0 k1 : IntKind) (xs : List (Int × Int)) (w : World) (e : Ending) (w' : World) : Prop :=
  ∃ A d, e = .returned (.slice A xs.length d) ∧ Prs k0 k1 w' w'.heap.size A xs ∧ Below w.heap.size w w'
def b8 (xs : List Int) : Prop := ∀ i : Int, 0 ≤ el xs i ∧ el xs i ≤ 255

/-- The world w with the blocks os behind its own; d answers have been drawn. -/
def mo (w : World) (os : Array Obj) (d : Nat) : World := { w with heap := w.heap ++ os, drawn := d }
section
variable (w : World) (os ps : Array Obj) (d e : Nat)
@[go_sem, simp] theorem size_mo : (mo w os d).heap.size = w.heap.size + os.size := by simp [mo]
theorem heap_mo (k : Nat) (hk : k < w.heap.size) : (mo w os d).heap[k]? = w.heap[k]? := by
  simp [mo, Array.getElem?_append, hk]
@[go_sem] theorem cell_mo (n i : Nat) (hn : n < w.heap.size) : (mo w os d).cell? ⟨n, i, none⟩ = w.cell? ⟨n, i, none⟩ := World.cell?_of_block (heap_mo w os d n hn)
@[go_sem] theorem frozen_mo (n i : Nat) (hn : n < w.heap.size) : (mo w os d).frozen? ⟨n, i, none⟩ = w.frozen? ⟨n, i, none⟩ := World.frozen?_of_block (heap_mo w os d n hn)
@[go_sem] theorem setCell_mo (n i : Nat) (v : Value) (hn : n < w.heap.size) : (mo w os d).setCell ⟨n, i, none⟩ v = mo (w.setCell ⟨n, i, none⟩ v) os d := by
  simp only [mo, World.setCell]
  congr 1
  apply Array.ext_getElem?
  intro k
  by_cases hk : k < w.heap.size
  · rw [Array.getElem?_append, if_pos (by simpa using hk), Array.getElem?_modify, Array.getElem?_modify, Array.getElem?_append, if_pos hk]
  · have hne : ¬ n = k := by omega
    simp [Array.getElem?_modify, Array.getElem?_append, hk, hne]
theorem below_mo {B : Nat} (hB : B ≤ w.heap.size) : Below B w (mo w os d) :=
  ⟨rfl, rfl, rfl, by simp, fun k hk => heap_mo w os d k (by omega)⟩
end
/-- What leaves all old memory as it was lays new blocks behind it, no more. -/
theorem mo_of {w w' : World} (h : Below w.heap.size w w') : ∃ os d, w' = mo w os d := by
  refine ⟨w'.heap.extract w.heap.size w'.heap.size, w'.drawn, ?_⟩
  have hs := h.size
  have hh : w'.heap = w.heap ++ w'.heap.extract w.heap.size w'.heap.size := by
    apply Array.ext_getElem?
    intro k
    by_cases hk : k < w.heap.size
    · rw [h.block k hk, Array.getElem?_append, if_pos hk]
    · rw [Array.getElem?_append, if_neg hk, Array.getElem?_extract]
      by_cases hk2 : k < w'.heap.size
      · rw [if_pos (by omega)]; congr 1; omega
      · rw [if_neg (by omega), Array.getElem?_eq_none (by omega)]
  obtain ⟨hp, tp, dr, o, out⟩ := w'
  obtain ⟨hp0, tp0, dr0, o0, out0⟩ := w
  have h1 := h.os
  have h2 := h.tape
  have h3 := h.output
  simp only at h1 h2 h3 hh
  subst h1 h2 h3
  simp only [mo]
  congr 1
theorem mo_nil (w : World) : mo w #[] w.drawn = w := by simp [mo]
theorem mo_mo (w : World) (os ps : Array Obj) (d e : Nat) : mo (mo w os d) ps e = mo w (os ++ ps) e := by simp [mo, Array.append_assoc]
theorem mo_alloc (w : World) (os : Array Obj) (d : Nat) (o : Obj) : (mo w os d).alloc o = mo w (os.push o) d := by simp [mo, World.alloc]
theorem mo_drew (w : World) (os : Array Obj) (d : Nat) : (mo w os d).drew = mo w os (d + 1) := rfl
theorem mo_drewN (w : World) (os : Array Obj) (d n : Nat) : (mo w os d).drewN n = mo w os (d + n) := rfl
theorem below_dn {B : Nat} {a w : World} (h : Below B a w) (n : Nat) : Below B a (w.drewN n) := ⟨h.os, h.tape, h.output, h.size, h.block⟩
theorem drewN_mo (w : World) (n : Nat) : w.drewN n = mo w #[] (w.drawn + n) := by simp [mo, World.drewN]

/-- The worlds behind w: a region that draws, of callees that leave old memory as it was. -/
structure Q1 where
  os : Array Obj
  d : Nat
instance : Inhabited Q1 := ⟨⟨#[], 0⟩⟩
def mq (w : World) (p : Q1) : World := mo w p.os p.d
section
variable (w : World) (p : Q1)
@[go_sem, simp] theorem size_mq : (mq w p).heap.size = w.heap.size + p.os.size := size_mo _ _ _
@[go_sem] theorem cell_mq (n i : Nat) (hn : n < w.heap.size) : (mq w p).cell? ⟨n, i, none⟩ = w.cell? ⟨n, i, none⟩ := cell_mo _ _ _ _ _ hn
@[go_sem] theorem frozen_mq (n i : Nat) (hn : n < w.heap.size) : (mq w p).frozen? ⟨n, i, none⟩ = w.frozen? ⟨n, i, none⟩ := frozen_mo _ _ _ _ _ hn
theorem below_mq {B : Nat} (hB : B ≤ w.heap.size) : Below B w (mq w p) := below_mo _ _ _ hB
end
theorem wp_region_mq {P : Program} {id : Nat} {Q : Exit → Act → World → Prop} {a : Act} {w : World} {l : List Oper} (hm : P.follows .mixedOrders = true) (hB : Region.lexB .any l.toArray = true)
    (h : wpQuiet P l.toArray (fun w' => ∃ p, w' = mq w p) (fun a' => ∀ w', (∃ p, w' = mq w p) → Q .normal a' w') l a) : (Code.region id l.toArray true).wp P Q a w :=
  wp_region_quiet (C := fun w' => ∃ p, w' = mq w p) hm hB ⟨⟨#[], w.drawn + 1⟩, by simp [mq, mo]⟩ (by simpa using h)
/-- A callee in such a region. -/
theorem quietQ {P : Program} {f : FuncId} {args : Array Value} {w : World} {p : Q1} {v : Value}
    (h : Calls P f args (mq w p) fun e w' => e = .returned v ∧ Below (mq w p).heap.size (mq w p) w') : Calls P f args (mq w p) fun e w'' => e = .returned v ∧ ∃ p', w'' = mq w p' :=
  h.mono fun _ _ ⟨he, hm⟩ => by
    obtain ⟨os, d, rfl⟩ := mo_of hm
    exact ⟨he, ⟨p.os ++ os, d⟩, mo_mo _ _ _ _ _⟩
theorem quietS {P : Program} {f : FuncId} {args : Array Value} {w : World} {p : Q1} {v : Value}
    (h : Calls P f args (mq w p) fun e w' => e = .returned v ∧ mq w p = w') : Calls P f args (mq w p) fun e w'' => e = .returned v ∧ ∃ p', w'' = mq w p' :=
  h.mono fun _ _ ⟨he, hm⟩ => ⟨he, p, hm.symm⟩
theorem quietQb {P : Program} {f : FuncId} {args : Array Value} {w : World} {p : Q1} {v r : Bool}
    (h : Calls P f args (mq w p) fun e w' => e = .returned (.bool v) ∧ Below (mq w p).heap.size (mq w p) w') (hv : v = r) : Calls P f args (mq w p) fun e w'' => e = .returned (.bool r) ∧ ∃ p', w'' = mq w p' := by
  subst hv; exact quietQ h
theorem quietSb {P : Program} {f : FuncId} {args : Array Value} {w : World} {p : Q1} {v r : Bool}
    (h : Calls P f args (mq w p) fun e w' => e = .returned (.bool v) ∧ mq w p = w') (hv : v = r) : Calls P f args (mq w p) fun e w'' => e = .returned (.bool r) ∧ ∃ p', w'' = mq w p' := by
  subst hv; exact quietS h
/-- The call hands back a slice of new memory that holds the numbers xs. -/
def RetN (k : IntKind) (xs : List Int) (w : World) (e : Ending) (w' : World) : Prop :=
  ∃ A d, e = .returned (.slice A xs.length d) ∧ Nums k w' w'.heap.size A xs ∧ Below w.heap.size w w'
theorem below_step {B : Nat} {w w1 w2 : World} (h : Below B w w1) (g : Below w1.heap.size w1 w2) (hB : B ≤ w.heap.size) : Below B w w2 := h.trans (g.mono (Nat.le_trans hB h.size))
theorem Prs.nb {k0 k1 : IntKind} {W w w' : World} {B : Nat} {A : Option Addr} {xs : List (Int × Int)} (h : Prs k0 k1 W B A xs) (hb : Below B W w) (g : Below w.heap.size w w') : Below B W w' := below_step hb g h.le
theorem Nums.nb {q : IntKind} {W w w' : World} {B : Nat} {A : Option Addr} {xs : List Int} (h : Nums q W B A xs) (hb : Below B W w) (g : Below w.heap.size w w') : Below B W w' := below_step hb g h.le
/-- The slice lies in blocks from n on. -/
def NewFrom (n : Nat) (A : Option Addr) : Prop := ∀ b off, A = some ⟨b, off, none⟩ → n ≤ b
theorem cell_swap {w w2 : World} {os : Array Obj} {d d2 b i : Nat} (hs : w2.heap.size = w.heap.size) (hb : w.heap.size ≤ b) : (mo w2 os d2).cell? ⟨b, i, none⟩ = (mo w os d).cell? ⟨b, i, none⟩ := by
  refine World.cell?_of_block ?_
  show (w2.heap ++ os)[b]? = (w.heap ++ os)[b]?
  rw [Array.getElem?_append, if_neg (by omega), Array.getElem?_append, if_neg (by omega), hs]
theorem SL.swap {α : Type} {w w2 : World} {size d d2 : Nat} {enc : α → List Value} {os : Array Obj} {A : Option Addr} {xs : List α} (h : SL (mo w os d) (mo w os d).heap.size size enc A xs) (hs : w2.heap.size = w.heap.size) (hn : NewFrom w.heap.size A) : SL (mo w2 os d2) (mo w2 os d2).heap.size size enc A xs := by
  intro h0
  obtain ⟨b, off, e, hlt, hc⟩ := h h0
  exact ⟨b, off, e, by simp only [size_mo] at *; omega, fun i x hx j u hu => (cell_swap hs (hn b off e)).trans (hc i x hx j u hu)⟩
theorem Nums.swap {q : IntKind} {w w2 : World} {d d2 : Nat} {os : Array Obj} {A : Option Addr} {xs : List Int} (h : Nums q (mo w os d) (mo w os d).heap.size A xs) (hs : w2.heap.size = w.heap.size) (hn : NewFrom w.heap.size A) : Nums q (mo w2 os d2) (mo w2 os d2).heap.size A xs := ⟨h.sl.swap hs hn, h.len, Nat.le_refl _⟩
theorem Prs.swap {k0 k1 : IntKind} {w w2 : World} {d d2 : Nat} {os : Array Obj} {A : Option Addr} {xs : List (Int × Int)} (h : Prs k0 k1 (mo w os d) (mo w os d).heap.size A xs) (hs : w2.heap.size = w.heap.size) (hn : NewFrom w.heap.size A) : Prs k0 k1 (mo w2 os d2) (mo w2 os d2).heap.size A xs := ⟨h.sl.swap hs hn, h.len, Nat.le_refl _⟩
/-- .. new memory. -/
def RetN2 (k : IntKind) (xs : List Int) (w : World) (e : Ending) (w' : World) : Prop :=
  ∃ A d, e = .returned (.slice A xs.length d) ∧ Nums k w' w'.heap.size A xs ∧ NewFrom w.heap.size A ∧ Below w.heap.size w w'
theorem retN_of {k : IntKind} {xs : List Int} {w : World} {e : Ending} {w' : World} : RetN2 k xs w e w' → RetN k xs w e w'
  | ⟨A, d, h1, h2, _, h3⟩ => ⟨A, d, h1, h2, h3⟩
def RetP2 (k0 k1 : IntKind) (xs : List (Int × Int)) (w : World) (e : Ending) (w' : World) : Prop :=
  ∃ A d, e = .returned (.slice A xs.length d) ∧ Prs k0 k1 w' w'.heap.size A xs ∧ NewFrom w.heap.size A ∧ Below w.heap.size w w'
theorem retP_of {k0 k1 : IntKind} {xs : List (Int × Int)} {w : World} {e : Ending} {w' : World} : RetP2 k0 k1 xs w e w' → RetP k0 k1 xs w e w'
  | ⟨A, d, h1, h2, _, h3⟩ => ⟨A, d, h1, h2, h3⟩
theorem sl_of_block {α : Type} {w : World} {g size : Nat} {enc : α → List Value} {xs : List α} {cs : Array Value} {T : TypeId} {fr : Nat × Nat} (hg : w.heap[g]? = some (.cells cs T fr))
    (h : ∀ (i : Nat) (x : α), xs[i]? = some x → ∀ (j : Nat) (u : Value), (enc x)[j]? = some u → cs[i * size + j]? = some u) : SL w w.heap.size size enc (some ⟨g, 0, none⟩) xs := by
  intro _
  refine ⟨g, 0, rfl, (Array.getElem?_eq_some_iff.1 hg).1, fun i x hx j u hu => ?_⟩
  rw [cell_of_row w g _ cs T fr hg, Nat.zero_add]
  exact h i x hx j u hu
theorem heap_mo_alloc (w : World) (o : Obj) (os : Array Obj) (d : Nat) : (mo (w.alloc o) os d).heap[w.heap.size]? = some o := by
  rw [heap_mo _ _ _ _ (by simp)]
  exact heap_alloc_new w o
/-- The first k elements of xs stand in the cells cur. -/
def Fill {α : Type} (size : Nat) (enc : α → List Value) (cur : Array Value) (xs : List α) (k : Nat) : Prop :=
  ∀ (i : Nat) (x : α), i < k → xs[i]? = some x → ∀ (j : Nat) (u : Value), (enc x)[j]? = some u → cur[i * size + j]? = some u
theorem Fill.zero {α : Type} {size : Nat} {enc : α → List Value} {cur : Array Value} {xs : List α} : Fill size enc cur xs 0 := fun i x h => absurd h (by omega)
theorem Fill.step1 {k : IntKind} {cur : Array Value} {xs : List Int} {m : Nat} (h : Fill 1 (fun x => [Value.int k x]) cur xs m) (hk : m < cur.size) :
    Fill 1 (fun x => [Value.int k x]) (cur.setIfInBounds m (.int k (el xs m))) xs (m + 1) := by
  intro i x hi hxi j u hu
  have hj : j = 0 := by
    have := (List.getElem?_eq_some_iff.1 hu).1
    simpa using this
  subst hj
  by_cases e : i = m
  · subst e
    have hx := (List.getElem?_eq_some_iff.1 hxi).1
    rw [el_at hx]
    rw [List.getElem?_eq_getElem hx] at hxi
    injection hxi with hxi
    subst hxi
    simp at hu
    subst hu
    simp [Array.getElem?_setIfInBounds, hk]
  · have := h i x (by omega) hxi 0 u hu
    rw [Array.getElem?_setIfInBounds, if_neg (by omega)]
    exact this
theorem Fill.step2 {k0 k1 : IntKind} {cur : Array Value} {xs : List (Int × Int)} {m : Nat} (h : Fill 2 (encP k0 k1) cur xs m) (hk : m * 2 + 1 < cur.size) :
    Fill 2 (encP k0 k1) ((cur.setIfInBounds (m * 2) (.int k0 (p1 xs m))).setIfInBounds (m * 2 + 1) (.int k1 (p2 xs m))) xs (m + 1) := by
  intro i x hi hxi j u hu
  have hj : j < 2 := by
    have := (List.getElem?_eq_some_iff.1 hu).1
    simpa [encP] using this
  by_cases e : i = m
  · subst e
    have hx := (List.getElem?_eq_some_iff.1 hxi).1
    rw [p1_at hx, p2_at hx]
    rw [List.getElem?_eq_getElem hx] at hxi
    injection hxi with hxi
    subst hxi
    rcases (show j = 0 ∨ j = 1 by omega) with rfl | rfl
    · simp [encP] at hu
      subst hu
      rw [Array.getElem?_setIfInBounds, if_neg (by omega), Array.getElem?_setIfInBounds, if_pos (by omega), if_pos (by omega)]
    · simp [encP] at hu
      subst hu
      rw [Array.getElem?_setIfInBounds, if_pos rfl, if_pos (by simpa using hk)]
  · have := h i x (by omega) hxi j u hu
    rw [Array.getElem?_setIfInBounds, if_neg (by omega), Array.getElem?_setIfInBounds, if_neg (by omega)]
    exact this
theorem Fill.done {α : Type} {size : Nat} {enc : α → List Value} {cur : Array Value} {xs : List α} {k : Nat} (h : Fill size enc cur xs k) (hk : xs.length ≤ k) {w : World} {T : TypeId} {os : Array Obj} {d : Nat} :
    SL (mo (w.alloc (.cells cur T)) os d) (mo (w.alloc (.cells cur T)) os d).heap.size size enc (some ⟨w.heap.size, 0, none⟩) xs :=
  sl_of_block (heap_mo_alloc w _ os d) fun i x hx j u hu => h i x (by have := (List.getElem?_eq_some_iff.1 hx).1; omega) hx j u hu

/-- Of the world at hand no more is kept than S says. -/
theorem wp_at {P : Program} {c : Code} {Q : Exit → Act → World → Prop} {a : Act} (S : World → Prop) (w : World) (h : S w) (k : ∀ u, S u → Code.wp P c Q a u) : Code.wp P c Q a w := k w h
theorem heap_mo_at {w : World} {os : Array Obj} {d g : Nat} {o : Obj} (h : w.heap[g]? = some o) : (mo w os d).heap[g]? = some o := (heap_mo w os d g (Array.getElem?_eq_some_iff.1 h).1).trans h
theorem heap_alloc_at {w : World} {o : Obj} {g : Nat} (h : g = w.heap.size) : (w.alloc o).heap[g]? = some o := by subst h; exact heap_alloc_new w o
theorem heap_alloc_past {w : World} {o o' : Obj} {g : Nat} (h : w.heap[g]? = some o') : (w.alloc o).heap[g]? = some o' := (Below.heap_alloc w o g (Array.getElem?_eq_some_iff.1 h).1).trans h
/-- one of eight numbers set anew -/
def upd (f : Nat → Int) (k : Nat) (v : Int) : Nat → Int := fun i => if i = k then v else f i
theorem lt8 {k : Nat} (h : k < 8) : k = 0 ∨ k = 1 ∨ k = 2 ∨ k = 3 ∨ k = 4 ∨ k = 5 ∨ k = 6 ∨ k = 7 := by omega
theorem a8_at (q : IntKind) (f : Nat → Int) {k : Nat} (h : k < 8) : [Value.int q (f 0), Value.int q (f 1), Value.int q (f 2), Value.int q (f 3), Value.int q (f 4), Value.int q (f 5), Value.int q (f 6), Value.int q (f 7)][k]? = some (.int q (f k)) := by
  rcases lt8 h with rfl | rfl | rfl | rfl | rfl | rfl | rfl | rfl <;> rfl
@[go_sem] theorem a8_get (q : IntKind) (f : Nat → Int) (k : Nat) (h : k < [Value.int q (f 0), Value.int q (f 1), Value.int q (f 2), Value.int q (f 3), Value.int q (f 4), Value.int q (f 5), Value.int q (f 6), Value.int q (f 7)].length) : [Value.int q (f 0), Value.int q (f 1), Value.int q (f 2), Value.int q (f 3), Value.int q (f 4), Value.int q (f 5), Value.int q (f 6), Value.int q (f 7)][k]'h = .int q (f k) := by
  have h8 : k < 8 := h
  rcases lt8 h8 with rfl | rfl | rfl | rfl | rfl | rfl | rfl | rfl <;> rfl
theorem a8_set (q : IntKind) (f : Nat → Int) (v : Int) {k : Nat} (h : k < 8) : [Value.int q (f 0), Value.int q (f 1), Value.int q (f 2), Value.int q (f 3), Value.int q (f 4), Value.int q (f 5), Value.int q (f 6), Value.int q (f 7)].set k (.int q v) = [Value.int q (upd f k v 0), Value.int q (upd f k v 1), Value.int q (upd f k v 2), Value.int q (upd f k v 3), Value.int q (upd f k v 4), Value.int q (upd f k v 5), Value.int q (upd f k v 6), Value.int q (upd f k v 7)] := by
  rcases lt8 h with rfl | rfl | rfl | rfl | rfl | rfl | rfl | rfl <;> rfl
/-- eight numbers of a kind -/
def a8 (q : IntKind) (f : Nat → Int) : Array Value := #[Value.int q (f 0), Value.int q (f 1), Value.int q (f 2), Value.int q (f 3), Value.int q (f 4), Value.int q (f 5), Value.int q (f 6), Value.int q (f 7)]
theorem a8_congr (q : IntKind) {f g : Nat → Int} (h : ∀ k, k < 8 → f k = g k) : a8 q f = a8 q g := by
  unfold a8
  rw [h 0 (by omega), h 1 (by omega), h 2 (by omega), h 3 (by omega), h 4 (by omega), h 5 (by omega), h 6 (by omega), h 7 (by omega)]
theorem ret_i {k : IntKind} {a b : Int} (h : a = b) : Ending.returned (.int k a) = .returned (.int k b) := by rw [h]
theorem ret_b {a b : Bool} (h : a = b) : Ending.returned (.bool a) = .returned (.bool b) := by rw [h]
end Go.Proofs.Ytinjlofefmjolaa.X
