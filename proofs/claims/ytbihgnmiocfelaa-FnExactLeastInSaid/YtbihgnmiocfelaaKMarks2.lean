/- Blank photos. Conditions: none. -/
import Derived.Test.YtbihgnmiocfelaaKMarks
namespace Go.Proofs.Ytbihgnmiocfelaa.X
open Go.RowKit
set_option linter.unusedVariables false
set_option linter.unusedSimpArgs false
set_option maxRecDepth 100000
def Stop (p : Prop) : Prop := p
theorem stopLoad {P : Program} {ops : Array Oper} {rest : List Oper} {d : Option Tmp} {ty t : TypeId} {x : Operand} {pos : _} {af : _} {g : _} {a : Act} {w : World} {Q : Exit → Act → World → Prop} (h : Stop (wpList P ops Q (⟨d, .load ty x, t, pos, af, g⟩ :: rest) a w)) : wpList P ops Q (⟨d, .load ty x, t, pos, af, g⟩ :: rest) a w := h
theorem stopStore {P : Program} {ops : Array Oper} {rest : List Oper} {d : Option Tmp} {ty t : TypeId} {x y : Operand} {pos : _} {af : _} {g : _} {a : Act} {w : World} {Q : Exit → Act → World → Prop} (h : Stop (wpList P ops Q (⟨d, .store ty x y, t, pos, af, g⟩ :: rest) a w)) : wpList P ops Q (⟨d, .store ty x y, t, pos, af, g⟩ :: rest) a w := h
theorem below_setR {B g : Nat} {w0 w : World} (hb : Below B w0 w) (hBg : B ≤ g) (cs : Array Value) : Below B w0 (w.setRow g cs) :=
  hb.trans ⟨rfl, rfl, rfl, by simp [World.setRow], fun k hk => setRow_other w g k cs (by omega)⟩
theorem ret_cell_tmp {P : Program} {fn : Func} {p u : Tmp} {ty : TypeId} (h : fn.results = #[.cell p ty, .tmp u]) {R : Ending → World → Prop} {a : Act} {w : World} (g : Nat) (t : TypeId) (cs : Array Value) (fr : Nat × Nat) (d : TypeDesc)
    (hp : a.tmps.getD p undef = .pointer (some ⟨g, 0, none⟩)) (hg : w.heap[g]? = some (.cells cs t fr)) (hu : P.underlying ty = some d) (hd : (match d with | .struct _ | .array _ _ => true | _ => false) = true)
    (hi : (P.info? ty).map (·.size) = some cs.size) (hf : a.defers = []) (hR : R (.returned (.tuple #[.agg cs, a.tmps.getD u undef])) w) : bodyPost P fn R .ret a w := by
  refine bodyPost_ret (v := .tuple #[.agg cs, a.tmps.getD u undef]) ?_ hf hR
  rw [results_cell_tmp h, hp]
  show ((loadVar ty ⟨g, 0, none⟩).run P w).andThen (fun v w₂ => Result.ok (Value.tuple #[v, a.tmps.getD u undef]) w₂) = _
  rw [run_loadVar_row w g t ty cs fr d hg hu hd hi]
  rfl
end Go.Proofs.Ytbihgnmiocfelaa.X
