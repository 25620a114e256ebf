/- Blank photos. Conditions: none. -/
import Derived.Test.YtdmnblmonndkmaaKMarks
namespace Go.Proofs.Ytdmnblmonndkmaa.X
open Go.RowKit
set_option linter.unusedVariables false
set_option linter.unusedSimpArgs false
set_option maxRecDepth 100000
def Stop (p : Prop) : Prop := p
theorem stopLoad {P : Program} {ops : Array Oper} {rest : List Oper} {d : Option Tmp} {ty t : TypeId} {x : Operand} {pos : _} {af : _} {g : _} {a : Act} {w : World} {Q : Exit → Act → World → Prop} (h : Stop (wpList P ops Q (⟨d, .load ty x, t, pos, af, g⟩ :: rest) a w)) : wpList P ops Q (⟨d, .load ty x, t, pos, af, g⟩ :: rest) a w := h
theorem stopStore {P : Program} {ops : Array Oper} {rest : List Oper} {d : Option Tmp} {ty t : TypeId} {x y : Operand} {pos : _} {af : _} {g : _} {a : Act} {w : World} {Q : Exit → Act → World → Prop} (h : Stop (wpList P ops Q (⟨d, .store ty x y, t, pos, af, g⟩ :: rest) a w)) : wpList P ops Q (⟨d, .store ty x y, t, pos, af, g⟩ :: rest) a w := h
theorem below_setR {B g : Nat} {w0 w : World} (hb : Below B w0 w) (hBg : B ≤ g) (cs : Array Value) : Below B w0 (w.setRow g cs) :=
  hb.trans ⟨rfl, rfl, rfl, by simp [World.setRow], fun k hk => setRow_other w g k cs (by omega)⟩
theorem ret_cell_tmp {P : Program} {fn : Func} {p u : Tmp} {ty : TypeId} (h : fn.results = #[.cell p ty, .tmp u]) {R : Ending → World → Prop} {a : Act} {w : World} (g : Nat) (t : TypeId) (cs : Array Value) (fr : Nat × Nat) (d : TypeDesc)
    (hp : a.tmps.getD p undef = .pointer (some ⟨g, 0, none⟩)) (hg : w.heap[g]? = some (.cells cs t fr)) (hu : P.underlying ty = some d) (hd : (match d with | .struct _ | .array _ _ => true | _ => false) = true)
    (hi : (P.info? ty).map (·.size) = some cs.size) (hf : a.defers = []) (hR : R (.returned (.tuple #[.agg cs, a.tmps.getD u undef])) w) : bodyPost P fn R .ret a w := by
  refine bodyPost_ret (v := .tuple #[.agg cs, a.tmps.getD u undef]) ?_ hf hR
  rw [results_cell_tmp h, hp]
  show ((loadVar ty ⟨g, 0, none⟩).run P w).andThen (fun v w₂ => Result.ok (Value.tuple #[v, a.tmps.getD u undef]) w₂) = _
  rw [run_loadVar_row w g t ty cs fr d hg hu hd hi]
  rfl
set_option maxHeartbeats 4000000 in
theorem implBlankPhoto_any {A : Option Addr} {xs : List Int} {W : World} {B : Nat} (hs : Nums .u8 W B A xs) (h8 : b8 xs) (n c : Nat) (hn : xs.length = n) (w : World) (hb : Below B W w) : Calls Try.prog 17 #[.slice A n c] w fun e w' => e = .returned (.tuple #[.agg #[.int .u64 ((bpV xs).1 0), .int .u64 ((bpV xs).1 1), .int .u64 ((bpV xs).1 2), .int .u64 ((bpV xs).1 3), .int .u64 ((bpV xs).1 4), .int .u64 ((bpV xs).1 5), .int .u64 ((bpV xs).1 6), .int .u64 ((bpV xs).1 7), .int .u64 ((bpV xs).1 8), .int .u64 ((bpV xs).1 9), .int .u64 ((bpV xs).1 10), .int .u64 ((bpV xs).1 11), .int .u64 ((bpV xs).1 12), .int .u64 ((bpV xs).1 13), .int .u64 ((bpV xs).1 14), .int .u64 ((bpV xs).1 15)], .int .i64 (bpV xs).2]) ∧ Below w.heap.size w w' := by
  obtain rfl := hn
  have hB := hs.bsz hb
  cases h1 : okS xs
  · have HR := Lib.hid (bpV_1 h1)
    go_enter Try.func17, Try.ntmps17
    go_wp2_with (go_at_call 42; refine (ValidStack_any hs h8 _ _ rfl _ (by repeat' (first | (with_reducible first | assumption | exact Below.refl _ _ | refine Below.drew ?_ | refine Below.alloc ?_ ?_ _ | refine Below.setCell ?_ ?_ _ | refine below_dn ?_ _ | refine Below.trans ?_ (below_mo _ _ _ ?_) | refine Below.trans ?_ (below_mq _ _ ?_) | exact Nat.le_refl _) | (simp; done) | (simp; omega) | omega))).mono ?_; rintro e w' ⟨rfl, rfl⟩)
    go_returns
    exact ⟨(by first | (rw [HR.out]; done) | (rw [HR.out]; rfl)), (by repeat' (first | (with_reducible first | assumption | exact Below.refl _ _ | refine Below.drew ?_ | refine Below.alloc ?_ ?_ _ | refine Below.setCell ?_ ?_ _ | refine below_dn ?_ _ | refine Below.trans ?_ (below_mo _ _ _ ?_) | refine Below.trans ?_ (below_mq _ _ ?_) | exact Nat.le_refl _) | (simp; done) | (simp; omega) | omega))⟩
  · have HR := Lib.hid (bpV_2 h1)
    obtain ⟨hl0, hl1⟩ := okS_len h1
    have HK := Lib.hid h1
    go_enter Try.func17, Try.ntmps17
    go_wp2_with (go_at_call 42; refine (ValidStack_any hs h8 _ _ rfl _ (by repeat' (first | (with_reducible first | assumption | exact Below.refl _ _ | refine Below.drew ?_ | refine Below.alloc ?_ ?_ _ | refine Below.setCell ?_ ?_ _ | refine below_dn ?_ _ | refine Below.trans ?_ (below_mo _ _ _ ?_) | refine Below.trans ?_ (below_mq _ _ ?_) | exact Nat.le_refl _) | (simp; done) | (simp; omega) | omega))).mono ?_; rintro e w' ⟨rfl, rfl⟩)
    clear h1
    go_loopw [14] (fun i wr => ∃ (k : Nat) (os : Array Obj) (d : Nat), k ≤ xs.length ∧ i = .int .i64 k ∧ wr = mo ((w.alloc (.cells #[.int .u64 0, .int .u64 0, .int .u64 0, .int .u64 0, .int .u64 0, .int .u64 0, .int .u64 0, .int .u64 0, .int .u64 0, .int .u64 0, .int .u64 0, .int .u64 0, .int .u64 0, .int .u64 0, .int .u64 0, .int .u64 0] 27)).alloc (.cells #[.int .u64 (bpTo xs k 0), .int .u64 (bpTo xs k 1), .int .u64 (bpTo xs k 2), .int .u64 (bpTo xs k 3), .int .u64 (bpTo xs k 4), .int .u64 (bpTo xs k 5), .int .u64 (bpTo xs k 6), .int .u64 (bpTo xs k 7), .int .u64 (bpTo xs k 8), .int .u64 (bpTo xs k 9), .int .u64 (bpTo xs k 10), .int .u64 (bpTo xs k 11), .int .u64 (bpTo xs k 12), .int .u64 (bpTo xs k 13), .int .u64 (bpTo xs k 14), .int .u64 (bpTo xs k 15)] 27)) os d) (fun i _ => xs.length - (intOf i).toNat)
    case atStart => exact ⟨0, #[], _, Nat.zero_le _, rfl, by rw [← bp0]; exact (mo_nil _).symm⟩
    case round =>
      obtain ⟨k, os, d, hk, rfl, rfl⟩ := hrel
      by_cases hlt : k < xs.length
      · obtain ⟨b, off, rfl, hbs, hc⟩ := hs.at hb hlt
        obtain ⟨e0, e1⟩ : 0 ≤ el xs k ∧ el xs k ≤ 128 := by have := okS_el HK.out hlt; omega
        have g0 : (0 : Int) ≤ (k : Int) := by omega
        have g1 : (k : Int) < 8 := by omega
        have a0 := a16_at0 .u64 (bpTo xs k) (k := k) (by omega)
        have a1 := a16_at1 .u64 (bpTo xs k) (k := k) (by omega)
        have HS := Lib.hid ((a16_set2 .u64 (bpTo xs k) (bl (el xs k).toNat).1 (bl (el xs k).toNat).2 (k := k) (by omega)).trans (by rw [bpTo_succ]))
        go_wp2_with (go_at_call 67; refine (below_any _ e0 e1 _).mono ?_; rintro e w' ⟨rfl, hb_⟩; obtain ⟨os_, d_, rfl⟩ := mo_of hb_; clear hb_)
        exact ⟨⟨k + 1, _, _, by omega, by go_num, by rw [HS.out]; exact mo_mo _ _ _ _ _⟩, by simp [intOf]; omega⟩
      · obtain rfl : k = xs.length := by omega
        refine wp_at (fun u => u.heap[w.heap.size]? = some (.cells #[.int .u64 0, .int .u64 0, .int .u64 0, .int .u64 0, .int .u64 0, .int .u64 0, .int .u64 0, .int .u64 0, .int .u64 0, .int .u64 0, .int .u64 0, .int .u64 0, .int .u64 0, .int .u64 0, .int .u64 0, .int .u64 0] 27 (0, 0)) ∧ u.heap[w.heap.size + 1]? = some (.cells #[.int .u64 (bpTo xs xs.length 0), .int .u64 (bpTo xs xs.length 1), .int .u64 (bpTo xs xs.length 2), .int .u64 (bpTo xs xs.length 3), .int .u64 (bpTo xs xs.length 4), .int .u64 (bpTo xs xs.length 5), .int .u64 (bpTo xs xs.length 6), .int .u64 (bpTo xs xs.length 7), .int .u64 (bpTo xs xs.length 8), .int .u64 (bpTo xs xs.length 9), .int .u64 (bpTo xs xs.length 10), .int .u64 (bpTo xs xs.length 11), .int .u64 (bpTo xs xs.length 12), .int .u64 (bpTo xs xs.length 13), .int .u64 (bpTo xs xs.length 14), .int .u64 (bpTo xs xs.length 15)] 27 (0, 0)) ∧ Below w.heap.size w u) _ ⟨heap_mo_at (heap_alloc_past (heap_alloc_at rfl)), heap_mo_at (heap_alloc_at (by simp)), (by repeat' (first | (with_reducible first | assumption | exact Below.refl _ _ | refine Below.drew ?_ | refine Below.alloc ?_ ?_ _ | refine Below.setCell ?_ ?_ _ | refine below_dn ?_ _ | refine Below.trans ?_ (below_mo _ _ _ ?_) | refine Below.trans ?_ (below_mq _ _ ?_) | exact Nat.le_refl _) | (simp; done) | (simp; omega) | omega))⟩ ?_
        rintro u ⟨hu2, hu4, hbu⟩
        have hi : (Try.prog.info? 27).map (·.size) = some 16 := by kernel_rfl
        go_wp2_with (with_reducible refine stopLoad ?_)
        refine wpList_load_row rfl 27 (.tmp 4) rfl (w.heap.size + 1) rfl _ _ _ _ hu4 Try.underlying27 rfl hi ?_
        go_wp2_with (with_reducible refine stopStore ?_)
        refine wpList_store_row ?_ 27 (.tmp 2) (.tmp 25) ?_ w.heap.size #[.int .u64 (bpTo xs xs.length 0), .int .u64 (bpTo xs xs.length 1), .int .u64 (bpTo xs xs.length 2), .int .u64 (bpTo xs xs.length 3), .int .u64 (bpTo xs xs.length 4), .int .u64 (bpTo xs xs.length 5), .int .u64 (bpTo xs xs.length 6), .int .u64 (bpTo xs xs.length 7), .int .u64 (bpTo xs xs.length 8), .int .u64 (bpTo xs xs.length 9), .int .u64 (bpTo xs xs.length 10), .int .u64 (bpTo xs xs.length 11), .int .u64 (bpTo xs xs.length 12), .int .u64 (bpTo xs xs.length 13), .int .u64 (bpTo xs xs.length 14), .int .u64 (bpTo xs xs.length 15)] ?_ ?_ _ _ hu2 hi ?_ ?_ ?_
        · rfl
        · rfl
        · rfl
        · rfl
        · rfl
        · simp [Value.oneCell']
        go_wp2
        refine ret_cell_tmp (p := 2) (u := 3) rfl w.heap.size _ _ _ _ rfl (setRow_heap _ _ _ _ _ _ hu2) Try.underlying27 rfl hi rfl ⟨?_, below_setR hbu (Nat.le_refl _) _⟩
        rw [HR.out]
        rfl
end Go.Proofs.Ytdmnblmonndkmaa.X
