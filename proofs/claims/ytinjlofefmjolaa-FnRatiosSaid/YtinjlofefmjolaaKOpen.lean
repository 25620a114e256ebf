/- How a law's arguments are opened: numbers, arrays of numbers, structs of numbers, slices of these. Conditions: none. -/
import Derived.Test.YtinjlofefmjolaaKBase
import Derived.OpenShut
import Derived.Lib.SmallJoins
namespace Go.Proofs.Ytinjlofefmjolaa.X
open Go.RowKit Go.ChangeShapes Go.WideShapes
set_option linter.unusedVariables false
set_option linter.unusedSimpArgs false
set_option maxRecDepth 100000
section
variable {H : Type} {enc : TypeId × Value → H} {P : Program} {w : World} {base : Nat} {spare : Nat → Bool} {held : Bool}

/-- Each of the cells holds a number of kind k. -/
def IntCells (k : IntKind) (cs : List Value) : Prop := ∀ i, i < cs.length → ∃ z, cs[i]? = some (.int k z) ∧ (Lit.int k z).wf = true

theorem intCells_of_int {k : IntKind} {t : TypeId} (ht : P.underlying t = some (.int k)) {fuel : Nat} {cs : List Value} {y : DataW H × List MemPlace}
    (h : DataW.trod enc P w base spare held fuel t cs = some y) : IntCells k cs := by
  obtain ⟨n, rfl, _, hw⟩ := DataW.trod_int ht h
  intro i hi
  simp at hi
  subst hi
  exact ⟨n, rfl, hw⟩

theorem intCells_of_array {k : IntKind} {t e : TypeId} {n m : Nat} (ht : P.underlying t = some (.array n e)) (hc : P.cellsOf t = n * m) (he : P.cellsOf e = m) (hm : 0 < m)
    (hel : ∀ (fuel : Nat) (cs : List Value) (y : DataW H × List MemPlace), DataW.trod enc P w base spare held fuel e cs = some y → IntCells k cs) {fuel : Nat} {cs : List Value} {y : DataW H × List MemPlace}
    (h : DataW.trod enc P w base spare held fuel t cs = some y) : IntCells k cs ∧ cs.length = n * m := by
  obtain ⟨xs, f, _, _, hl, hx, hall⟩ := DataW.trod_array ht h
  rw [hc] at hl
  refine ⟨fun i hi => ?_, hl⟩
  have hq : i / m < n := by rw [Nat.div_lt_iff_lt_mul hm]; omega
  have h1 := hall (i / m) hq
  rw [he, List.getElem?_eq_getElem (by omega)] at h1
  have hdm : i / m * m + i % m = i := by rw [Nat.mul_comm]; exact Nat.div_add_mod i m
  have hlt : i % m < m := Nat.mod_lt _ hm
  have hfit : i / m * m + m ≤ n * m := by rw [← Nat.succ_mul]; exact Nat.mul_le_mul_right _ hq
  obtain ⟨z, hz, hw⟩ := hel _ _ _ h1 (i % m) (by simp only [List.length_take, List.length_drop]; omega)
  refine ⟨z, ?_, hw⟩
  rw [List.getElem?_take, if_pos hlt, List.getElem?_drop, hdm] at hz
  exact hz

theorem intCells_fn {k : IntKind} {cs : List Value} (h : IntCells k cs) {n : Nat} (hn : cs.length = n) : ∃ d : Nat → Int, cs = (List.range n).map (fun i => .int k (d i)) ∧ ∀ i, i < n → (Lit.int k (d i)).wf = true := by
  have hc : ∀ i, ∃ z : Int, i < n → cs[i]? = some (.int k z) ∧ (Lit.int k z).wf = true := by
    intro i
    by_cases hi : i < n
    · obtain ⟨z, hz, hw⟩ := h i (by omega)
      exact ⟨z, fun _ => ⟨hz, hw⟩⟩
    · exact ⟨0, fun hi' => absurd hi' hi⟩
  obtain ⟨d, hd⟩ := Classical.axiomOfChoice hc
  refine ⟨d, ?_, fun i hi => (hd i hi).2⟩
  apply List.ext_getElem?
  intro i
  by_cases hi : i < n
  · rw [(hd i hi).1]
    simp [hi]
  · rw [List.getElem?_eq_none (by omega), List.getElem?_eq_none (by simp; omega)]

/-- An array of numbers by value. -/
theorem open_arr {k : IntKind} {t : TypeId} {n N : Nat} {e : TypeId} {r : Reach} {b0 : Nat} {v : Value} {d : DataW H} {p : List MemPlace} (ht : P.underlying t = some (.array n e)) (hN : P.cellsOf t = N)
    (hel : ∀ (fuel : Nat) (cs : List Value) (y : DataW H × List MemPlace), DataW.trod enc P w base spare held fuel t cs = some y → IntCells k cs)
    (hv : Value.okWide P w r b0 t v) (h : DataW.Trod enc P w base spare held t v d p) :
    ∃ f : Nat → Int, v = .agg ((List.range N).map (fun i => Value.int k (f i))).toArray ∧ ∀ i, i < N → (Lit.int k (f i)).wf = true := by
  unfold Value.okWide at hv
  rw [ht] at hv
  obtain ⟨cs, rfl, hsz, _⟩ := hv
  obtain ⟨fuel, hf⟩ := h
  have hcs : IntCells k cs.toList := hel _ _ _ hf
  obtain ⟨f, hfe, hw⟩ := intCells_fn hcs (n := N) (by rw [Array.length_toList, hsz, hN])
  refine ⟨f, ?_, hw⟩
  congr 1
  rw [← hfe]

/-- A struct of two numbers. -/
theorem pair_cells {k0 k1 : IntKind} {t : TypeId} {f0 f1 : Field} (hs : P.underlying t = some (.struct #[f0, f1])) (hC : P.cellsOf t = 2) (h0 : P.underlying f0.type = some (.int k0)) (h1 : P.underlying f1.type = some (.int k1))
    (ho0 : f0.offset = 0) (ho1 : f1.offset = 1) (c0 : P.cellsOf f0.type = 1) (c1 : P.cellsOf f1.type = 1) {fuel : Nat} {cs : List Value} {y : DataW H × List MemPlace}
    (h : DataW.trod enc P w base spare held fuel t cs = some y) : ∃ x : Int × Int, cs = [.int k0 x.1, .int k1 x.2] ∧ (Lit.int k0 x.1).wf = true ∧ (Lit.int k1 x.2).wf = true := by
  obtain ⟨y0, y1, n, _, hl, g0, g1⟩ := trod_struct2 hs h
  rw [hC] at hl
  rw [ho0, c0] at g0
  rw [ho1, c1] at g1
  match cs, hl with
  | [u0, u1], _ =>
    obtain ⟨a, ea, _, wa⟩ := DataW.trod_int h0 g0
    obtain ⟨b, eb, _, wb⟩ := DataW.trod_int h1 g1
    simp at ea eb
    subst ea eb
    exact ⟨(a, b), rfl, wa, wb⟩

theorem pair_val {k0 k1 : IntKind} {t : TypeId} {f0 f1 : Field} (hs : P.underlying t = some (.struct #[f0, f1])) (hC : P.cellsOf t = 2) (h0 : P.underlying f0.type = some (.int k0)) (h1 : P.underlying f1.type = some (.int k1))
    (ho0 : f0.offset = 0) (ho1 : f1.offset = 1) (c0 : P.cellsOf f0.type = 1) (c1 : P.cellsOf f1.type = 1) {r : Reach} {b0 : Nat} {v : Value} {d : DataW H} {p : List MemPlace}
    (hv : Value.okWide P w r b0 t v) (h : DataW.Trod enc P w base spare held t v d p) : ∃ x : Int × Int, v = .agg #[.int k0 x.1, .int k1 x.2] ∧ (Lit.int k0 x.1).wf = true ∧ (Lit.int k1 x.2).wf = true := by
  unfold Value.okWide at hv
  rw [hs] at hv
  obtain ⟨cs, rfl, hsz, _⟩ := hv
  obtain ⟨fuel, hf⟩ := h
  obtain ⟨x, hx, hw⟩ := pair_cells hs hC h0 h1 ho0 ho1 c0 c1 hf
  refine ⟨x, ?_, hw⟩
  congr 1
  exact Array.toList_inj.1 hx

theorem two_cells {k : IntKind} {t : TypeId} (hI : ∀ (fuel : Nat) (cs : List Value) (y : DataW H × List MemPlace), DataW.trod enc P w base spare held fuel t cs = some y → IntCells k cs)
    (hL : ∀ (fuel : Nat) (cs : List Value) (y : DataW H × List MemPlace), DataW.trod enc P w base spare held fuel t cs = some y → cs.length = 2) {fuel : Nat} {cs : List Value} {y : DataW H × List MemPlace}
    (h : DataW.trod enc P w base spare held fuel t cs = some y) : ∃ x : Int × Int, cs = [.int k x.1, .int k x.2] ∧ (Lit.int k x.1).wf = true ∧ (Lit.int k x.2).wf = true := by
  have a := hI _ _ _ h
  have l := hL _ _ _ h
  match cs, l with
  | [u0, u1], _ =>
    obtain ⟨x, hx, wx⟩ := a 0 (by simp)
    obtain ⟨z, hz, wz⟩ := a 1 (by simp)
    simp at hx hz
    subst hx hz
    exact ⟨(x, z), rfl, wx, wz⟩

theorem add_plain {a : Addr} (h : a.spot = none) (n : Nat) : a.add n = ⟨a.block, a.off + n, none⟩ := by
  unfold Addr.add
  split
  · rename_i h0
    subst h0
    cases a
    simp_all
  · rfl

theorem mapM_some_nth {α β : Type} {f : α → Option β} : ∀ {l : List α} {r : List β}, l.mapM f = some r → ∀ (j : Nat) (a : α), l[j]? = some a → f a = r[j]?
  | [], r, h, j, a, ha => by simp at ha
  | b :: l, r, h, j, a, ha => by
    simp only [List.mapM_cons, Option.pure_def, Option.bind_eq_bind, Option.bind_eq_some_iff] at h
    obtain ⟨u, hu, us, hus, hr⟩ := h
    injection hr with hr
    subst hr
    cases j with
    | zero => simp at ha; subst ha; simpa using hu
    | succ j => simpa using mapM_some_nth hus j a (by simpa using ha)

theorem mapM_some_len {α β : Type} {f : α → Option β} : ∀ {l : List α} {r : List β}, l.mapM f = some r → r.length = l.length
  | [], r, h => by simp at h; subst h; rfl
  | b :: l, r, h => by
    simp only [List.mapM_cons, Option.pure_def, Option.bind_eq_bind, Option.bind_eq_some_iff] at h
    obtain ⟨u, hu, us, hus, hr⟩ := h
    injection hr with hr
    subst hr
    simp [mapM_some_len hus]

/-- A slice, its elements each m cells. -/
theorem open_sl {α : Type} [Inhabited α] {t e : TypeId} {m : Nat} (encx : α → List Value) (wf : α → Prop) (ht : P.underlying t = some (.slice e)) (hm : P.cellsOf e = m) (hm0 : 0 < m)
    (hel : ∀ (fuel : Nat) (cs : List Value) (y : DataW H × List MemPlace), DataW.trod enc P w base spare held fuel e cs = some y → ∃ x : α, cs = encx x ∧ wf x)
    {fuel : Nat} {cs : List Value} {y : DataW H × List MemPlace} (h : DataW.trod enc P w base spare held fuel t cs = some y) :
    ∃ (A : Option Addr) (xs : List α) (c : Nat), cs = [.slice A xs.length c] ∧ xs.length ≤ c ∧ c ≤ maxLen ∧ SL w w.heap.size m encx A xs ∧ ∀ x ∈ xs, wf x := by
  rcases DataW.trod_slice ht h with ⟨rfl, _⟩ | ⟨a, len, cap, elems, rest, n, _, rfl, _, hb, hl, hcap, hlen, hel2, _⟩
  · exact ⟨none, [], 0, rfl, Nat.le_refl _, Nat.zero_le _, fun h => by simp at h, fun x hx => by simp at hx⟩
  · have key : ∀ i, ∃ x : α, i < len → (∃ cs', w.cells? base (a.add (i * m)) m = some cs' ∧ cs' = encx x) ∧ wf x := by
      intro i
      by_cases hi : i < len
      · have h1 := hel2 i hi
        rw [hm, List.getElem?_eq_getElem (by omega), Option.bind_eq_some_iff] at h1
        obtain ⟨cs', hc', ht'⟩ := h1
        obtain ⟨x, hx, hw⟩ := hel _ _ _ ht'
        exact ⟨x, fun _ => ⟨⟨cs', hc', hx⟩, hw⟩⟩
      · exact ⟨default, fun h => absurd h hi⟩
    obtain ⟨f, hf⟩ := Classical.axiomOfChoice key
    have cell : ∀ i, i < len → ∀ j u, (encx (f i))[j]? = some u → w.cell? ((a.add (i * m)).add j) = some u := by
      intro i hi j u hu
      obtain ⟨⟨cs', hc', hx⟩, _⟩ := hf i hi
      unfold World.cells? at hc'
      split at hc'
      · have hj : j < m := by
          have h1 := mapM_some_len hc'
          rw [List.length_range] at h1
          have h2 := (List.getElem?_eq_some_iff.1 hu).1
          rw [← hx, h1] at h2
          exact h2
        have h1 := mapM_some_nth hc' j j (by simp [hj])
        rw [h1, hx, hu]
      · cases hc'
    refine ⟨some a, (List.range len).map f, cap, by simp, by simpa using hl, hcap, ?_, ?_⟩
    · intro hn
      have hn' : 0 < len := by simpa using hn
      have hm1 : 0 < (encx (f 0)).length := by
        obtain ⟨⟨cs', hc', hx⟩, _⟩ := hf 0 hn'
        unfold World.cells? at hc'
        split at hc'
        · have h1 := mapM_some_len hc'
          rw [List.length_range] at h1
          rw [← hx, h1]
          exact hm0
        · cases hc'
      have c0 := cell 0 hn' 0 _ (List.getElem?_eq_getElem hm1)
      have hs : a.spot = none := by
        have e0 : (a.add (0 * m)).add 0 = a := by simp [Addr.add]
        rw [e0] at c0
        unfold World.cell? at c0
        split at c0
        · cases hsp : a.spot with
          | none => rfl
          | some _ => simp [hsp] at c0
        · cases c0
      have plain : ∀ i j, (a.add (i * m)).add j = ⟨a.block, a.off + i * m + j, none⟩ := by
        intro i j
        rw [add_plain hs, add_plain rfl]
      refine ⟨a.block, a.off, by cases a; simp_all, ?_, ?_⟩
      · rw [plain] at c0
        show (⟨a.block, a.off + 0 * m + 0, none⟩ : Addr).block < _
        exact block_lt_of_cell c0
      · intro i x hx j u hu
        have hi : i < len := by
          have := (List.getElem?_eq_some_iff.1 hx).1
          simpa using this
        have hxe : x = f i := by
          rw [List.getElem?_map, List.getElem?_range hi] at hx
          simpa using hx.symm
        subst hxe
        rw [← plain]
        exact cell i hi j u hu
    · intro x hx
      obtain ⟨i, hi, rfl⟩ := List.mem_map.1 hx
      exact (hf i (by simpa using hi)).2

/-- The same, of an argument. -/
theorem open_sl_val {α : Type} [Inhabited α] {t e : TypeId} {m : Nat} (encx : α → List Value) (wf : α → Prop) (ht : P.underlying t = some (.slice e)) (hm : P.cellsOf e = m) (hm0 : 0 < m)
    (hel : ∀ (fuel : Nat) (cs : List Value) (y : DataW H × List MemPlace), DataW.trod enc P w base spare held fuel e cs = some y → ∃ x : α, cs = encx x ∧ wf x)
    {r : Reach} {b0 : Nat} {v : Value} {d : DataW H} {p : List MemPlace} (hv : Value.okWide P w r b0 t v) (h : DataW.Trod enc P w base spare held t v d p) :
    ∃ (A : Option Addr) (xs : List α) (c : Nat), v = .slice A xs.length c ∧ xs.length ≤ c ∧ c ≤ maxLen ∧ SL w w.heap.size m encx A xs ∧ ∀ x ∈ xs, wf x := by
  obtain ⟨a0, len, cap, rfl⟩ := okWide_slice ht hv
  obtain ⟨fuel, hf⟩ := h
  obtain ⟨A, xs, c, he, hrest⟩ := open_sl encx wf ht hm hm0 hel hf
  refine ⟨A, xs, c, ?_, hrest⟩
  simpa [Value.cells] using he
/-- A struct of a slice of numbers and three numbers. -/
theorem open_meter {k0 : IntKind} {t e : TypeId} {f0 f1 f2 f3 : Field} (hs : P.underlying t = some (.struct #[f0, f1, f2, f3])) (hC : P.cellsOf t = 4) (h0 : P.underlying f0.type = some (.slice e)) (hE : P.underlying e = some (.int k0)) (hEc : P.cellsOf e = 1)
    (h1 : P.underlying f1.type = some (.int .i64)) (h2 : P.underlying f2.type = some (.int .i64)) (h3 : P.underlying f3.type = some (.int .i64)) (ho0 : f0.offset = 0) (ho1 : f1.offset = 1) (ho2 : f2.offset = 2) (ho3 : f3.offset = 3)
    (c0 : P.cellsOf f0.type = 1) (c1 : P.cellsOf f1.type = 1) (c2 : P.cellsOf f2.type = 1) (c3 : P.cellsOf f3.type = 1) {r : Reach} {b0 : Nat} {v : Value} {d : DataW H} {p : List MemPlace}
    (hv : Value.okWide P w r b0 t v) (h : DataW.Trod enc P w base spare held t v d p) :
    ∃ (A : Option Addr) (xs : List Int) (c : Nat) (x1 x2 x3 : Int), v = .agg #[.slice A xs.length c, .int .i64 x1, .int .i64 x2, .int .i64 x3] ∧ xs.length ≤ maxLen ∧ SL w w.heap.size 1 (fun x => [Value.int k0 x]) A xs ∧ (∀ x ∈ xs, (Lit.int k0 x).wf = true) ∧ (Lit.int .i64 x1).wf = true ∧ (Lit.int .i64 x2).wf = true ∧ (Lit.int .i64 x3).wf = true := by
  unfold Value.okWide at hv
  rw [hs] at hv
  obtain ⟨cs, rfl, hsz, _⟩ := hv
  obtain ⟨fuel, hf⟩ := h
  obtain ⟨y0, y1, y2, y3, n, _, hl, g0, g1, g2, g3⟩ := Go.Joins.trod_struct4 hs hf
  rw [ho0, c0] at g0
  rw [ho1, c1] at g1
  rw [ho2, c2] at g2
  rw [ho3, c3] at g3
  obtain ⟨l⟩ := cs
  rw [hC] at hl
  match l, hl with
  | [u0, u1, u2, u3], _ =>
    obtain ⟨A, xs, c, e0, l1, l2, l3, l4⟩ := open_sl (fun x => [Value.int k0 x]) (fun x => (Lit.int k0 x).wf = true) h0 hEc (by decide) (fun _ _ _ h_ => by obtain ⟨n_, e_, _, w_⟩ := DataW.trod_int hE h_; exact ⟨n_, e_, w_⟩) g0
    obtain ⟨x1, e1, _, w1⟩ := DataW.trod_int h1 g1
    obtain ⟨x2, e2, _, w2⟩ := DataW.trod_int h2 g2
    obtain ⟨x3, e3, _, w3⟩ := DataW.trod_int h3 g3
    simp [Value.cells] at e0 e1 e2 e3
    subst e0 e1 e2 e3
    exact ⟨A, xs, c, x1, x2, x3, rfl, Nat.le_trans l1 l2, l3, l4, w1, w2, w3⟩
end
theorem b8_of {xs : List Int} (h : ∀ x ∈ xs, (Lit.int .u8 x).wf = true) : b8 xs := by
  intro i
  unfold el
  rw [List.getD_eq_getElem?_getD]
  cases e : xs[i.toNat]? with
  | none => exact ⟨by decide, by decide⟩
  | some x =>
    have := h x (List.mem_of_getElem? e)
    simp [Lit.wf, show IntKind.u8.min = 0 by decide, show IntKind.u8.max = 255 by decide] at this
    simp only [Option.getD_some]
    omega
def cut8 (f : Nat → Int) : Nat → Int := fun i => if i < 8 then f i else 0
theorem cut8_d8 {f : Nat → Int} (h : ∀ i, i < 8 → (Lit.int .u8 (f i)).wf = true) : ∀ k : Nat, 0 ≤ cut8 f k ∧ cut8 f k ≤ 255 := by
  intro k
  unfold cut8
  split
  · rename_i hk
    have := h k hk
    simp [Lit.wf, show IntKind.u8.min = 0 by decide, show IntKind.u8.max = 255 by decide] at this
    omega
  · omega
theorem i64_le {x : Int} (h : (Lit.int .i64 x).wf = true) : -9223372036854775808 ≤ x ∧ x ≤ 9223372036854775807 := by
  simp [Lit.wf, show IntKind.i64.min = -9223372036854775808 by decide, show IntKind.i64.max = 9223372036854775807 by decide] at h
  omega
end Go.Proofs.Ytinjlofefmjolaa.X
