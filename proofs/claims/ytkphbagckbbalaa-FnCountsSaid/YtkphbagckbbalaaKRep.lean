/- slices.Repeat of one base, and the reference's list of one base. Conditions: none. -/
import Derived.Test.YtkphbagckbbalaaKLsL
import Derived.Test.YtkphbagckbbalaaKList2
import Derived.Test.YtkphbagckbbalaaKTail
import Derived.Test.YtkphbagckbbalaaKOpen
import Derived.Laws.CopyOwn
import Derived.Deep.RegionLaw
namespace Go.Proofs.Ytkphbagckbbalaa.X
open Go.RowKit
set_option linter.unusedVariables false
set_option linter.unusedSimpArgs false
set_option maxRecDepth 100000
theorem Mul64_ok {y : Int} (hy : 1 ≤ y ∧ y ≤ 8) (w : World) : Calls Try.prog 200 #[.int .u64 1, .int .u64 y] w fun e w' => e = .returned (.tuple #[.int .u64 0, .int .u64 y]) ∧ w = w' := by
  have h : y = 1 ∨ y = 2 ∨ y = 3 ∨ y = 4 ∨ y = 5 ∨ y = 6 ∨ y = 7 ∨ y = 8 := by omega
  clear hy
  rcases h with rfl | rfl | rfl | rfl | rfl | rfl | rfl | rfl
  all_goals
    go_enter Try.func200, Try.ntmps200
    go_wp2
    go_returns
    exact ⟨rfl, rfl⟩
theorem Mul_ok {y : Int} (hy : 1 ≤ y ∧ y ≤ 8) (w : World) : Calls Try.prog 194 #[.int .u64 1, .int .u64 y] w fun e w' => e = .returned (.tuple #[.int .u64 0, .int .u64 y]) ∧ w = w' := by
  have K := Lib.hid (Mul64_ok hy)
  go_enter Try.func194, Try.ntmps194
  (go_wp2_with fail; refine (K.out _).mono ?_; rintro e w' ⟨rfl, rfl⟩)
  go_wp2
  go_returns
  exact ⟨rfl, rfl⟩
theorem infoU8 : (Try.prog.info? 5).map (fun i => (i.zero, i.size, i.bytes)) = some (some (.int .u8 0), 1, 1) := by kernel_rfl
theorem size1U : (Try.prog.info? 5).map (·.size) = some 1 := by kernel_rfl
theorem splice_fill {L : List Value} {n c : Nat} {v : Value} (h : ∀ j, j < n → L[j]? = some v) (hn : n + c ≤ L.length) : ∀ j, j < n + c → (splice L n (List.replicate c v))[j]? = some v := by
  intro j hj
  unfold splice
  by_cases e : j < n
  · rw [List.getElem?_append_left (by rw [List.length_take]; omega), List.getElem?_take, if_pos e]
    exact h j e
  · rw [List.getElem?_append_right (by rw [List.length_take]; omega), List.length_take, List.getElem?_append_left (by rw [List.length_replicate]; omega), List.getElem?_replicate, if_pos (by omega)]
theorem eq_rep {L : List Value} {m : Nat} {v : Value} (hl : L.length = m) (h : ∀ j, j < m → L[j]? = some v) : L = List.replicate m v := by
  apply List.ext_getElem?
  intro j
  by_cases e : j < m
  · rw [h j e, List.getElem?_replicate, if_pos e]
  · rw [List.getElem?_eq_none (by omega), List.getElem?_eq_none (by rw [List.length_replicate]; omega)]
theorem undStk : Try.prog.underlying 24 = some (.slice 5) := by kernel_rfl
set_option maxHeartbeats 4000000 in
theorem Repeat_ok {b : Int} {m : Nat} (hm : 1 ≤ m ∧ m ≤ 8) (g : Nat) (w : World) (hg : w.heap[g]? = some (.cells #[.int .u8 b] 5)) : Calls Try.prog 171 #[.slice (some ⟨g, 0, none⟩) 1 1, .int .i64 (m : Int)] w fun e w' => ∃ q, w.heap.size ≤ q ∧ e = .returned (.slice (some ⟨q, 0, none⟩) m m) ∧ w'.heap[q]? = some (.cells (List.replicate m (Value.int .u8 b)).toArray 5) ∧ Below w.heap.size w w' := by
  obtain ⟨i0, hi, hz0, hz1, hz2⟩ := info_parts infoU8
  have hmk : ∀ W : World, (Instr.makeSlice 24 (.int .i64 (m : Int)) (.int .i64 (m : Int))).run Try.prog W = .ok (.slice (some ⟨W.heap.size, 0, none⟩) m m) (W.alloc (.cells (madeCells #[.int .u8 0] m) 5)) := fun W => by
    have := run_make (P := Try.prog) W 24 5 i0 _ undStk hi hz0 .i64 .i64 m m (by omega) (by omega) (by rw [hz2]; omega) (by omega)
    rw [hz1, Int.toNat_natCast, Nat.mul_one] at this
    exact this
  clear hi hz0 hz1 hz2
  have K := Lib.hid (Mul_ok (y := (m : Int)) (by omega))
  have e1 : IntKind.u64.wrap (m : Int) = (m : Int) := by rw [IntKind.wrap_u64]; omega
  have e2 : IntKind.i64.wrap (m : Int) = (m : Int) := IntWalk.i64_in _ ⟨by omega, by omega⟩
  have g1 : ¬ (m : Int) < 0 := by omega
  have hg0 := (Array.getElem?_eq_some_iff.1 hg).1
  go_enter Try.func171, Try.ntmps171
  (go_wp2_with fail; refine (K.out _).mono ?_; rintro e w' ⟨rfl, rfl⟩)
  go_upto_region 7 with (fail)
  have hcg : ∀ j v, [Value.int .u8 b][j]? = some v → (w.alloc (.cells (madeCells #[.int .u8 0] m) 5)).cell? ((⟨g, 0, none⟩ : Addr).add j) = some v := by
    intro j v hj
    match j, hj with
    | 0, hj =>
      simp at hj
      subst hj
      rw [show (⟨g, 0, none⟩ : Addr).add 0 = ⟨g, 0, none⟩ from rfl]
      exact (cell_of_row _ g 0 _ _ (0, 0) (heap_alloc_past hg)).trans rfl
  have HC := Lib.hid hcg
  clear hcg hmk
  (go_wp2_with (refine wpList_copy_splice (o := ⟨some 33, _, _, _, _, _⟩) rfl (.tmp 31) (.tmp 32) 24 24 rfl 5 undStk size1U _ _ m m 1 1 rfl rfl w.heap.size 0 (madeCells #[.int .u8 0] m).toList 5 (by simpa using heap_alloc_new w _) [.int .u8 b] (by show 1 = Nat.min 1 m; have : Nat.min 1 m = 1 := Nat.min_eq_left hm.1; omega) (fun _ => ⟨rfl, ⟨g, 0, none⟩, rfl, HC.out⟩) (by simp [size_madeCells]; omega) (by intro v hv; simp at hv; subst hv; rfl) w.heap.size w (by repeat' (first | (with_reducible first | assumption | exact Below.refl _ _ | refine Below.drew ?_ | refine Below.alloc ?_ ?_ _ | refine Below.setCell ?_ ?_ _ | refine below_setR ?_ ?_ _ | refine below_dn ?_ _ | refine Below.trans ?_ (below_mo _ _ _ ?_) | refine Below.trans ?_ (below_mq _ _ ?_) | exact Nat.le_refl _) | (simp; done) | (simp; omega) | omega)) (Nat.le_refl _) ?_; intro w2 HG2 hB2))
  have hL : (splice (madeCells #[.int .u8 0] m).toList 0 [Value.int .u8 b]).length = m := by rw [length_splice _ _ _ (by simp [size_madeCells]; omega), Array.length_toList, size_madeCells]
  have hf : ∀ j, j < 1 → (splice (madeCells #[.int .u8 0] m).toList 0 [Value.int .u8 b])[j]? = some (.int .u8 b) := fun j hj => by
    obtain rfl : j = 0 := by omega
    rfl
  obtain ⟨L0, hL0⟩ : ∃ L, L = splice (madeCells #[.int .u8 0] m).toList 0 [Value.int .u8 b] := ⟨_, rfl⟩
  rw [← hL0] at hL hf HG2
  clear hL0 HC
  have HL := Lib.hid hL
  have HF := Lib.hid hf
  clear hL hf
  have hs2 := hB2.size
  go_wp2
  go_loopw [8] (fun i wr => ∃ (n : Nat) (L : List Value), (1 ≤ n ∧ n ≤ m) ∧ i = .int .i64 (n : Int) ∧ Hid (wr.heap[w.heap.size]? = some (.cells L.toArray 5)) ∧ Hid (L.length = m) ∧ Hid (∀ j, j < n → L[j]? = some (.int .u8 b)) ∧ Below w.heap.size w wr) (fun i _ => m - (intOf i).toNat)
  case atStart => exact ⟨1, L0, ⟨Nat.le_refl _, hm.1⟩, rfl, HG2, HL, HF, hB2⟩
  case round =>
    obtain ⟨n, L, ⟨hn1, hn2⟩, rfl, HG, HLn, HFn, hB⟩ := hrel
    have hsz := (Array.getElem?_eq_some_iff.1 HG.out).1
    by_cases hlt : n < m
    · obtain ⟨c, hc⟩ : ∃ c, c = Nat.min n (m - n) := ⟨_, rfl⟩
      have hc1 : 1 ≤ c ∧ n + c ≤ m ∧ c ≤ n := by
        have h1 : Nat.min n (m - n) = n ∨ Nat.min n (m - n) = m - n := by
          rcases Nat.le_total n (m - n) with h | h
          · exact .inl (Nat.min_eq_left h)
          · exact .inr (Nat.min_eq_right h)
        have h2 := Nat.min_le_left n (m - n)
        have h3 := Nat.min_le_right n (m - n)
        rw [hc]
        have e1 : Nat.min n (m - n) = min n (m - n) := rfl
        omega
      have HCc := Lib.hid hc
      clear hc
      have HSRC : Hid (∀ j v, (List.replicate c (Value.int .u8 b))[j]? = some v → wr.drew.cell? ((⟨w.heap.size, 0, none⟩ : Addr).add j) = some v) := by
        intro j v hj
        show wr.cell? _ = _
        rw [List.getElem?_replicate] at hj
        split at hj
        · rename_i hjc
          rw [add_plain rfl, cell_of_row _ _ _ _ _ _ HG.out, ← hj]
          show L.toArray[0 + j]? = _
          rw [Nat.zero_add, List.getElem?_toArray]
          exact HFn.out j (by omega)
        · cases hj
      have HN := Lib.hid (splice_fill (c := c) HFn.out (by rw [HLn.out]; omega))
      have HL2 : Hid ((splice L n (List.replicate c (Value.int .u8 b))).length = m) := by
        show _ = _
        rw [length_splice _ _ _ (by rw [List.length_replicate, HLn.out]; omega)]
        exact HLn.out
      have g0 : (0 : Int) ≤ (n : Int) := by omega
      have g1' : (n : Int) ≤ (m : Int) := by omega
      have g2 : ¬ n = m := by omega
      have e4 : IntKind.i64.wrap ((n : Int) + (c : Int)) = (n : Int) + (c : Int) := IntWalk.i64_in _ ⟨by omega, by omega⟩
      have HGd : Hid (wr.drew.heap[w.heap.size]? = some (.cells L.toArray 5)) := HG.out
      have hBd : Below w.heap.size w wr.drew := Below.drew hB
      go_wp2
      go_region_law (refine step_copy_splice rfl (.tmp 41) (.tmp 44) 24 24 rfl 5 undStk size1U (if m = n then some ⟨w.heap.size, 0, none⟩ else some ⟨w.heap.size, n, none⟩) (some ⟨w.heap.size, 0, none⟩) (m - n) (m - n) n m (by simp [go_sem]) (by simp [go_sem]) w.heap.size n L 5 HGd.out (List.replicate c (.int .u8 b)) (by rw [List.length_replicate]; exact HCc.out) (fun _ => ⟨if_neg (fun h => g2 h.symm), ⟨w.heap.size, 0, none⟩, rfl, HSRC.out⟩) (by rw [List.length_replicate, HLn.out]; omega) (by intro v hv; rw [(List.mem_replicate.1 hv).2]; rfl) w.heap.size w hBd (Nat.le_refl _) ?_; intro w4 HG4 hB4)
      all_goals
        go_wp2
        exact ⟨⟨n + c, ⟨by omega, by omega⟩, by omega, _, HG4, HL2, HN⟩, by simp [intOf]; omega⟩
    · obtain rfl : n = m := by omega
      have HE := Lib.hid (eq_rep HLn.out HFn.out)
      go_wp2
      go_ret
      exact ⟨w.heap.size, Nat.le_refl _, rfl, by rw [← HE.out]; exact HG.out, hB⟩
/-- The call hands back w wheels of base b, in memory of its own. -/
def RetRep (b : Int) (m : Nat) (w : World) (e : Ending) (w' : World) : Prop := ∃ v, e = .returned v ∧ w'.ownsRow w.heap.size 5 1 v m ((List.replicate m b).map (Value.int .u8)) ∧ Below w.heap.size w w'
theorem own_rowU (w : World) (b : Nat) (T : TypeId) (vs : List Value) (m q : Nat) (hq : w.heap[q]? = some (.cells vs.toArray T)) (hb : b ≤ q) (hm : vs.length = m) (h8 : m ≤ 8) : w.ownsRow b T 1 (.slice (some ⟨q, 0, none⟩) m m) m vs := by
  subst hm
  exact ⟨by simp, .inr ⟨q, vs.length, vs.toArray, rfl, hb, hq, Nat.le_refl _, by unfold maxLen; omega, by simp, by simp⟩⟩
set_option maxHeartbeats 1000000 in
theorem repeated_ok {b : Int} (hb : 2 ≤ b ∧ b ≤ 100) {m : Nat} (hm : 1 ≤ m ∧ m ≤ 8) (w : World) : Calls Try.prog 98 #[.int .i64 b, .int .i64 (m : Int)] w (RetRep b m w) := by
  have e1 : IntKind.u8.wrap b = b := by rw [IntKind.wrap_u8]; omega
  have e2 : IntKind.i64.wrap (m : Int) = (m : Int) := IntWalk.i64_in _ ⟨by omega, by omega⟩
  go_enter Try.func98, Try.ntmps98
  (go_wp2_with fail; refine (Repeat_ok hm w.heap.size _ (heap_alloc_new w _)).mono ?_; rintro e w' ⟨q, hq, rfl, hr, hb_⟩)
  have hs := hb_.size
  simp at hq
  have hB : Below w.heap.size w w' := (Below.trans (Below.alloc (Below.refl _ _) (Nat.le_refl _) _) (hb_.mono (by simp)))
  go_wp2
  go_ret
  exact ⟨_, rfl, own_rowU _ _ _ _ _ _ (by rw [List.map_replicate]; exact hr) (by omega) (by simp) hm.2, hB⟩
set_option maxHeartbeats 2000000 in
theorem l01Alike_ok {b : Int} (hb : 2 ≤ b ∧ b ≤ 100) {m : Nat} (hm : 1 ≤ m ∧ m ≤ 8) (w : World) : Calls Try.prog 99 #[.int .i64 b, .int .i64 (m : Int)] w (RetRep b m w) := by
  obtain ⟨i0, hi, hz0, hz1, hz2⟩ := info_parts infoU8
  have e1 : IntKind.u8.wrap b = b := by rw [IntKind.wrap_u8]; omega
  have own1 := own_new w w.heap.size (Nat.le_refl _) 5 _ rfl
  go_enter Try.func99, Try.ntmps99
  go_wp2
  go_loopw [5, 6] (fun v i wr => ∃ k : Nat, k ≤ m ∧ i = .int .i64 (k : Int) ∧ wr.ownsRow w.heap.size 5 1 v k ((List.replicate k b).map (Value.int .u8)) ∧ Below w.heap.size w wr) (fun _ i _ => m - (intOf i).toNat)
  case atStart => exact ⟨0, Nat.zero_le _, rfl, own1, (by repeat' (first | (with_reducible first | assumption | exact Below.refl _ _ | refine Below.drew ?_ | refine Below.alloc ?_ ?_ _ | refine Below.setCell ?_ ?_ _ | refine below_setR ?_ ?_ _ | refine below_dn ?_ _ | refine Below.trans ?_ (below_mo _ _ _ ?_) | refine Below.trans ?_ (below_mq _ _ ?_) | exact Nat.le_refl _) | (simp; done) | (simp; omega) | omega))⟩
  case round =>
    obtain ⟨k, hk, rfl, hown, hnx⟩ := hrel
    have hsize := hnx.size
    by_cases hlt : k < m
    · have g0 : (k : Int) < (m : Int) := by omega
      have e3 : IntKind.i64.wrap ((k : Int) + 1) = (k : Int) + 1 := IntWalk.i64_in _ ⟨by omega, by omega⟩
      go_wp2_with (first | (at_builtin; refine wpList_append_own _ rfl _ _ 24 rfl w.heap.size 5 i0 (.int .u8 0) 1 1 undStk hi hz0 hz1 hz2 rfl (by decide) _ _ _ rfl (hown.alloc _) ⟨wr.heap.size, 0, none⟩ 1 1 [.int .u8 b] rfl rfl (cell_one_new _ _ _) (fun x hx => by simp at hx; subst hx; rfl) (by unfold maxLen; omega) (by omega) (by simp; omega) ?_; intro v' w3 hown' hgrow3 hnil3))
      exact ⟨⟨k + 1, by omega, by go_num, by rw [List.replicate_succ', List.map_append]; exact hown', (hnx.alloc (by omega) _).grown hgrow3 (by first | (simp; done) | (simp; omega)) (fun q hq => (hown.lt q hq).1)⟩, by simp [intOf]; omega⟩
    · obtain rfl : k = m := by omega
      go_wp2
      go_ret
      exact ⟨_, rfl, hown, hnx⟩
end Go.Proofs.Ytkphbagckbbalaa.X
