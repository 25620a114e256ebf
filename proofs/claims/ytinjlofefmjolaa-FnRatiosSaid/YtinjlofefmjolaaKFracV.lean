/- The convergents of the program. Conditions: none. -/
import Derived.Test.YtinjlofefmjolaaKFracW
import Derived.Test.YtinjlofefmjolaaKTake
namespace Go.Proofs.Ytinjlofefmjolaa.X
open Go.RowKit
set_option linter.unusedVariables false
set_option linter.unusedSimpArgs false
set_option maxRecDepth 100000
theorem iso_region {P : Program} {c : Code} {R : Exit → Act → World → Prop} {a : Act} {w : World} (S : World → Prop) {F : Act → World → Act → World → Prop} (h : ∀ (x : World) (K : Exit → Act → World → Prop), S x → (∀ a' x', F a x a' x' → K .normal a' x') → Code.wp P c K a x) (hs : S w) (k : ∀ a' x', F a w a' x' → R .normal a' x') : Code.wp P c R a w := h w R hs k
set_option maxHeartbeats 8000000 in
theorem convergents_ok {P Q : Int} {N : Nat} (C : CF P Q N) {L : Option Addr} {V : World} {D : Nat} (hl : Nums .i64 V D L (tmT P Q N)) (cl : Nat) (w : World) (hv : Below D V w) : Calls Try.prog 45 #[.slice L N cl] w fun e w' => ∃ v, e = .returned (.tuple #[v, .bool true]) ∧ w'.ownsRow w.heap.size 25 2 v N (lcq .i64 (cvT P Q N)) ∧ Below w.heap.size w w' := by
  obtain ⟨i0, hi, hz0, hz1, hz2⟩ := info_parts infoRat
  have hN := C.n
  have hD := hl.bsz hv
  have HSTEP := Lib.hid (fun n (hn : n < N) => C.step hn)
  have htl := tmT_len P Q N
  have HC := Lib.hid C
  clear C
  go_enter Try.func45, Try.ntmps45
  go_wp2
  refine wp_at (fun u => u.ownsRow w.heap.size 25 2 (.slice (some ⟨w.heap.size, 0, none⟩) 0 0) 0 [] ∧ u.heap[w.heap.size + 1]? = some (.cells #[.int .i64 0, .int .i64 1] 25) ∧ u.heap[w.heap.size + 1 + 1]? = some (.cells #[.int .i64 1, .int .i64 0] 25) ∧ Below w.heap.size w u) _ ⟨((own_lit2Q w w.heap.size (Nat.le_refl _) 25 _ rfl).alloc _).alloc _, (by repeat' (first | (with_reducible assumption) | (with_reducible refine heap_mo_at ?_) | (with_reducible refine heap_mq_at ?_) | (with_reducible refine heap_drew_at ?_) | ((with_reducible refine heap_alloc_at ?_); first | rfl | (simp; done)) | (with_reducible refine heap_alloc_past ?_) | ((with_reducible apply heap_set_at); (first | rfl | (simp; done))) | ((with_reducible apply heap_set_past); (first | (simp; done) | (simp; omega) | omega)) | ((with_reducible apply heap_setC_past); (first | (simp; done) | (simp; omega) | omega)) | fail)), (by repeat' (first | (with_reducible assumption) | (with_reducible refine heap_mo_at ?_) | (with_reducible refine heap_mq_at ?_) | (with_reducible refine heap_drew_at ?_) | ((with_reducible refine heap_alloc_at ?_); first | rfl | (simp; done)) | (with_reducible refine heap_alloc_past ?_) | ((with_reducible apply heap_set_at); (first | rfl | (simp; done))) | ((with_reducible apply heap_set_past); (first | (simp; done) | (simp; omega) | omega)) | ((with_reducible apply heap_setC_past); (first | (simp; done) | (simp; omega) | omega)) | fail)), (by repeat' (first | (with_reducible first | assumption | exact Below.refl _ _ | refine Below.drew ?_ | refine Below.alloc ?_ ?_ _ | refine Below.setCell ?_ ?_ _ | refine below_setR ?_ ?_ _ | refine below_dn ?_ _ | refine Below.trans ?_ (below_mo _ _ _ ?_) | refine Below.trans ?_ (below_mq _ _ ?_) | exact Nat.le_refl _) | (simp; done) | (simp; omega) | omega))⟩ ?_
  rintro U ⟨o1, a1, a2, hU⟩
  go_loopw [4, 14] (fun v i wr => ∃ n : Nat, n ≤ N ∧ i = .int .i64 (n : Int) ∧ wr.ownsRow w.heap.size 25 2 v n (lcq .i64 (cvT P Q n)) ∧ some (w.heap.size + 1) ≠ v.ownBlock ∧ some (w.heap.size + 1 + 1) ≠ v.ownBlock ∧ wr.heap[w.heap.size + 1]? = some (.cells #[.int .i64 (hS P Q n).1, .int .i64 (hS P Q n).2] 25) ∧ wr.heap[w.heap.size + 1 + 1]? = some (.cells #[.int .i64 (hS P Q (n + 1)).1, .int .i64 (hS P Q (n + 1)).2] 25) ∧ Below w.heap.size w wr) (fun _ i _ => N - (intOf i).toNat)
  case atStart => exact ⟨0, Nat.zero_le _, rfl, o1, by simp [Value.ownBlock], by simp [Value.ownBlock]; omega, a1, a2, hU⟩
  case round =>
    obtain ⟨n, hn, rfl, hown, n1, n2, b1, b2, hB⟩ := hrel
    have hsize := hB.size
    by_cases hlt : n < N
    · obtain ⟨b, off, rfl, hbs, xt⟩ := hl.at (hv.trans (hB.mono hD)) (show n < (tmT P Q N).length by omega)
      rw [tmT_el P Q hlt] at xt
      obtain ⟨⟨s1, s2⟩, ⟨s3, s4⟩, s5⟩ := HSTEP.out n hlt
      have HS5 := Lib.hid s5
      have t1 : aT P Q n * (hS P Q (n + 1)).1 + (hS P Q n).1 = (hS P Q (n + 2)).1 := by rw [s5]
      have t2 : aT P Q n * (hS P Q (n + 1)).2 + (hS P Q n).2 = (hS P Q (n + 2)).2 := by rw [s5]
      have e1 : IntKind.i64.wrap (aT P Q n * (hS P Q (n + 1)).1) = aT P Q n * (hS P Q (n + 1)).1 := IntWalk.i64_in _ ⟨by omega, by omega⟩
      have e2 : IntKind.i64.wrap (aT P Q n * (hS P Q (n + 1)).2) = aT P Q n * (hS P Q (n + 1)).2 := IntWalk.i64_in _ ⟨by omega, by omega⟩
      have e3 : IntKind.i64.wrap (aT P Q n * (hS P Q (n + 1)).1 + (hS P Q n).1) = (hS P Q (n + 2)).1 := by rw [t1]; exact IntWalk.i64_in _ ⟨by omega, by omega⟩
      have e4 : IntKind.i64.wrap (aT P Q n * (hS P Q (n + 1)).2 + (hS P Q n).2) = (hS P Q (n + 2)).2 := by rw [t2]; exact IntWalk.i64_in _ ⟨by omega, by omega⟩
      have g0 : (n : Int) < (N : Int) := by omega
      have g3 : ¬ (1000000000 : Int) < (hS P Q (n + 2)).1 := by omega
      have g4 : ¬ (1000000000 : Int) < (hS P Q (n + 2)).2 := by omega
      have e5 : IntKind.i64.wrap ((n : Int) + 1) = (n : Int) + 1 := IntWalk.i64_in _ ⟨by omega, by omega⟩
      clear s1 s2 s3 s4 s5 t1 t2
      have l1 := (Array.getElem?_eq_some_iff.1 b1).1
      have l2 := (Array.getElem?_eq_some_iff.1 b2).1
      obtain ⟨y0, y1, y4, y5⟩ := two_atQ b1
      obtain ⟨y2, y3, y6, y7⟩ := two_atQ b2
      have HB1 := Lib.hid b1
      have HB2 := Lib.hid b2
      have HOW := Lib.hid hown
      clear b1 b2 hown
      go_wp2
      go_cut [] (fun wx => wx.ownsRow w.heap.size 25 2 u4 n (lcq .i64 (cvT P Q n)) ∧ wx.heap[w.heap.size + 1]? = some (.cells #[.int .i64 (hS P Q (n + 1)).1, .int .i64 (hS P Q (n + 1)).2] 25) ∧ wx.heap[w.heap.size + 1 + 1]? = some (.cells #[.int .i64 (hS P Q (n + 2)).1, .int .i64 (hS P Q (n + 2)).2] 25) ∧ Below w.heap.size w wx)
      case first =>
        rename_i q1 k2 a4 q0 k1 a3 k0 a2 j0 kk aJ aM
        have HM := Lib.hid aM
        have hne1' : w.heap.size + 1 ≠ w.heap.size + 1 + 1 := by omega
        have hne2' : w.heap.size + 1 + 1 ≠ w.heap.size + 1 := by omega
        have FIN := Lib.hid (show (((((wr.drew.setCell ⟨w.heap.size + 1, 0, none⟩ (.int .i64 (hS P Q (n + 1)).1)).setCell ⟨w.heap.size + 1, 1, none⟩ (.int .i64 (hS P Q (n + 1)).2)).setCell ⟨w.heap.size + 1 + 1, 0, none⟩ (.int .i64 (hS P Q (n + 2)).1)).setCell ⟨w.heap.size + 1 + 1, 1, none⟩ (.int .i64 (hS P Q (n + 2)).2)).ownsRow w.heap.size 25 2 u4 n (lcq .i64 (cvT P Q n)) ∧ ((((wr.drew.setCell ⟨w.heap.size + 1, 0, none⟩ (.int .i64 (hS P Q (n + 1)).1)).setCell ⟨w.heap.size + 1, 1, none⟩ (.int .i64 (hS P Q (n + 1)).2)).setCell ⟨w.heap.size + 1 + 1, 0, none⟩ (.int .i64 (hS P Q (n + 2)).1)).setCell ⟨w.heap.size + 1 + 1, 1, none⟩ (.int .i64 (hS P Q (n + 2)).2)).heap[w.heap.size + 1]? = some (.cells #[.int .i64 (hS P Q (n + 1)).1, .int .i64 (hS P Q (n + 1)).2] 25) ∧ ((((wr.drew.setCell ⟨w.heap.size + 1, 0, none⟩ (.int .i64 (hS P Q (n + 1)).1)).setCell ⟨w.heap.size + 1, 1, none⟩ (.int .i64 (hS P Q (n + 1)).2)).setCell ⟨w.heap.size + 1 + 1, 0, none⟩ (.int .i64 (hS P Q (n + 2)).1)).setCell ⟨w.heap.size + 1 + 1, 1, none⟩ (.int .i64 (hS P Q (n + 2)).2)).heap[w.heap.size + 1 + 1]? = some (.cells #[.int .i64 (hS P Q (n + 2)).1, .int .i64 (hS P Q (n + 2)).2] 25) ∧ Below w.heap.size w ((((wr.drew.setCell ⟨w.heap.size + 1, 0, none⟩ (.int .i64 (hS P Q (n + 1)).1)).setCell ⟨w.heap.size + 1, 1, none⟩ (.int .i64 (hS P Q (n + 1)).2)).setCell ⟨w.heap.size + 1 + 1, 0, none⟩ (.int .i64 (hS P Q (n + 2)).1)).setCell ⟨w.heap.size + 1 + 1, 1, none⟩ (.int .i64 (hS P Q (n + 2)).2))) from ⟨own_set01 (own_set01 (own_drew HOW.out) n1) n2, set01_o hne1' (set01 (w := wr.drew) HB1.out), set01 (set01_o (w := wr.drew) hne2' HB2.out), below_set01 (below_set01 (Below.drew hB) (by omega)) (by omega)⟩)
        clear hne1' hne2'
        clear a2 a3 a4 aM hl hi hz0 hz1 hz2 hN hD HSTEP htl HC o1 a1 hU hn n1 n2 hB hsize hlt hbs xt HS5 g0 e5 g3 g4 hv HOW
        have hne1 : ¬ w.heap.size + 1 = w.heap.size + 1 + 1 := by omega
        have hne2 : ¬ w.heap.size + 1 + 1 = w.heap.size + 1 := by omega
        generalize w.heap.size + 1 + 1 = g6 at *
        generalize w.heap.size + 1 = g5 at *
        generalize aT P Q n = A at *
        generalize (hS P Q n).1 = p0 at *
        generalize (hS P Q n).2 = q0' at *
        generalize (hS P Q (n + 1)).1 = p1' at *
        generalize (hS P Q (n + 1)).2 = q1' at *
        generalize (hS P Q (n + 2)).1 = p2' at *
        generalize (hS P Q (n + 2)).2 = q2' at *
        have C5 : Hid (wr.drew.cell? ⟨g5, 0, none⟩ = some (.int .i64 p0) ∧ wr.drew.cell? ⟨g5, 1, none⟩ = some (.int .i64 q0')) := ⟨y0, y1⟩
        have C6 : Hid (wr.drew.cell? ⟨g6, 0, none⟩ = some (.int .i64 p1') ∧ wr.drew.cell? ⟨g6, 1, none⟩ = some (.int .i64 q1')) := ⟨y2, y3⟩
        have aM := HM.out
        clear HM HB1 HB2
        refine wp_region_Xn 18 #[false, false, false, false, false, false, false, false, false, false, false, false, false, false, false, false, false, false] (S := fun l w' => (l.getD 16 false = true ∨ w'.cell? ⟨g5, 0, none⟩ = some (.int .i64 p0) ∧ w'.cell? ⟨g5, 1, none⟩ = some (.int .i64 q0')) ∧ (l.getD 17 false = true ∨ w'.cell? ⟨g6, 0, none⟩ = some (.int .i64 p1') ∧ w'.cell? ⟨g6, 1, none⟩ = some (.int .i64 q1'))) (by kernel_rfl) (by kernel_rfl) (by kernel_rfl) ?_
        refine wpAnyX_take (i := 0) 17 (v := ?v0) rfl (by kernel_rfl) rfl (by kernel_rfl) (by kernel_rfl) (by kernel_rfl) (fun _ _ _ h => h) (fun l w' => by simp only [getD_set_ne false (show 0 ≠ 16 by decide), getD_set_ne false (show 0 ≠ 17 by decide)]) ⟨Or.inr C5.out, Or.inr C6.out⟩ (Or.inl ⟨by rfl, ?hy0⟩) ?rest0
        case hy0 =>
          rintro w' ⟨l', hl', hS'⟩
          rcases hS'.2 with h | ⟨h1, h2⟩
          · rw [getD_both hl'] at h; cases h
          clear hS' hl'
          go_simp
          with_reducible rfl
        simp only [Act.put, List.getElem_toArray, List.getElem_cons_succ, List.getElem_cons_zero, List.setIfInBounds_toArray, List.set_cons_zero, List.set_cons_succ]
        refine wpAnyX_take (i := 1) 17 (v := ?v1) rfl (by kernel_rfl) rfl (by kernel_rfl) (by kernel_rfl) (by kernel_rfl) (fun _ _ _ h => h) (fun l w' => by simp only [getD_set_ne false (show 1 ≠ 16 by decide), getD_set_ne false (show 1 ≠ 17 by decide)]) ⟨Or.inr C5.out, Or.inr C6.out⟩ (Or.inl ⟨by rfl, ?hy1⟩) ?rest1
        case hy1 =>
          intro w' _
          go_simp
          with_reducible rfl
        simp only [Act.put, List.getElem_toArray, List.getElem_cons_succ, List.getElem_cons_zero, List.setIfInBounds_toArray, List.set_cons_zero, List.set_cons_succ]
        refine wpAnyX_take (i := 2) 17 (v := ?v2) rfl (by kernel_rfl) rfl (by kernel_rfl) (by kernel_rfl) (by kernel_rfl) (fun _ _ _ h => h) (fun l w' => by simp only [getD_set_ne false (show 2 ≠ 16 by decide), getD_set_ne false (show 2 ≠ 17 by decide)]) ⟨Or.inr C5.out, Or.inr C6.out⟩ (Or.inl ⟨by rfl, ?hy2⟩) ?rest2
        case hy2 =>
          intro w' _
          go_simp
          with_reducible rfl
        simp only [Act.put, List.getElem_toArray, List.getElem_cons_succ, List.getElem_cons_zero, List.setIfInBounds_toArray, List.set_cons_zero, List.set_cons_succ]
        refine wpAnyX_take (i := 3) 17 (v := ?v3) rfl (by kernel_rfl) rfl (by kernel_rfl) (by kernel_rfl) (by kernel_rfl) (fun _ _ _ h => h) (fun l w' => by simp only [getD_set_ne false (show 3 ≠ 16 by decide), getD_set_ne false (show 3 ≠ 17 by decide)]) ⟨Or.inr C5.out, Or.inr C6.out⟩ (Or.inl ⟨by rfl, ?hy3⟩) ?rest3
        case hy3 =>
          rintro w' ⟨l', hl', hS'⟩
          rcases hS'.2 with h | ⟨h1, h2⟩
          · rw [getD_both hl'] at h; cases h
          clear hS' hl'
          go_simp
          with_reducible rfl
        simp only [Act.put, List.getElem_toArray, List.getElem_cons_succ, List.getElem_cons_zero, List.setIfInBounds_toArray, List.set_cons_zero, List.set_cons_succ]
        refine wpAnyX_take (i := 4) 17 (v := ?v4) rfl (by kernel_rfl) rfl (by kernel_rfl) (by kernel_rfl) (by kernel_rfl) (fun _ _ _ h => h) (fun l w' => by simp only [getD_set_ne false (show 4 ≠ 16 by decide), getD_set_ne false (show 4 ≠ 17 by decide)]) ⟨Or.inr C5.out, Or.inr C6.out⟩ (Or.inl ⟨by rfl, ?hy4⟩) ?rest4
        case hy4 =>
          intro w' _
          go_simp
          with_reducible rfl
        simp only [Act.put, List.getElem_toArray, List.getElem_cons_succ, List.getElem_cons_zero, List.setIfInBounds_toArray, List.set_cons_zero, List.set_cons_succ]
        refine wpAnyX_take (i := 5) 16 (v := ?v5) rfl (by kernel_rfl) rfl (by kernel_rfl) (by kernel_rfl) (by kernel_rfl) (fun _ _ _ h => h) (fun l w' => by simp only [getD_set_ne false (show 5 ≠ 16 by decide), getD_set_ne false (show 5 ≠ 17 by decide)]) ⟨Or.inr C5.out, Or.inr C6.out⟩ (Or.inl ⟨by rfl, ?hy5⟩) ?rest5
        case hy5 =>
          intro w' _
          go_simp
          with_reducible rfl
        simp only [Act.put, List.getElem_toArray, List.getElem_cons_succ, List.getElem_cons_zero, List.setIfInBounds_toArray, List.set_cons_zero, List.set_cons_succ]
        refine wpAnyX_take (i := 6) 16 (v := ?v6) rfl (by kernel_rfl) rfl (by kernel_rfl) (by kernel_rfl) (by kernel_rfl) (fun _ _ _ h => h) (fun l w' => by simp only [getD_set_ne false (show 6 ≠ 16 by decide), getD_set_ne false (show 6 ≠ 17 by decide)]) ⟨Or.inr C5.out, Or.inr C6.out⟩ (Or.inl ⟨by rfl, ?hy6⟩) ?rest6
        case hy6 =>
          rintro w' ⟨l', hl', hS'⟩
          rcases hS'.1 with h | ⟨h1, h2⟩
          · rw [getD_both hl'] at h; cases h
          clear hS' hl'
          go_simp
          with_reducible rfl
        simp only [Act.put, List.getElem_toArray, List.getElem_cons_succ, List.getElem_cons_zero, List.setIfInBounds_toArray, List.set_cons_zero, List.set_cons_succ]
        refine wpAnyX_take (i := 7) 17 (v := ?v7) rfl (by kernel_rfl) rfl (by kernel_rfl) (by kernel_rfl) (by kernel_rfl) (fun _ _ _ h => h) (fun l w' => by simp only [getD_set_ne false (show 7 ≠ 16 by decide), getD_set_ne false (show 7 ≠ 17 by decide)]) ⟨Or.inr C5.out, Or.inr C6.out⟩ (Or.inl ⟨by rfl, ?hy7⟩) ?rest7
        case hy7 =>
          intro w' _
          go_simp
          with_reducible rfl
        simp only [Act.put, List.getElem_toArray, List.getElem_cons_succ, List.getElem_cons_zero, List.setIfInBounds_toArray, List.set_cons_zero, List.set_cons_succ]
        refine wpAnyX_take (i := 8) 17 (v := ?v8) rfl (by kernel_rfl) rfl (by kernel_rfl) (by kernel_rfl) (by kernel_rfl) (fun _ _ _ h => h) (fun l w' => by simp only [getD_set_ne false (show 8 ≠ 16 by decide), getD_set_ne false (show 8 ≠ 17 by decide)]) ⟨Or.inr C5.out, Or.inr C6.out⟩ (Or.inl ⟨by rfl, ?hy8⟩) ?rest8
        case hy8 =>
          intro w' _
          go_simp
          with_reducible rfl
        simp only [Act.put, List.getElem_toArray, List.getElem_cons_succ, List.getElem_cons_zero, List.setIfInBounds_toArray, List.set_cons_zero, List.set_cons_succ]
        refine wpAnyX_take (i := 9) 17 (v := ?v9) rfl (by kernel_rfl) rfl (by kernel_rfl) (by kernel_rfl) (by kernel_rfl) (fun _ _ _ h => h) (fun l w' => by simp only [getD_set_ne false (show 9 ≠ 16 by decide), getD_set_ne false (show 9 ≠ 17 by decide)]) ⟨Or.inr C5.out, Or.inr C6.out⟩ (Or.inl ⟨by rfl, ?hy9⟩) ?rest9
        case hy9 =>
          intro w' _
          go_simp
          with_reducible rfl
        simp only [Act.put, List.getElem_toArray, List.getElem_cons_succ, List.getElem_cons_zero, List.setIfInBounds_toArray, List.set_cons_zero, List.set_cons_succ]
        refine wpAnyX_take (i := 10) 17 (v := ?v10) rfl (by kernel_rfl) rfl (by kernel_rfl) (by kernel_rfl) (by kernel_rfl) (fun _ _ _ h => h) (fun l w' => by simp only [getD_set_ne false (show 10 ≠ 16 by decide), getD_set_ne false (show 10 ≠ 17 by decide)]) ⟨Or.inr C5.out, Or.inr C6.out⟩ (Or.inl ⟨by rfl, ?hy10⟩) ?rest10
        case hy10 =>
          rintro w' ⟨l', hl', hS'⟩
          rcases hS'.2 with h | ⟨h1, h2⟩
          · rw [getD_both hl'] at h; cases h
          clear hS' hl'
          go_simp
          with_reducible rfl
        simp only [Act.put, List.getElem_toArray, List.getElem_cons_succ, List.getElem_cons_zero, List.setIfInBounds_toArray, List.set_cons_zero, List.set_cons_succ]
        refine wpAnyX_take (i := 11) 17 (v := ?v11) rfl (by kernel_rfl) rfl (by kernel_rfl) (by kernel_rfl) (by kernel_rfl) (fun _ _ _ h => h) (fun l w' => by simp only [getD_set_ne false (show 11 ≠ 16 by decide), getD_set_ne false (show 11 ≠ 17 by decide)]) ⟨Or.inr C5.out, Or.inr C6.out⟩ (Or.inl ⟨by rfl, ?hy11⟩) ?rest11
        case hy11 =>
          intro w' _
          go_simp
          with_reducible rfl
        simp only [Act.put, List.getElem_toArray, List.getElem_cons_succ, List.getElem_cons_zero, List.setIfInBounds_toArray, List.set_cons_zero, List.set_cons_succ]
        refine wpAnyX_take (i := 12) 16 (v := ?v12) rfl (by kernel_rfl) rfl (by kernel_rfl) (by kernel_rfl) (by kernel_rfl) (fun _ _ _ h => h) (fun l w' => by simp only [getD_set_ne false (show 12 ≠ 16 by decide), getD_set_ne false (show 12 ≠ 17 by decide)]) ⟨Or.inr C5.out, Or.inr C6.out⟩ (Or.inl ⟨by rfl, ?hy12⟩) ?rest12
        case hy12 =>
          intro w' _
          go_simp
          with_reducible rfl
        simp only [Act.put, List.getElem_toArray, List.getElem_cons_succ, List.getElem_cons_zero, List.setIfInBounds_toArray, List.set_cons_zero, List.set_cons_succ]
        refine wpAnyX_take (i := 13) 16 (v := ?v13) rfl (by kernel_rfl) rfl (by kernel_rfl) (by kernel_rfl) (by kernel_rfl) (fun _ _ _ h => h) (fun l w' => by simp only [getD_set_ne false (show 13 ≠ 16 by decide), getD_set_ne false (show 13 ≠ 17 by decide)]) ⟨Or.inr C5.out, Or.inr C6.out⟩ (Or.inl ⟨by rfl, ?hy13⟩) ?rest13
        case hy13 =>
          rintro w' ⟨l', hl', hS'⟩
          rcases hS'.1 with h | ⟨h1, h2⟩
          · rw [getD_both hl'] at h; cases h
          clear hS' hl'
          go_simp
          with_reducible rfl
        simp only [Act.put, List.getElem_toArray, List.getElem_cons_succ, List.getElem_cons_zero, List.setIfInBounds_toArray, List.set_cons_zero, List.set_cons_succ]
        refine wpAnyX_take (i := 14) 17 (v := ?v14) rfl (by kernel_rfl) rfl (by kernel_rfl) (by kernel_rfl) (by kernel_rfl) (fun _ _ _ h => h) (fun l w' => by simp only [getD_set_ne false (show 14 ≠ 16 by decide), getD_set_ne false (show 14 ≠ 17 by decide)]) ⟨Or.inr C5.out, Or.inr C6.out⟩ (Or.inl ⟨by rfl, ?hy14⟩) ?rest14
        case hy14 =>
          intro w' _
          go_simp
          with_reducible rfl
        simp only [Act.put, List.getElem_toArray, List.getElem_cons_succ, List.getElem_cons_zero, List.setIfInBounds_toArray, List.set_cons_zero, List.set_cons_succ]
        refine wpAnyX_take (i := 15) 17 (v := ?v15) rfl (by kernel_rfl) rfl (by kernel_rfl) (by kernel_rfl) (by kernel_rfl) (fun _ _ _ h => h) (fun l w' => by simp only [getD_set_ne false (show 15 ≠ 16 by decide), getD_set_ne false (show 15 ≠ 17 by decide)]) ⟨Or.inr C5.out, Or.inr C6.out⟩ (Or.inl ⟨by rfl, ?hy15⟩) ?rest15
        case hy15 =>
          intro w' _
          go_simp
          with_reducible rfl
        simp only [Act.put, List.getElem_toArray, List.getElem_cons_succ, List.getElem_cons_zero, List.setIfInBounds_toArray, List.set_cons_zero, List.set_cons_succ]
        refine wpAnyX_one (i := 16) (by kernel_rfl) rfl ?_
        intro K hK
        go_simp
        refine hK _ _ ⟨Or.inl rfl, Or.inr ?_⟩ ?_
        · exact ⟨by simp [go_sem, *], by simp [go_sem, *]⟩
        clear hK K
        refine wpAnyX_one (i := 17) (by kernel_rfl) rfl ?_
        intro K hK
        go_simp
        refine hK _ _ ⟨Or.inl rfl, Or.inl rfl⟩ ?_
        clear hK K
        refine wpAnyX_done (by kernel_rfl) ?_
        (go_wp2_with fail)
        go_meet
        exact FIN.out
      obtain ⟨hown, b1, b2, hB2⟩ := hcut
      have hs2 := hB2.size
      have l3 := (Array.getElem?_eq_some_iff.1 b1).1
      have l4 := (Array.getElem?_eq_some_iff.1 b2).1
      obtain ⟨y2', y3', y6', y7'⟩ := two_atQ b2
      have HB3 := Lib.hid b1
      have HB4 := Lib.hid b2
      clear b1 b2 HB1 HB2 HOW y0 y1 y2 y3 y4 y5 y6 y7
      go_wp2_with (first | (at_builtin; refine wpList_append_lies _ rfl _ _ 32 rfl w.heap.size 25 i0 (.agg #[.int .i64 0, .int .i64 0]) 2 16 undRat hi hz0 hz1 hz2 rfl (by decide) _ _ _ rfl (hown.alloc _) ⟨wc.heap.size, 0, none⟩ 1 1 [.int .i64 (hS P Q (n + 2)).1, .int .i64 (hS P Q (n + 2)).2] rfl rfl (cell_two_newQ _ _ _ _) (fun z hz => by simp at hz; rcases hz with rfl | rfl <;> rfl) (by omega) (by unfold maxLen; omega) (by omega) (by simp; omega) _ rfl ?_; intro g' cap w11 own11 hgrow hat hlt11))
      have m1 : w.heap.size + 1 ≠ g' := by
        rcases hat with h | h
        · exact fun e => n1 (by rw [e]; exact h.symm)
        · rw [h]; simp; omega
      have m2 : w.heap.size + 1 + 1 ≠ g' := by
        rcases hat with h | h
        · exact fun e => n2 (by rw [e]; exact h.symm)
        · rw [h]; simp; omega
      exact ⟨⟨n + 1, by omega, by go_num, by rw [cvT_succ, lcq_app]; exact own11, by simp [Value.ownBlock]; omega, by simp [Value.ownBlock]; omega, keepGQ HB3.out hgrow n1, keepGQ HB4.out hgrow n2, (hB2.alloc (by omega) _).grown hgrow (by first | (simp; done) | (simp; omega)) (fun q hq => (hown.lt q hq).1)⟩, by simp [intOf]; omega⟩
    · obtain rfl : n = N := by omega
      have g0 : ¬ (n : Int) < (n : Int) := by omega
      go_wp2
      go_returns
      exact ⟨u4, rfl, hown, hB⟩
end Go.Proofs.Ytinjlofefmjolaa.X
