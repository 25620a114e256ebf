/- Convergents of the reference; FromTerms; lists of ratios. Conditions: none. -/
import Derived.Test.YtinjlofefmjolaaKFracW
import Derived.Deep.RegionHeld3
namespace Go.Proofs.Ytinjlofefmjolaa.X
open Go.RowKit
set_option linter.unusedVariables false
set_option linter.unusedSimpArgs false
set_option maxRecDepth 100000
theorem still_tail {P : Program} {id : Nat} {Q : Exit → Act → World → Prop} {a : Act} {w : World} {l : List Oper} (n : Nat) (hm : P.follows .mixedOrders = true) (hB : Region.lexTailB .any l.toArray n = true)
    (h : wpStill P l.toArray w.drew (fun a' => wpList P l.toArray Q (l.drop n) a' w.drew) (l.take n) a) : (Code.region id l.toArray true).wp P Q a w := wp_region_still_tail n hm hB h
set_option maxHeartbeats 8000000 in
theorem l03From_ok {P Q : Int} {N : Nat} (C : CF P Q N) {L : Option Addr} {V : World} {D : Nat} (hl : Nums .i64 V D L (tmT P Q N)) (cl : Nat) (w : World) (hv : Below D V w) : Calls Try.prog 48 #[.slice L N cl] w fun e w' => ∃ v, e = .returned (.tuple #[v, .int .i64 0]) ∧ w'.ownsRow w.heap.size 25 2 v N (lcq .i64 (cvT P Q N)) ∧ Below w.heap.size w w' := by
  obtain ⟨i0, hi, hz0, hz1, hz2⟩ := info_parts infoRat
  have hN := C.n
  have hD := hl.bsz hv
  have HSTEP := Lib.hid (fun n (hn : n < N) => C.step hn)
  have htl := tmT_len P Q N
  clear C
  go_enter Try.func48, Try.ntmps48
  go_wp2
  refine wp_at (fun u => u.ownsRow w.heap.size 25 2 (.slice (some ⟨w.heap.size, 0, none⟩) 0 0) 0 [] ∧ u.heap[w.heap.size + 1]? = some (.cells #[.int .i64 1, .int .i64 0] 25) ∧ u.heap[w.heap.size + 1 + 1]? = some (.cells #[.int .i64 0, .int .i64 1] 25) ∧ Below w.heap.size w u) _ ⟨((own_lit2Q w w.heap.size (Nat.le_refl _) 25 _ rfl).alloc _).alloc _, (by repeat' (first | (with_reducible assumption) | (with_reducible refine heap_mo_at ?_) | (with_reducible refine heap_mq_at ?_) | (with_reducible refine heap_drew_at ?_) | ((with_reducible refine heap_alloc_at ?_); first | rfl | (simp; done)) | (with_reducible refine heap_alloc_past ?_) | ((with_reducible apply heap_set_at); (first | rfl | (simp; done))) | ((with_reducible apply heap_set_past); (first | (simp; done) | (simp; omega) | omega)) | ((with_reducible apply heap_setC_past); (first | (simp; done) | (simp; omega) | omega)) | fail)), (by repeat' (first | (with_reducible assumption) | (with_reducible refine heap_mo_at ?_) | (with_reducible refine heap_mq_at ?_) | (with_reducible refine heap_drew_at ?_) | ((with_reducible refine heap_alloc_at ?_); first | rfl | (simp; done)) | (with_reducible refine heap_alloc_past ?_) | ((with_reducible apply heap_set_at); (first | rfl | (simp; done))) | ((with_reducible apply heap_set_past); (first | (simp; done) | (simp; omega) | omega)) | ((with_reducible apply heap_setC_past); (first | (simp; done) | (simp; omega) | omega)) | fail)), (by repeat' (first | (with_reducible first | assumption | exact Below.refl _ _ | refine Below.drew ?_ | refine Below.alloc ?_ ?_ _ | refine Below.setCell ?_ ?_ _ | refine below_setR ?_ ?_ _ | refine below_dn ?_ _ | refine Below.trans ?_ (below_mo _ _ _ ?_) | refine Below.trans ?_ (below_mq _ _ ?_) | exact Nat.le_refl _) | (simp; done) | (simp; omega) | omega))⟩ ?_
  rintro U ⟨o1, a1, a2, hU⟩
  go_loopw [4, 7] (fun v i wr => ∃ n : Nat, n ≤ N ∧ i = .int .i64 (n : Int) ∧ wr.ownsRow w.heap.size 25 2 v n (lcq .i64 (cvT P Q n)) ∧ some (w.heap.size + 1) ≠ v.ownBlock ∧ some (w.heap.size + 1 + 1) ≠ v.ownBlock ∧ wr.heap[w.heap.size + 1]? = some (.cells #[.int .i64 (hS P Q (n + 1)).1, .int .i64 (hS P Q (n + 1)).2] 25) ∧ wr.heap[w.heap.size + 1 + 1]? = some (.cells #[.int .i64 (hS P Q n).1, .int .i64 (hS P Q n).2] 25) ∧ Below w.heap.size w wr) (fun _ i _ => N - (intOf i).toNat)
  case atStart => exact ⟨0, Nat.zero_le _, rfl, o1, by simp [Value.ownBlock], by simp [Value.ownBlock]; omega, a1, a2, hU⟩
  case round =>
    obtain ⟨n, hn, rfl, hown, n1, n2, b1, b2, hB⟩ := hrel
    have hsize := hB.size
    by_cases hlt : n < N
    · obtain ⟨b, off, rfl, hbs, xt⟩ := hl.at (hv.trans (hB.mono hD)) (show n < (tmT P Q N).length by omega)
      rw [tmT_el P Q hlt] at xt
      obtain ⟨⟨s1, s2⟩, ⟨s3, s4⟩, s5⟩ := HSTEP.out n hlt
      have t1 : aT P Q n * (hS P Q (n + 1)).1 + (hS P Q n).1 = (hS P Q (n + 2)).1 := by rw [s5]
      have t2 : aT P Q n * (hS P Q (n + 1)).2 + (hS P Q n).2 = (hS P Q (n + 2)).2 := by rw [s5]
      have e1 : IntKind.i64.wrap (aT P Q n * (hS P Q (n + 1)).1) = aT P Q n * (hS P Q (n + 1)).1 := IntWalk.i64_in _ ⟨by omega, by omega⟩
      have e2 : IntKind.i64.wrap (aT P Q n * (hS P Q (n + 1)).2) = aT P Q n * (hS P Q (n + 1)).2 := IntWalk.i64_in _ ⟨by omega, by omega⟩
      have e3 : IntKind.i64.wrap (aT P Q n * (hS P Q (n + 1)).1 + (hS P Q n).1) = (hS P Q (n + 2)).1 := by rw [t1]; exact IntWalk.i64_in _ ⟨by omega, by omega⟩
      have e4 : IntKind.i64.wrap (aT P Q n * (hS P Q (n + 1)).2 + (hS P Q n).2) = (hS P Q (n + 2)).2 := by rw [t2]; exact IntWalk.i64_in _ ⟨by omega, by omega⟩
      have g0 : (n : Int) < (N : Int) := by omega
      have j0 : (0 : Int) ≤ (n : Int) := by omega
      have g3 : ¬ (1000000000 : Int) < (hS P Q (n + 2)).1 := by omega
      have g4 : ¬ (1000000000 : Int) < (hS P Q (n + 2)).2 := by omega
      have e5 : IntKind.i64.wrap ((n : Int) + 1) = (n : Int) + 1 := IntWalk.i64_in _ ⟨by omega, by omega⟩
      clear s1 s2 s3 s4 s5 t1 t2
      have l1 := (Array.getElem?_eq_some_iff.1 b1).1
      have l2 := (Array.getElem?_eq_some_iff.1 b2).1
      obtain ⟨y0, y1, y4, y5⟩ := two_atQ b1
      obtain ⟨y2, y3, y6, y7⟩ := two_atQ b2
      have HB1 := Lib.hid b1
      have HB2 := Lib.hid b2
      have HOW := Lib.hid hown
      have HBw := Lib.hid hB
      clear b1 b2 hown hv
      go_wp2
      go_cut [8] (fun x wx => x = .pointer (some ⟨wr.heap.size, 0, none⟩) ∧ wx.ownsRow w.heap.size 25 2 u4 n (lcq .i64 (cvT P Q n)) ∧ wx.heap[w.heap.size + 1]? = some (.cells #[.int .i64 (hS P Q (n + 1)).1, .int .i64 (hS P Q (n + 1)).2] 25) ∧ wx.heap[w.heap.size + 1 + 1]? = some (.cells #[.int .i64 (hS P Q n).1, .int .i64 (hS P Q n).2] 25) ∧ wx.heap[wr.heap.size]? = some (.cells #[.int .i64 (hS P Q (n + 2)).1, .int .i64 (hS P Q (n + 2)).2] 25) ∧ Below w.heap.size w wx)
      case first =>
        have m1 : ¬ wr.heap.size = w.heap.size + 1 := by omega
        have m2 : ¬ wr.heap.size = w.heap.size + 1 + 1 := by omega
        have m3 : ¬ wr.heap.size = b := by omega
        have m4 : wr.drew.heap.size = wr.heap.size := rfl
        have HA : Hid (wr.drew.cell? ⟨b, off + n, none⟩ = some (.int .i64 (aT P Q n)) ∧ wr.drew.cell? ⟨w.heap.size + 1, 0, none⟩ = some (.int .i64 (hS P Q (n + 1)).1) ∧ wr.drew.cell? ⟨w.heap.size + 1, 1, none⟩ = some (.int .i64 (hS P Q (n + 1)).2) ∧ wr.drew.cell? ⟨w.heap.size + 1 + 1, 0, none⟩ = some (.int .i64 (hS P Q n).1) ∧ wr.drew.cell? ⟨w.heap.size + 1 + 1, 1, none⟩ = some (.int .i64 (hS P Q n).2)) := ⟨xt, y0, y1, y2, y3⟩
        clear hi hz0 hz1 hz2 HSTEP hD hl htl o1 a1 a2 hU hN
        go_region_held3 (fun w' => w'.cell? ⟨b, off + n, none⟩ = some (.int .i64 (aT P Q n)) ∧ w'.cell? ⟨w.heap.size + 1, 0, none⟩ = some (.int .i64 (hS P Q (n + 1)).1) ∧ w'.cell? ⟨w.heap.size + 1, 1, none⟩ = some (.int .i64 (hS P Q (n + 1)).2) ∧ w'.cell? ⟨w.heap.size + 1 + 1, 0, none⟩ = some (.int .i64 (hS P Q n).1) ∧ w'.cell? ⟨w.heap.size + 1 + 1, 1, none⟩ = some (.int .i64 (hS P Q n).2)) (first | exact HA.out | go_keep) (fail)
        all_goals (go_wp2_with fail)
        all_goals go_meet
        all_goals exact ⟨rfl, (own_drew HOW.out).alloc _, heap_alloc_past (w := wr.drew) HB1.out, heap_alloc_past (w := wr.drew) HB2.out, heap_alloc_at rfl, Below.alloc (Below.drew HBw.out) (by first | omega | (simp; omega)) _⟩
      obtain ⟨rfl, hown, b1, b2, b3, hB2⟩ := hcut
      have n3 : some wr.heap.size ≠ u4.ownBlock := fun h => by have := (HOW.out.lt _ h.symm).2; omega
      have hs2 := hB2.size
      have l3 := (Array.getElem?_eq_some_iff.1 b1).1
      have l4 := (Array.getElem?_eq_some_iff.1 b2).1
      have l5 := (Array.getElem?_eq_some_iff.1 b3).1
      have ny0 := n1
      obtain ⟨z0, z1, z4, z5⟩ := two_atQ b3
      have HB3 := Lib.hid b1
      have HB4 := Lib.hid b2
      have HB5 := Lib.hid b3
      clear b1 b2 b3 HB1 HB2 HOW y0 y1 y2 y3 y4 y5 y6 y7 HBw xt hB
      go_wp2_with (first | (at_builtin; refine wpList_append_lies _ rfl _ _ 32 rfl w.heap.size 25 i0 (.agg #[.int .i64 0, .int .i64 0]) 2 16 undRat hi hz0 hz1 hz2 rfl (by decide) _ _ _ rfl (hown.alloc _) ⟨wc.heap.size, 0, none⟩ 1 1 [.int .i64 (hS P Q (n + 2)).1, .int .i64 (hS P Q (n + 2)).2] rfl rfl (cell_two_newQ _ _ _ _) (fun z hz => by simp at hz; rcases hz with rfl | rfl <;> rfl) (by omega) (by unfold maxLen; omega) (by omega) (by simp; omega) _ rfl ?_; intro g' cap w11 own11 hgrow hat hlt11; have r1 := keepGQ HB3.out hgrow n1; have r2 := keepGQ HB4.out hgrow n2; have r3 := keepGQ HB5.out hgrow n3; obtain ⟨x0, x1, x4, x5⟩ := two_atQ r1; obtain ⟨v0, v1, v4, v5⟩ := two_atQ r2; obtain ⟨q0, q1, q4, q5⟩ := two_atQ r3; have ll1 := (Array.getElem?_eq_some_iff.1 r1).1; have ll2 := (Array.getElem?_eq_some_iff.1 r2).1; have ll3 := (Array.getElem?_eq_some_iff.1 r3).1; have HR1 := Lib.hid r1; have HR2 := Lib.hid r2; clear r1 r2 r3))
      have m1 : w.heap.size + 1 ≠ g' := by
        rcases hat with h | h
        · exact fun e => n1 (by rw [e]; exact h.symm)
        · rw [h]; simp; omega
      have m2 : w.heap.size + 1 + 1 ≠ g' := by
        rcases hat with h | h
        · exact fun e => n2 (by rw [e]; exact h.symm)
        · rw [h]; simp; omega
      have k1 : some (w.heap.size + 1) ≠ (Value.slice (some ⟨g', 0, none⟩) (n + 1) cap).ownBlock := by simp [Value.ownBlock]; omega
      have k2 : some (w.heap.size + 1 + 1) ≠ (Value.slice (some ⟨g', 0, none⟩) (n + 1) cap).ownBlock := by simp [Value.ownBlock]; omega
      exact ⟨⟨n + 1, by omega, by go_num, own_set01 (own_set01 (by rw [cvT_succ, lcq_app]; exact own11) k2) k1, k1, k2, set01 (set01_o (by omega) HR1.out), set01_o (by omega) (set01 HR2.out), below_set01 (below_set01 ((hB2.alloc (by omega) _).grown hgrow (by first | (simp; done) | (simp; omega)) (fun q hq => (hown.lt q hq).1)) (by omega)) (by omega)⟩, by simp [intOf]; omega⟩
    · obtain rfl : n = N := by omega
      have g0 : ¬ (n : Int) < (n : Int) := by omega
      go_wp2
      go_returns
      exact ⟨u4, rfl, hown, hB⟩
end Go.Proofs.Ytinjlofefmjolaa.X
