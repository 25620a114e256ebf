/- PortionBounds of the reference. Conditions: none. -/
import Derived.Test.YtbihgnmiocfelaaKBounds
import Derived.Deep.DeepCutAuto
namespace Go.Proofs.Ytbihgnmiocfelaa.X
open Go.RowKit
set_option linter.unusedVariables false
set_option linter.unusedSimpArgs false
set_option maxRecDepth 100000
@[go_sem] theorem cell_mod (w : World) (os : Array Obj) (d n i : Nat) (hn : n < w.heap.size) : (mo w.drew os d).cell? ⟨n, i, none⟩ = w.cell? ⟨n, i, none⟩ := cell_mo w.drew os d n i hn
theorem heap_drew_at {w : World} {g : Nat} {o : Obj} (h : w.heap[g]? = some o) : w.drew.heap[g]? = some o := h
theorem two {w : World} {g : Nat} {a b : Value} {T : TypeId} (h : w.heap[g]? = some (.cells #[a, b] T)) : g < w.heap.size ∧ w.cell? ⟨g, 0, none⟩ = some a ∧ w.cell? ⟨g, 1, none⟩ = some b ∧ w.frozen? ⟨g, 0, none⟩ = false ∧ w.frozen? ⟨g, 1, none⟩ = false :=
  ⟨(Array.getElem?_eq_some_iff.1 h).1, (cell_of_row w g 0 _ T (0, 0) h).trans rfl, (cell_of_row w g 1 _ T (0, 0) h).trans rfl, frozen_of_row w g 0 _ T h, frozen_of_row w g 1 _ T h⟩
theorem set2_same {w : World} {g : Nat} {a b a' b' : Value} {T : TypeId} (h : w.heap[g]? = some (.cells #[a, b] T)) : ((w.setCell ⟨g, 0, none⟩ a').setCell ⟨g, 1, none⟩ b').heap[g]? = some (.cells #[a', b'] T) := by
  have h1 := heap_setCell_same w g 0 _ T a' h
  have h2 := heap_setCell_same (w.setCell ⟨g, 0, none⟩ a') g 1 _ T b' h1
  exact h2
theorem set2_other {w : World} {g g' : Nat} {a' b' : Value} {o : Obj} (h : w.heap[g']? = some o) (hn : g' ≠ g) : ((w.setCell ⟨g, 0, none⟩ a').setCell ⟨g, 1, none⟩ b').heap[g']? = some o :=
  (Below.heap_setCell _ _ _ g' hn).trans ((Below.heap_setCell w _ _ g' hn).trans h)
/-- Of the world at hand no more is kept than S says. -/
theorem exit_atB {E : Exit → Act → World → Prop} {x : Exit} {a : Act} (S : World → Prop) (w : World) (h : S w) (k : ∀ u, S u → E x a u) : E x a w := k w h
theorem keepB {B : Nat} {w w' : World} {g : Nat} {o : Obj} (hb : Below B w w') (h : w.heap[g]? = some o) (hg : g < B) : w'.heap[g]? = some o := (hb.block g hg).trans h
theorem prTo_more {js : List (Int × Int)} {k n : Nat} (h : prTo js k = false) (hk : k ≤ n) : prTo js n = false := by
  induction n with
  | zero => rwa [show k = 0 by omega] at h
  | succ n ih =>
    by_cases e : k = n + 1
    · rwa [e] at h
    · unfold prTo
      rw [ih (by omega)]; rfl
set_option maxHeartbeats 4000000 in
theorem specBounds_any {L : Option Addr} {xs : List (Int × Int)} {V : World} {C : Nat} (hl : Prs .i64 .i64 V C L xs) (cl : Nat) (w : World) (hv : Below C V w) : Calls Try.prog 18 #[.slice L xs.length cl] w fun e w' => e = .returned (.tuple #[.agg #[.int .i64 (pbV xs).1.1, .int .i64 (pbV xs).1.2], .agg #[.int .i64 (pbV xs).2.1.1, .int .i64 (pbV xs).2.1.2], .int .i64 (pbV xs).2.2]) ∧ Below w.heap.size w w' := by
  have hC := hl.bsz hv
  have hll := hl.len
  go_enter Try.func18, Try.ntmps18
  go_wp2_with (go_at_call 119; refine (l00In_ok _ _ _ _).mono ?_; rintro e w' ⟨rfl, rfl⟩)
  go_loopw [5, 6] (fun o i wr => ∃ k : Nat, k ≤ xs.length ∧ i = .int .i64 (k : Int) ∧ o = .bool (inR xs.length 1 60 && prTo xs k) ∧ wr = ((w.alloc (.cells #[.int .i64 0, .int .i64 0] 28)).alloc (.cells #[.int .i64 0, .int .i64 0] 28))) (fun _ i _ => xs.length - (intOf i).toNat)
  case atStart => exact ⟨0, Nat.zero_le _, rfl, by simp [prTo], rfl⟩
  case round =>
    obtain ⟨k, hk, rfl, rfl, rfl⟩ := hrel
    cases ho : (inR xs.length 1 60 && prTo xs k)
    · have HR : Hid (pbV xs = ((0, 0), (0, 0), 2)) := pbV_r (by
        rw [Bool.and_eq_false_iff] at ho ⊢
        rcases ho with h | h
        · exact .inl h
        · exact .inr (prTo_more h hk))
      clear ho
      by_cases hlt : (k : Int) < (xs.length : Int)
      all_goals
        go_wp2
        go_returns
        exact ⟨(by first | (rw [HR.out]; done) | (rw [HR.out]; rfl)), (by repeat' (first | (with_reducible first | assumption | exact Below.refl _ _ | refine Below.drew ?_ | refine Below.alloc ?_ ?_ _ | refine Below.setCell ?_ ?_ _ | refine below_setR ?_ ?_ _ | refine below_dn ?_ _ | refine Below.trans ?_ (below_mo _ _ _ ?_) | refine Below.trans ?_ (below_mq _ _ ?_) | exact Nat.le_refl _) | (simp; done) | (simp; omega) | omega))⟩
    · obtain ⟨ho1, ho2⟩ := (Bool.and_eq_true _ _).mp ho
      have HO := Lib.hid ho
      by_cases hlt : k < xs.length
      · obtain ⟨b, off, rfl, hbs, hc0, hc1⟩ := hl.at hv hlt
        have g0 : (0 : Int) ≤ (k : Int) := by omega
        have g1 : (k : Int) < (xs.length : Int) := by omega
        have HN : Hid ((inR xs.length 1 60 && prTo xs (k + 1)) = prB (p1 xs k) (p2 xs k)) := by unfold Hid; rw [prTo, ho1, ho2]; rfl
        have HB : Hid (prB (p1 xs k) (p2 xs k) = (inR (p1 xs k) 1 100000 && inR (p2 xs k) 0 100000)) := rfl
        clear ho ho1 ho2
        cases h1 : inR (p1 xs k) 1 100000
        all_goals
          have H1 := Lib.hid h1
          go_wp2_with (go_at_call 119; refine (l00In_ok _ _ _ _).mono ?_; rintro e w' ⟨rfl, rfl⟩; try rw [H1.out])
          exact ⟨⟨k + 1, by omega, by go_num, by (rw [HN.out, HB.out, H1.out]; first | done | rfl), by first | rfl | trivial⟩, by simp [intOf]; omega⟩
      · obtain rfl : k = xs.length := by omega
        have hn := inR_t.1 ho1
        have HP := Lib.hid (prTo_pOK ho2)
        have HL := Lib.hid (plo_bd (prTo_pOK ho2))
        have HH := Lib.hid (phi_bd (prTo_pOK ho2))
        obtain ⟨b, off, rfl, hbs, hc0, hc1⟩ := hl.at hv (k := 0) (by omega)
        obtain ⟨⟨c0, c1⟩, c2, c3⟩ := HP.out 0 (by omega)
        have P1 := Lib.hid (fun W => l06Plain_any (p2 xs (0 : Nat)) (p1 xs (0 : Nat)) ⟨c2, by omega⟩ ⟨c0, by omega⟩ W)
        have P2 := Lib.hid (fun W => l06Plain_any (p2 xs (0 : Nat) + 1) (p1 xs (0 : Nat)) ⟨by omega, by omega⟩ ⟨c0, by omega⟩ W)
        have g0 : (0 : Int) < (xs.length : Int) := by omega
        have g0n : 0 < xs.length := by omega
        have ew : IntKind.i64.wrap (p2 xs (0 : Nat) + 1) = p2 xs (0 : Nat) + 1 := IntWalk.i64_in _ ⟨by omega, by omega⟩
        rw [show ((0 : Nat) : Int) = 0 from rfl] at *
        simp only [Nat.zero_mul, Nat.add_zero] at hc0 hc1
        have hbw : Below w.heap.size w ((w.alloc (.cells #[.int .i64 0, .int .i64 0] 28)).alloc (.cells #[.int .i64 0, .int .i64 0] 28)) := (by repeat' (first | (with_reducible first | assumption | exact Below.refl _ _ | refine Below.drew ?_ | refine Below.alloc ?_ ?_ _ | refine Below.setCell ?_ ?_ _ | refine below_setR ?_ ?_ _ | refine below_dn ?_ _ | refine Below.trans ?_ (below_mo _ _ _ ?_) | refine Below.trans ?_ (below_mq _ _ ?_) | exact Nat.le_refl _) | (simp; done) | (simp; omega) | omega))
        have u2 : ((w.alloc (.cells #[.int .i64 0, .int .i64 0] 28)).alloc (.cells #[.int .i64 0, .int .i64 0] 28)).heap[w.heap.size]? = some (.cells #[.int .i64 0, .int .i64 0] 28) := by repeat' (first | (with_reducible assumption) | (with_reducible refine heap_mo_at ?_) | (with_reducible refine heap_drew_at ?_) | ((with_reducible refine heap_alloc_at ?_); first | rfl | (simp; done)) | (with_reducible refine heap_alloc_past ?_))
        have u3 : ((w.alloc (.cells #[.int .i64 0, .int .i64 0] 28)).alloc (.cells #[.int .i64 0, .int .i64 0] 28)).heap[w.heap.size + 1]? = some (.cells #[.int .i64 0, .int .i64 0] 28) := by repeat' (first | (with_reducible assumption) | (with_reducible refine heap_mo_at ?_) | (with_reducible refine heap_drew_at ?_) | ((with_reducible refine heap_alloc_at ?_); first | rfl | (simp; done)) | (with_reducible refine heap_alloc_past ?_))
        generalize hw2 : ((w.alloc (.cells #[.int .i64 0, .int .i64 0] 28)).alloc (.cells #[.int .i64 0, .int .i64 0] 28)) = w2 at hbw u2 u3 ⊢
        have hz2 : w.heap.size + 1 + 1 ≤ w2.heap.size := by rw [← hw2]; simp
        clear hw2 ho ho1 ho2
        have hb2 : b < w2.heap.size := by omega
        have c02 := (hbw.cell (p := ⟨b, off, none⟩) hbs).trans hc0
        have c12 := (hbw.cell (p := ⟨b, off + 1, none⟩) hbs).trans hc1
        clear hc0 hc1
        go_upto_region 8 with (fail)
        go_cut [7] (fun v wx => ∃ g, v = .pointer (some ⟨g, 0, none⟩) ∧ wx.heap[g]? = some (.cells #[.int .i64 (red (p2 xs 0) (p1 xs 0)).1, .int .i64 (red (p2 xs 0) (p1 xs 0)).2] 28) ∧ w2.heap.size ≤ g ∧ g < wx.heap.size ∧ Below w2.heap.size w2 wx)
        case first =>
          go_region_held3 (fun w' => w'.cell? ⟨b, off, none⟩ = some (.int .i64 (p1 xs 0)) ∧ w'.cell? ⟨b, off + 1, none⟩ = some (.int .i64 (p2 xs 0))) (first | (simp [go_sem]; done) | ((repeat' apply And.intro) <;> (first | (simp [go_sem]; done) | (simp [go_sem, *]; done)))) (first | (go_at_call 120; (with_reducible refine (P1.out _).mono ?_); rintro e w' ⟨rfl, hb_⟩; obtain ⟨os_, d_, rfl⟩ := mo_of hb_; clear hb_))
          all_goals go_wp2_with fail
          all_goals go_meet
          all_goals refine ⟨_, rfl, ?_, ?_, ?_, ?_⟩
          all_goals first | (simp only [size_mo, World.size_alloc, World.size_drew]; omega) | ((repeat' (first | (with_reducible assumption) | (with_reducible refine heap_mo_at ?_) | (with_reducible refine heap_drew_at ?_) | ((with_reducible refine heap_alloc_at ?_); first | rfl | (simp; done)) | (with_reducible refine heap_alloc_past ?_))); done) | exact (by repeat' (first | (with_reducible first | assumption | exact Below.refl _ _ | refine Below.drew ?_ | refine Below.alloc ?_ ?_ _ | refine Below.setCell ?_ ?_ _ | refine below_setR ?_ ?_ _ | refine below_dn ?_ _ | refine Below.trans ?_ (below_mo _ _ _ ?_) | refine Below.trans ?_ (below_mq _ _ ?_) | exact Nat.le_refl _) | (simp; done) | (simp; omega) | omega))
        obtain ⟨gl, rfl, l0, lg1, lg2, B3⟩ := hcut
        obtain ⟨w3, hw_⟩ : ∃ w1, w1 = wc := ⟨_, rfl⟩
        subst hw_
        have hz3 := B3.size
        have hb3 : b < w3.heap.size := by omega
        have c03 := (B3.cell (p := ⟨b, off, none⟩) hb2).trans c02
        have c13 := (B3.cell (p := ⟨b, off + 1, none⟩) hb2).trans c12
        have u2 := keepB B3 u2 (by omega)
        have u3 := keepB B3 u3 (by omega)
        clear c02 c12
        go_upto_region 9 with (fail)
        go_cut [8] (fun v wx => ∃ g, v = .pointer (some ⟨g, 0, none⟩) ∧ wx.heap[g]? = some (.cells #[.int .i64 (red (p2 xs 0 + 1) (p1 xs 0)).1, .int .i64 (red (p2 xs 0 + 1) (p1 xs 0)).2] 28) ∧ w3.heap.size ≤ g ∧ g < wx.heap.size ∧ Below w3.heap.size w3 wx)
        case first =>
          go_region_held3 (fun w' => w'.cell? ⟨b, off, none⟩ = some (.int .i64 (p1 xs 0)) ∧ w'.cell? ⟨b, off + 1, none⟩ = some (.int .i64 (p2 xs 0))) (first | (simp [go_sem]; done) | ((repeat' apply And.intro) <;> (first | (simp [go_sem]; done) | (simp [go_sem, *]; done)))) (first | (go_at_call 120; (with_reducible refine (P2.out _).mono ?_); rintro e w' ⟨rfl, hb_⟩; obtain ⟨os_, d_, rfl⟩ := mo_of hb_; clear hb_))
          all_goals go_wp2_with fail
          all_goals go_meet
          all_goals refine ⟨_, rfl, ?_, ?_, ?_, ?_⟩
          all_goals first | (simp only [size_mo, World.size_alloc, World.size_drew]; omega) | ((repeat' (first | (with_reducible assumption) | (with_reducible refine heap_mo_at ?_) | (with_reducible refine heap_drew_at ?_) | ((with_reducible refine heap_alloc_at ?_); first | rfl | (simp; done)) | (with_reducible refine heap_alloc_past ?_))); done) | exact (by repeat' (first | (with_reducible first | assumption | exact Below.refl _ _ | refine Below.drew ?_ | refine Below.alloc ?_ ?_ _ | refine Below.setCell ?_ ?_ _ | refine below_setR ?_ ?_ _ | refine below_dn ?_ _ | refine Below.trans ?_ (below_mo _ _ _ ?_) | refine Below.trans ?_ (below_mq _ _ ?_) | exact Nat.le_refl _) | (simp; done) | (simp; omega) | omega))
        obtain ⟨gh, rfl, m0, mg1, mg2, B4⟩ := hcut
        obtain ⟨w4, hw_⟩ : ∃ w1, w1 = wc := ⟨_, rfl⟩
        subst hw_
        have hz4 := B4.size
        have u2 := keepB B4 u2 (by omega)
        have u3 := keepB B4 u3 (by omega)
        have l0 := keepB B4 l0 (by omega)
        clear c03 c13
        have hB4 : Below w.heap.size w w4 := (hbw.trans (B3.mono (by omega))).trans (B4.mono (by omega))
        have E1 := plo_1 (HP.out 0 (by omega))
        have E2 := phi_1 (HP.out 0 (by omega))
        rw [show ((0 : Nat) : Int) = 0 from rfl] at E1 E2
        rw [← E1] at l0
        have E3 : red (p2 xs 0 + 1) (p1 xs 0) = red (phi xs 1).1 (phi xs 1).2 := by rw [E2]
        rw [E3] at m0
        have ngl : ¬ gl = gh := by omega
        have nhl : ¬ gh = gl := by omega
        have hw4 : w.heap.size + 1 + 1 ≤ gl := by omega
        have hw5 : w.heap.size + 1 + 1 ≤ gh := by omega
        clear E1 E2 E3 B3 B4 P1 P2
        have HU := Lib.hid (And.intro l0 (And.intro m0 (And.intro u2 u3)))
        clear l0 m0 u2 u3
        go_wp2
        go_loopw [9] (fun i wr => ∃ k : Nat, 1 ≤ k ∧ k ≤ xs.length ∧ i = .int .i64 (k : Int) ∧ wr.heap[gl]? = some (.cells #[.int .i64 (red (plo xs k).1 (plo xs k).2).1, .int .i64 (red (plo xs k).1 (plo xs k).2).2] 28) ∧ wr.heap[gh]? = some (.cells #[.int .i64 (red (phi xs k).1 (phi xs k).2).1, .int .i64 (red (phi xs k).1 (phi xs k).2).2] 28) ∧ wr.heap[w.heap.size]? = some (.cells #[.int .i64 0, .int .i64 0] 28) ∧ wr.heap[w.heap.size + 1]? = some (.cells #[.int .i64 0, .int .i64 0] 28) ∧ Below w.heap.size w wr) (fun i _ => xs.length - (intOf i).toNat)
        case atStart => exact ⟨1, Nat.le_refl _, by omega, rfl, HU.out.1, HU.out.2.1, HU.out.2.2.1, HU.out.2.2.2, hB4⟩
        case round =>
          obtain ⟨k, hk1, hk, rfl, l0, m0, u2, u3, hBr⟩ := hrel
          obtain ⟨wo, hwo⟩ : ∃ wo, wo = wr := ⟨_, rfl⟩
          subst hwo
          obtain ⟨⟨a0, a1⟩, a2, a3⟩ := HL.out k hk
          obtain ⟨⟨b0, b1⟩, b2, b3⟩ := HH.out k hk
          obtain ⟨⟨q0, q1⟩, q2, q3⟩ := red_bd a0 a2
          obtain ⟨⟨r0, r1⟩, r2, r3⟩ := red_bd (show 0 ≤ (phi xs k).1 by omega) b2
          by_cases hlt : k < xs.length
          · obtain ⟨b', off', he, hb', e0, e1⟩ := hl.at hv hlt
            obtain ⟨rfl, rfl⟩ := addr_same he
            clear he
            obtain ⟨⟨c0', c1'⟩, c2', c3'⟩ := HP.out k hlt
            have g0' : (0 : Int) ≤ (k : Int) := by omega
            have g1' : (k : Int) < (xs.length : Int) := by omega
            have ew' : IntKind.i64.wrap (p2 xs k + 1) = p2 xs k + 1 := IntWalk.i64_in _ ⟨by omega, by omega⟩
            have P3 := Lib.hid (fun W => l06Plain_any (p2 xs k) (p1 xs k) ⟨c2', by omega⟩ ⟨c0', by omega⟩ W)
            have P4 := Lib.hid (fun W => l06Plain_any (p2 xs k + 1) (p1 xs k) ⟨by omega, by omega⟩ ⟨c0', by omega⟩ W)
            have lwo := hBr.size
            have hbo : b < wo.heap.size := by omega
            have f0 := (hBr.cell (p := ⟨b, off + k * 2, none⟩) hbs).trans e0
            have f1 := (hBr.cell (p := ⟨b, off + k * 2 + 1, none⟩) hbs).trans e1
            have sl := (two l0).1
            have sh := (two m0).1
            have st := (two u3).1
            have HV := Lib.hid (And.intro l0 (And.intro m0 (And.intro u2 u3)))
            clear l0 m0 u2 u3 e0 e1
            go_upto_region 13 with (fail)
            go_cut [10] (fun v wx => ∃ g, v = .pointer (some ⟨g, 0, none⟩) ∧ wx.heap[g]? = some (.cells #[.int .i64 (red (p2 xs k) (p1 xs k)).1, .int .i64 (red (p2 xs k) (p1 xs k)).2] 28) ∧ wo.heap.size ≤ g ∧ g < wx.heap.size ∧ Below wo.heap.size wo wx)
            case first =>
              go_region_held3 (fun w' => w'.cell? ⟨b, off + k * 2, none⟩ = some (.int .i64 (p1 xs k)) ∧ w'.cell? ⟨b, off + k * 2 + 1, none⟩ = some (.int .i64 (p2 xs k))) (first | (simp [go_sem]; done) | ((repeat' apply And.intro) <;> (first | (simp [go_sem]; done) | (simp [go_sem, *]; done)))) (first | (go_at_call 120; (with_reducible refine (P3.out _).mono ?_); rintro e w' ⟨rfl, hb_⟩; obtain ⟨os_, d_, rfl⟩ := mo_of hb_; clear hb_))
              all_goals go_wp2_with fail
              all_goals go_meet
              all_goals refine ⟨_, rfl, ?_, ?_, ?_, ?_⟩
              all_goals first | (simp only [size_mo, World.size_alloc, World.size_drew]; omega) | ((repeat' (first | (with_reducible assumption) | (with_reducible refine heap_mo_at ?_) | (with_reducible refine heap_drew_at ?_) | ((with_reducible refine heap_alloc_at ?_); first | rfl | (simp; done)) | (with_reducible refine heap_alloc_past ?_))); done) | exact (by repeat' (first | (with_reducible first | assumption | exact Below.refl _ _ | refine Below.drew ?_ | refine Below.alloc ?_ ?_ _ | refine Below.setCell ?_ ?_ _ | refine below_setR ?_ ?_ _ | refine below_dn ?_ _ | refine Below.trans ?_ (below_mo _ _ _ ?_) | refine Below.trans ?_ (below_mq _ _ ?_) | exact Nat.le_refl _) | (simp; done) | (simp; omega) | omega))
            obtain ⟨g10, rfl, n0, ng1, ng2, B5⟩ := hcut
            obtain ⟨w5, hw_⟩ : ∃ w1, w1 = wc := ⟨_, rfl⟩
            subst hw_
            have hz5 := B5.size
            have hb5 : b < w5.heap.size := by omega
            have h0 := (B5.cell (p := ⟨b, off + k * 2, none⟩) hbo).trans f0
            have h1 := (B5.cell (p := ⟨b, off + k * 2 + 1, none⟩) hbo).trans f1
            clear f0 f1
            have HN0 := Lib.hid n0
            clear n0
            go_upto_region 14 with (fail)
            go_cut [11] (fun v wx => ∃ g, v = .pointer (some ⟨g, 0, none⟩) ∧ wx.heap[g]? = some (.cells #[.int .i64 (red (p2 xs k + 1) (p1 xs k)).1, .int .i64 (red (p2 xs k + 1) (p1 xs k)).2] 28) ∧ w5.heap.size ≤ g ∧ g < wx.heap.size ∧ Below w5.heap.size w5 wx)
            case first =>
              go_region_held3 (fun w' => w'.cell? ⟨b, off + k * 2, none⟩ = some (.int .i64 (p1 xs k)) ∧ w'.cell? ⟨b, off + k * 2 + 1, none⟩ = some (.int .i64 (p2 xs k))) (first | (simp [go_sem]; done) | ((repeat' apply And.intro) <;> (first | (simp [go_sem]; done) | (simp [go_sem, *]; done)))) (first | (go_at_call 120; (with_reducible refine (P4.out _).mono ?_); rintro e w' ⟨rfl, hb_⟩; obtain ⟨os_, d_, rfl⟩ := mo_of hb_; clear hb_))
              all_goals go_wp2_with fail
              all_goals go_meet
              all_goals refine ⟨_, rfl, ?_, ?_, ?_, ?_⟩
              all_goals first | (simp only [size_mo, World.size_alloc, World.size_drew]; omega) | ((repeat' (first | (with_reducible assumption) | (with_reducible refine heap_mo_at ?_) | (with_reducible refine heap_drew_at ?_) | ((with_reducible refine heap_alloc_at ?_); first | rfl | (simp; done)) | (with_reducible refine heap_alloc_past ?_))); done) | exact (by repeat' (first | (with_reducible first | assumption | exact Below.refl _ _ | refine Below.drew ?_ | refine Below.alloc ?_ ?_ _ | refine Below.setCell ?_ ?_ _ | refine below_setR ?_ ?_ _ | refine below_dn ?_ _ | refine Below.trans ?_ (below_mo _ _ _ ?_) | refine Below.trans ?_ (below_mq _ _ ?_) | exact Nat.le_refl _) | (simp; done) | (simp; omega) | omega))
            obtain ⟨g11, rfl, o0, og1, og2, B6⟩ := hcut
            obtain ⟨w6, hw_⟩ : ∃ w1, w1 = wc := ⟨_, rfl⟩
            subst hw_
            have hz6 := B6.size
            have B7 : Below wo.heap.size wo w6 := B5.trans (B6.mono (by omega))
            have l0 := keepB B7 HV.out.1 sl
            have m0 := keepB B7 HV.out.2.1 sh
            have u2 := keepB B7 HV.out.2.2.1 (by omega)
            have u3 := keepB B7 HV.out.2.2.2 st
            have n0 := keepB B6 HN0.out ng2
            have hB6 : Below w.heap.size w w6 := hBr.trans (B7.mono lwo)
            clear B5 B6 B7 h0 h1 P3 P4
            obtain ⟨L0, L1, L2, L3, L4⟩ := two l0
            obtain ⟨M0, M1, M2, M3, M4⟩ := two m0
            obtain ⟨N0, N1, N2, N3, N4⟩ := two n0
            obtain ⟨O0, O1, O2, O3, O4⟩ := two o0
            have HZ := Lib.hid (And.intro l0 (And.intro m0 (And.intro u2 u3)))
            clear l0 m0 u2 u3 n0 o0
            obtain ⟨⟨x0, x1⟩, x2, x3⟩ := red_bd c2' c0'
            obtain ⟨⟨y0, y1⟩, y2, y3⟩ := red_bd (show 0 ≤ p2 xs k + 1 by omega) c0'
            by_cases hA : (plo xs k).1 * p1 xs k < p2 xs k * (plo xs k).2
            all_goals by_cases hB : (p2 xs k + 1) * (phi xs k).2 < (phi xs k).1 * p1 xs k
            · have HN1 := Lib.hid (plo_yes hA)
              have HN2 := Lib.hid (phi_yes hB)
              have K1 := Lib.hid (fun W => l06Less_t _ _ _ _ W (bigb ⟨by omega, by omega⟩ ⟨by omega, by omega⟩) (bigb ⟨by omega, by omega⟩ ⟨by omega, by omega⟩) ((red_lt a2 c0').2 hA))
              have K2 := Lib.hid (fun W => l06Less_t _ _ _ _ W (bigb ⟨by omega, by omega⟩ ⟨by omega, by omega⟩) (bigb ⟨by omega, by omega⟩ ⟨by omega, by omega⟩) ((red_lt c0' b2).2 hB))
              clear hA hB
              (go_wp2_with fail; refine (K1.out _).mono ?_; rintro e w' ⟨rfl, hb_⟩; obtain ⟨os1, d1, rfl⟩ := mo_of hb_; clear hb_)
              (go_wp2_with fail; refine (K2.out _).mono ?_; rintro e w' ⟨rfl, hb_⟩; obtain ⟨os2, d2, rfl⟩ := mo_of hb_; clear hb_)
              go_wp2
              refine ⟨⟨k + 1, by omega, by omega, by go_num, ?_, ?_, ?_, ?_, (by repeat' (first | (with_reducible first | assumption | exact Below.refl _ _ | refine Below.drew ?_ | refine Below.alloc ?_ ?_ _ | refine Below.setCell ?_ ?_ _ | refine below_setR ?_ ?_ _ | refine below_dn ?_ _ | refine Below.trans ?_ (below_mo _ _ _ ?_) | refine Below.trans ?_ (below_mq _ _ ?_) | exact Nat.le_refl _) | (simp; done) | (simp; omega) | omega))⟩, by simp [intOf]; omega⟩
              all_goals (first | rw [HN1.out] | rw [HN2.out] | skip)
              all_goals try dsimp only
              all_goals repeat' (first | with_reducible exact HZ.out.1 | with_reducible exact HZ.out.2.1 | with_reducible exact HZ.out.2.2.1 | with_reducible exact HZ.out.2.2.2 | (with_reducible refine heap_mo_at ?_) | (with_reducible apply set2_same) | (with_reducible apply set2_other) | omega)
            · have HN1 := Lib.hid (plo_yes hA)
              have HN2 := Lib.hid (phi_no hB)
              have K1 := Lib.hid (fun W => l06Less_t _ _ _ _ W (bigb ⟨by omega, by omega⟩ ⟨by omega, by omega⟩) (bigb ⟨by omega, by omega⟩ ⟨by omega, by omega⟩) ((red_lt a2 c0').2 hA))
              have K2 := Lib.hid (fun W => l06Less_f _ _ _ _ W (bigb ⟨by omega, by omega⟩ ⟨by omega, by omega⟩) (bigb ⟨by omega, by omega⟩ ⟨by omega, by omega⟩) (fun h => hB ((red_lt c0' b2).1 h)))
              clear hA hB
              (go_wp2_with fail; refine (K1.out _).mono ?_; rintro e w' ⟨rfl, hb_⟩; obtain ⟨os1, d1, rfl⟩ := mo_of hb_; clear hb_)
              (go_wp2_with fail; refine (K2.out _).mono ?_; rintro e w' ⟨rfl, hb_⟩; obtain ⟨os2, d2, rfl⟩ := mo_of hb_; clear hb_)
              go_wp2
              refine ⟨⟨k + 1, by omega, by omega, by go_num, ?_, ?_, ?_, ?_, (by repeat' (first | (with_reducible first | assumption | exact Below.refl _ _ | refine Below.drew ?_ | refine Below.alloc ?_ ?_ _ | refine Below.setCell ?_ ?_ _ | refine below_setR ?_ ?_ _ | refine below_dn ?_ _ | refine Below.trans ?_ (below_mo _ _ _ ?_) | refine Below.trans ?_ (below_mq _ _ ?_) | exact Nat.le_refl _) | (simp; done) | (simp; omega) | omega))⟩, by simp [intOf]; omega⟩
              all_goals (first | rw [HN1.out] | rw [HN2.out] | skip)
              all_goals try dsimp only
              all_goals repeat' (first | with_reducible exact HZ.out.1 | with_reducible exact HZ.out.2.1 | with_reducible exact HZ.out.2.2.1 | with_reducible exact HZ.out.2.2.2 | (with_reducible refine heap_mo_at ?_) | (with_reducible apply set2_same) | (with_reducible apply set2_other) | omega)
            · have HN1 := Lib.hid (plo_no hA)
              have HN2 := Lib.hid (phi_yes hB)
              have K1 := Lib.hid (fun W => l06Less_f _ _ _ _ W (bigb ⟨by omega, by omega⟩ ⟨by omega, by omega⟩) (bigb ⟨by omega, by omega⟩ ⟨by omega, by omega⟩) (fun h => hA ((red_lt a2 c0').1 h)))
              have K2 := Lib.hid (fun W => l06Less_t _ _ _ _ W (bigb ⟨by omega, by omega⟩ ⟨by omega, by omega⟩) (bigb ⟨by omega, by omega⟩ ⟨by omega, by omega⟩) ((red_lt c0' b2).2 hB))
              clear hA hB
              (go_wp2_with fail; refine (K1.out _).mono ?_; rintro e w' ⟨rfl, hb_⟩; obtain ⟨os1, d1, rfl⟩ := mo_of hb_; clear hb_)
              (go_wp2_with fail; refine (K2.out _).mono ?_; rintro e w' ⟨rfl, hb_⟩; obtain ⟨os2, d2, rfl⟩ := mo_of hb_; clear hb_)
              go_wp2
              refine ⟨⟨k + 1, by omega, by omega, by go_num, ?_, ?_, ?_, ?_, (by repeat' (first | (with_reducible first | assumption | exact Below.refl _ _ | refine Below.drew ?_ | refine Below.alloc ?_ ?_ _ | refine Below.setCell ?_ ?_ _ | refine below_setR ?_ ?_ _ | refine below_dn ?_ _ | refine Below.trans ?_ (below_mo _ _ _ ?_) | refine Below.trans ?_ (below_mq _ _ ?_) | exact Nat.le_refl _) | (simp; done) | (simp; omega) | omega))⟩, by simp [intOf]; omega⟩
              all_goals (first | rw [HN1.out] | rw [HN2.out] | skip)
              all_goals try dsimp only
              all_goals repeat' (first | with_reducible exact HZ.out.1 | with_reducible exact HZ.out.2.1 | with_reducible exact HZ.out.2.2.1 | with_reducible exact HZ.out.2.2.2 | (with_reducible refine heap_mo_at ?_) | (with_reducible apply set2_same) | (with_reducible apply set2_other) | omega)
            · have HN1 := Lib.hid (plo_no hA)
              have HN2 := Lib.hid (phi_no hB)
              have K1 := Lib.hid (fun W => l06Less_f _ _ _ _ W (bigb ⟨by omega, by omega⟩ ⟨by omega, by omega⟩) (bigb ⟨by omega, by omega⟩ ⟨by omega, by omega⟩) (fun h => hA ((red_lt a2 c0').1 h)))
              have K2 := Lib.hid (fun W => l06Less_f _ _ _ _ W (bigb ⟨by omega, by omega⟩ ⟨by omega, by omega⟩) (bigb ⟨by omega, by omega⟩ ⟨by omega, by omega⟩) (fun h => hB ((red_lt c0' b2).1 h)))
              clear hA hB
              (go_wp2_with fail; refine (K1.out _).mono ?_; rintro e w' ⟨rfl, hb_⟩; obtain ⟨os1, d1, rfl⟩ := mo_of hb_; clear hb_)
              (go_wp2_with fail; refine (K2.out _).mono ?_; rintro e w' ⟨rfl, hb_⟩; obtain ⟨os2, d2, rfl⟩ := mo_of hb_; clear hb_)
              go_wp2
              refine ⟨⟨k + 1, by omega, by omega, by go_num, ?_, ?_, ?_, ?_, (by repeat' (first | (with_reducible first | assumption | exact Below.refl _ _ | refine Below.drew ?_ | refine Below.alloc ?_ ?_ _ | refine Below.setCell ?_ ?_ _ | refine below_setR ?_ ?_ _ | refine below_dn ?_ _ | refine Below.trans ?_ (below_mo _ _ _ ?_) | refine Below.trans ?_ (below_mq _ _ ?_) | exact Nat.le_refl _) | (simp; done) | (simp; omega) | omega))⟩, by simp [intOf]; omega⟩
              all_goals (first | rw [HN1.out] | rw [HN2.out] | skip)
              all_goals try dsimp only
              all_goals repeat' (first | with_reducible exact HZ.out.1 | with_reducible exact HZ.out.2.1 | with_reducible exact HZ.out.2.2.1 | with_reducible exact HZ.out.2.2.2 | (with_reducible refine heap_mo_at ?_) | (with_reducible apply set2_same) | (with_reducible apply set2_other) | omega)
          · obtain rfl : k = xs.length := by omega
            obtain ⟨L0, L1, L2, L3, L4⟩ := two l0
            obtain ⟨M0, M1, M2, M3, M4⟩ := two m0
            obtain ⟨N0, N1, N2, N3, N4⟩ := two u2
            obtain ⟨O0, O1, O2, O3, O4⟩ := two u3
            have HZ := Lib.hid (And.intro u2 u3)
            clear l0 m0 u2 u3
            by_cases hA : (plo xs xs.length).1 * (phi xs xs.length).2 < (phi xs xs.length).1 * (plo xs xs.length).2
            · have HR := Lib.hid (pbV_0 HO.out hA)
              have K1 := Lib.hid (fun W => l06Less_t _ _ _ _ W (bigb ⟨q0, by omega⟩ ⟨by omega, by omega⟩) (bigb ⟨r0, by omega⟩ ⟨by omega, by omega⟩) ((red_lt a2 b2).2 hA))
              clear hA
              (go_wp2_with fail; refine (K1.out _).mono ?_; rintro e w' ⟨rfl, hb_⟩; obtain ⟨os1, d1, rfl⟩ := mo_of hb_; clear hb_)
              go_wp2
              go_region_held3 (fun w' => w'.cell? ⟨gl, 0, none⟩ = some (.int .i64 (red (plo xs xs.length).1 (plo xs xs.length).2).1) ∧ w'.cell? ⟨gl, 1, none⟩ = some (.int .i64 (red (plo xs xs.length).1 (plo xs xs.length).2).2) ∧ w'.cell? ⟨gh, 0, none⟩ = some (.int .i64 (red (phi xs xs.length).1 (phi xs xs.length).2).1) ∧ w'.cell? ⟨gh, 1, none⟩ = some (.int .i64 (red (phi xs xs.length).1 (phi xs xs.length).2).2)) (first | (simp [go_sem]; done) | ((repeat' apply And.intro) <;> (first | (simp [go_sem]; done) | (simp [go_sem, *]; done)))) (first | fail)
              all_goals go_wp2
              all_goals refine exit_atB (fun u => u.heap[w.heap.size]? = some (.cells #[.int .i64 ((red (plo xs xs.length).1 (plo xs xs.length).2).1), .int .i64 ((red (plo xs xs.length).1 (plo xs xs.length).2).2)] 28) ∧ u.heap[w.heap.size + 1]? = some (.cells #[.int .i64 ((red (phi xs xs.length).1 (phi xs xs.length).2).1), .int .i64 ((red (phi xs xs.length).1 (phi xs xs.length).2).2)] 28) ∧ Below w.heap.size w u) _ ⟨?_, ?_, (by repeat' (first | (with_reducible first | assumption | exact Below.refl _ _ | refine Below.drew ?_ | refine Below.alloc ?_ ?_ _ | refine Below.setCell ?_ ?_ _ | refine below_setR ?_ ?_ _ | refine below_dn ?_ _ | refine Below.trans ?_ (below_mo _ _ _ ?_) | refine Below.trans ?_ (below_mq _ _ ?_) | exact Nat.le_refl _) | (simp; done) | (simp; omega) | omega))⟩ ?_
              case refine_1 => repeat' (first | with_reducible exact HZ.out.1 | with_reducible exact HZ.out.2 | (with_reducible refine heap_mo_at ?_) | (with_reducible refine heap_drew_at ?_) | (with_reducible apply set2_same) | (with_reducible apply set2_other) | omega)
              case refine_2 => repeat' (first | with_reducible exact HZ.out.1 | with_reducible exact HZ.out.2 | (with_reducible refine heap_mo_at ?_) | (with_reducible refine heap_drew_at ?_) | (with_reducible apply set2_same) | (with_reducible apply set2_other) | omega)
              all_goals
                rintro u ⟨R2, R3, RB⟩
                obtain ⟨X0, X1, X2, -, -⟩ := two R2
                obtain ⟨Y0, Y1, Y2, -, -⟩ := two R3
                clear R2 R3
                refine bodyPost_ret (v := (.tuple #[.agg #[.int .i64 ((red (plo xs xs.length).1 (plo xs xs.length).2).1), .int .i64 ((red (plo xs xs.length).1 (plo xs xs.length).2).2)], .agg #[.int .i64 ((red (phi xs xs.length).1 (phi xs xs.length).2).1), .int .i64 ((red (phi xs xs.length).1 (phi xs xs.length).2).2)], .int .i64 0])) ?_ rfl ⟨by rw [HR.out], RB⟩
                simp [results, Try.results18, go_sem, X1, X2, Y1, Y2]
            · have HR := Lib.hid (pbV_n HO.out hA)
              have K1 := Lib.hid (fun W => l06Less_f _ _ _ _ W (bigb ⟨q0, by omega⟩ ⟨by omega, by omega⟩) (bigb ⟨r0, by omega⟩ ⟨by omega, by omega⟩) (fun h => hA ((red_lt a2 b2).1 h)))
              clear hA
              (go_wp2_with fail; refine (K1.out _).mono ?_; rintro e w' ⟨rfl, hb_⟩; obtain ⟨os1, d1, rfl⟩ := mo_of hb_; clear hb_)
              go_wp2
              all_goals refine exit_atB (fun u => u.heap[w.heap.size]? = some (.cells #[.int .i64 (0), .int .i64 (0)] 28) ∧ u.heap[w.heap.size + 1]? = some (.cells #[.int .i64 (0), .int .i64 (0)] 28) ∧ Below w.heap.size w u) _ ⟨?_, ?_, (by repeat' (first | (with_reducible first | assumption | exact Below.refl _ _ | refine Below.drew ?_ | refine Below.alloc ?_ ?_ _ | refine Below.setCell ?_ ?_ _ | refine below_setR ?_ ?_ _ | refine below_dn ?_ _ | refine Below.trans ?_ (below_mo _ _ _ ?_) | refine Below.trans ?_ (below_mq _ _ ?_) | exact Nat.le_refl _) | (simp; done) | (simp; omega) | omega))⟩ ?_
              case refine_1 => repeat' (first | with_reducible exact HZ.out.1 | with_reducible exact HZ.out.2 | (with_reducible refine heap_mo_at ?_) | (with_reducible refine heap_drew_at ?_) | (with_reducible apply set2_same) | (with_reducible apply set2_other) | omega)
              case refine_2 => repeat' (first | with_reducible exact HZ.out.1 | with_reducible exact HZ.out.2 | (with_reducible refine heap_mo_at ?_) | (with_reducible refine heap_drew_at ?_) | (with_reducible apply set2_same) | (with_reducible apply set2_other) | omega)
              all_goals
                rintro u ⟨R2, R3, RB⟩
                obtain ⟨X0, X1, X2, -, -⟩ := two R2
                obtain ⟨Y0, Y1, Y2, -, -⟩ := two R3
                clear R2 R3
                refine bodyPost_ret (v := (.tuple #[.agg #[.int .i64 0, .int .i64 0], .agg #[.int .i64 0, .int .i64 0], .int .i64 6])) ?_ rfl ⟨by rw [HR.out], RB⟩
                simp [results, Try.results18, go_sem, X1, X2, Y1, Y2]
end Go.Proofs.Ytbihgnmiocfelaa.X
