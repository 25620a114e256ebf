/- TermsOf and ConvergentsOf, both answers. Conditions: none. -/
import Derived.Test.YtinjlofefmjolaaKFracZ
namespace Go.Proofs.Ytinjlofefmjolaa.X
open Go.RowKit
set_option linter.unusedVariables false
set_option linter.unusedSimpArgs false
set_option maxRecDepth 100000
/-- the convergents, but a first one of zero -/
def cvL (P Q : Int) (N : Nat) : List (Int × Int) := if P < Q then (cvT P Q N).drop 1 else cvT P Q N
theorem cvL_lt {P Q : Int} (N : Nat) (h : P < Q) : cvL P Q N = (cvT P Q N).drop 1 := if_pos h
theorem cvL_ge {P Q : Int} (N : Nat) (h : ¬ P < Q) : cvL P Q N = cvT P Q N := if_neg h
theorem cvT_0 {P Q : Int} {N : Nat} (C : CF P Q N) (h : P < Q) : (hS P Q 2).1 = 0 ∧ 2 ≤ N := by
  obtain ⟨h1, h2⟩ := C.first h
  rw [h1]
  exact ⟨rfl, h2⟩
theorem cvT_n {P Q : Int} {N : Nat} (C : CF P Q N) {k : Nat} (hk : k < N) (h : ¬ P < Q ∨ 1 ≤ k) : 1 ≤ (hS P Q (k + 2)).1 := C.ppos (k + 1) (by omega) (by omega) (by omega)
theorem lcq_one {l : List (Int × Int)} : ∀ u ∈ lcq .i64 l, u.oneCell' = true := by
  induction l with
  | nil => intro u hu; cases hu
  | cons r l ih =>
    intro u hu
    rcases List.mem_cons.1 hu with rfl | hu
    · rfl
    · rcases List.mem_cons.1 hu with rfl | hu
      · rfl
      · exact ih u hu
/-- The call hands back terms. -/
def TermR (P Q : Int) (N : Nat) (w : World) (e : Ending) (w' : World) : Prop := ∃ A c, e = .returned (.tuple #[.slice A N c, .int .i64 0]) ∧ Nums .i64 w' w'.heap.size A (tmT P Q N) ∧ Below w.heap.size w w'
/-- The call hands back convergents. -/
def ConvR (P Q : Int) (N : Nat) (w : World) (e : Ending) (w' : World) : Prop := ∃ A c n, e = .returned (.tuple #[.slice A n c, .int .i64 0]) ∧ n = (cvL P Q N).length ∧ Prs .i64 .i64 w' w'.heap.size A (cvL P Q N) ∧ Below w.heap.size w w'
theorem implTerms_ok {P Q : Int} {N : Nat} (C : CF P Q N) (hr : RtOK (P, Q)) (w : World) : Calls Try.prog 7 #[.agg #[.int .i64 P, .int .i64 Q]] w (TermR P Q N w) := by
  go_enter Try.func7, Try.ntmps7
  (go_wp2_with fail; refine (ValidRatio_ok (r := (P, Q)) hr _).mono ?_; rintro e w' ⟨rfl, hb_⟩; obtain ⟨os0, d0, rfl⟩ := mo_of hb_; clear hb_)
  (go_wp2_with fail; refine (terms_ok C _).mono ?_; rintro e w' ⟨A, c, rfl, N1, hb_⟩)
  go_wp2
  go_returns
  exact ⟨A, c, rfl, N1, Below.trans (by repeat' (first | (with_reducible first | assumption | exact Below.refl _ _ | refine Below.drew ?_ | refine Below.alloc ?_ ?_ _ | refine Below.setCell ?_ ?_ _ | refine below_setR ?_ ?_ _ | refine below_dn ?_ _ | refine Below.trans ?_ (below_mo _ _ _ ?_) | refine Below.trans ?_ (below_mq _ _ ?_) | exact Nat.le_refl _) | (simp; done) | (simp; omega) | omega)) (hb_.mono (by first | (simp; done) | (simp; omega)))⟩
theorem specTerms_ok {P Q : Int} {N : Nat} (C : CF P Q N) (hr : RtOK (P, Q)) (w : World) : Calls Try.prog 8 #[.agg #[.int .i64 P, .int .i64 Q]] w (TermR P Q N w) := by
  go_enter Try.func8, Try.ntmps8
  (go_wp2_with fail; refine (l03Ok_ok (r := (P, Q)) hr _).mono ?_; rintro e w' ⟨rfl, hb_⟩; obtain ⟨os0, d0, rfl⟩ := mo_of hb_; clear hb_)
  (go_wp2_with fail; refine (l03Terms_ok C _).mono ?_; rintro e w' ⟨A, c, rfl, N1, hb_⟩)
  go_wp2
  go_returns
  exact ⟨A, c, rfl, N1, Below.trans (by repeat' (first | (with_reducible first | assumption | exact Below.refl _ _ | refine Below.drew ?_ | refine Below.alloc ?_ ?_ _ | refine Below.setCell ?_ ?_ _ | refine below_setR ?_ ?_ _ | refine below_dn ?_ _ | refine Below.trans ?_ (below_mo _ _ _ ?_) | refine Below.trans ?_ (below_mq _ _ ?_) | exact Nat.le_refl _) | (simp; done) | (simp; omega) | omega)) (hb_.mono (by first | (simp; done) | (simp; omega)))⟩
set_option maxHeartbeats 4000000 in
theorem implConv_ok {P Q : Int} {N : Nat} (C : CF P Q N) (hr : RtOK (P, Q)) (w : World) : Calls Try.prog 10 #[.agg #[.int .i64 P, .int .i64 Q]] w (ConvR P Q N w) := by
  have hN := C.n
  have hcl := cvT_len P Q N
  have K1 := Lib.hid (fun W => terms_ok C W)
  have K2 := Lib.hid (fun (A : Option Addr) (W : World) (h : Nums .i64 W W.heap.size A (tmT P Q N)) (cl : Nat) => convergents_ok C h cl W (Below.refl _ _))
  have HC := Lib.hid C
  go_enter Try.func10, Try.ntmps10
  (go_wp2_with fail; refine (ValidRatio_ok (r := (P, Q)) hr _).mono ?_; rintro e w' ⟨rfl, hb_⟩; obtain ⟨os0, d0, rfl⟩ := mo_of hb_; clear hb_)
  (go_wp2_with fail; refine (K1.out _).mono ?_; rintro e w1 ⟨A, c, rfl, N1, hb1⟩)
  have hb2 : Below w.heap.size w w1 := Below.trans (by repeat' (first | (with_reducible first | assumption | exact Below.refl _ _ | refine Below.drew ?_ | refine Below.alloc ?_ ?_ _ | refine Below.setCell ?_ ?_ _ | refine below_setR ?_ ?_ _ | refine below_dn ?_ _ | refine Below.trans ?_ (below_mo _ _ _ ?_) | refine Below.trans ?_ (below_mq _ _ ?_) | exact Nat.le_refl _) | (simp; done) | (simp; omega) | omega)) (hb1.mono (by first | (simp; done) | (simp; omega)))
  have hz1 := hb2.size
  clear hb1
  (go_wp2_with fail; refine (K2.out A w1 N1 c).mono ?_; rintro e w2 ⟨v, rfl, hown, hb3⟩)
  have hb4 := below_step hb2 hb3 (Nat.le_refl _)
  have hz2 := hb3.size
  clear N1 K1 K2 hb3
  obtain ⟨g, cap, rfl, hcap, hgb⟩ := own_at hown (by omega)
  by_cases hlt : P < Q
  · obtain ⟨h0, hN2⟩ := cvT_0 HC.out hlt
    have KD := delR_0 (l := cvT P Q N) (base := w1.heap.size) (g := g) (cap := cap) (by omega) (by rw [(cvT_p P Q (n := N) (k := 0) (by omega)).1]; exact h0) (fun k h1 h2 => by rw [hcl] at h2; rw [(cvT_p P Q h2).1]; have := cvT_n HC.out h2 (.inr h1); omega) w2 (by rw [hcl]; exact hown)
    rw [hcl] at KD
    have HD := Lib.hid KD
    have HE : Hid (N - 1 = (cvL P Q N).length) := by unfold Hid; rw [cvL_lt N hlt, List.length_drop, hcl]
    clear hown KD
    (go_wp2_with fail; refine HD.out.mono ?_; rintro e w3 ⟨c3, rfl, N3, ch3⟩)
    go_wp2
    go_returns
    exact ⟨_, c3, _, rfl, HE.out, by rw [cvL_lt N hlt]; exact N3, ch3.below hb4 (by omega) (fun k hk => by omega)⟩
  · have HLT := Lib.hid hlt
    obtain ⟨A2, c2, e2, N2⟩ := own_prs (log := cvT P Q N) (by rw [hcl]; exact hown) (by omega)
    rw [hcl] at e2
    injection e2 with e2 _ e3
    subst e2
    have KD := delR_no N2 cap (fun k h2 => by rw [hcl] at h2; rw [(cvT_p P Q h2).1]; have := cvT_n HC.out h2 (.inl hlt); omega) w2 (Below.refl _ _)
    rw [hcl] at KD
    have HD := Lib.hid KD
    have HE : Hid (N = (cvL P Q N).length) := by unfold Hid; rw [cvL_ge N hlt, hcl]
    have HN2 := Lib.hid N2
    clear hown KD e3 N2
    (go_wp2_with fail; refine HD.out.mono ?_; rintro e w3 ⟨rfl, hb3⟩)
    have hz3 := hb3.size
    go_wp2
    go_returns
    exact ⟨_, _, _, rfl, HE.out, by rw [cvL_ge N (by have := HLT.out; omega)]; exact ⟨HN2.out.sl.keep hb3 (Nat.le_refl _) hz3, HN2.out.len, Nat.le_refl _⟩, below_step hb4 hb3 (by omega)⟩
set_option maxHeartbeats 4000000 in
theorem specConv_ok {P Q : Int} {N : Nat} (C : CF P Q N) (hr : RtOK (P, Q)) (w : World) : Calls Try.prog 11 #[.agg #[.int .i64 P, .int .i64 Q]] w (ConvR P Q N w) := by
  obtain ⟨i0, hi, hz0, hz1, hz2⟩ := info_parts infoRat
  have hN := C.n
  have hcl := cvT_len P Q N
  have K1 := Lib.hid (fun W => l03Terms_ok C W)
  have K2 := Lib.hid (fun (A : Option Addr) (W : World) (h : Nums .i64 W W.heap.size A (tmT P Q N)) (cl : Nat) => l03From_ok C h cl W (Below.refl _ _))
  have HC := Lib.hid C
  go_enter Try.func11, Try.ntmps11
  (go_wp2_with fail; refine (l03Ok_ok (r := (P, Q)) hr _).mono ?_; rintro e w' ⟨rfl, hb_⟩; obtain ⟨os0, d0, rfl⟩ := mo_of hb_; clear hb_)
  (go_wp2_with fail; refine (K1.out _).mono ?_; rintro e w1 ⟨A, c, rfl, N1, hb1⟩)
  have hb2 : Below w.heap.size w w1 := Below.trans (by repeat' (first | (with_reducible first | assumption | exact Below.refl _ _ | refine Below.drew ?_ | refine Below.alloc ?_ ?_ _ | refine Below.setCell ?_ ?_ _ | refine below_setR ?_ ?_ _ | refine below_dn ?_ _ | refine Below.trans ?_ (below_mo _ _ _ ?_) | refine Below.trans ?_ (below_mq _ _ ?_) | exact Nat.le_refl _) | (simp; done) | (simp; omega) | omega)) (hb1.mono (by first | (simp; done) | (simp; omega)))
  have hz1' := hb2.size
  clear hb1
  (go_wp2_with fail; refine (K2.out A w1 N1 c).mono ?_; rintro e w2 ⟨v, rfl, hown, hb3⟩)
  have hb4 := below_step hb2 hb3 (Nat.le_refl _)
  have hz2' := hb3.size
  clear N1 K1 K2 hb3
  obtain ⟨g, cap, rfl, hcap, hgb⟩ := own_at hown (by omega)
  obtain ⟨x0, x1⟩ := own_cell2 hown (cvT_at P Q (n := N) (k := 0) (by omega))
  rw [Nat.zero_mul] at x0
  have g0 : (0 : Int) < (N : Int) := by omega
  have g00 : 0 < N := by omega
  by_cases hlt : P < Q
  · obtain ⟨h0, hN2⟩ := cvT_0 HC.out hlt
    rw [h0] at x0
    have hcp := own_cap hown
    have hc1 : ¬ 1 = cap := by omega
    have hc2 : 1 ≤ cap := by omega
    have hc3 : 1 ≤ N := by omega
    have hc4 : (1 : Int) ≤ (N : Int) := by omega
    have hc5 : N ≤ cap := by omega
    have hlen : (lcq .i64 ((cvT P Q N).drop 1)).length = (N - 1) * 2 := by
      have : ∀ l : List (Int × Int), (lcq .i64 l).length = l.length * 2 := by
        intro l
        induction l with
        | nil => rfl
        | cons r l ih => show (lcq .i64 l).length + 1 + 1 = (l.length + 1) * 2; rw [ih]; omega
      rw [this, List.length_drop, hcl]
    have hsrc : ∀ (o : Obj) (j : Nat) (u : Value), (lcq .i64 ((cvT P Q N).drop 1))[j]? = some u → (w2.alloc o).cell? ((⟨g, 2, none⟩ : Addr).add j) = some u := by
      intro o j u hu
      have e : lcq .i64 (cvT P Q N) = .int .i64 (hS P Q 2).1 :: .int .i64 (hS P Q 2).2 :: lcq .i64 ((cvT P Q N).drop 1) := by
        have hd : cvT P Q N = hS P Q 2 :: (cvT P Q N).drop 1 := by
          have h1 := cvT_at P Q (n := N) (k := 0) (by omega)
          cases hcv : cvT P Q N with
          | nil => rw [hcv] at h1; cases h1
          | cons r l => rw [hcv] at h1; simp at h1; subst h1; rfl
        rw [hd]
        rfl
      have h2 := hown.cells (g := g) rfl (j + 1 + 1) u (by rw [e]; exact hu)
      rw [add_plain rfl] at h2
      rw [add_plain rfl]
      have h3 : (w2.alloc o).cell? ⟨g, 0 + (j + 1 + 1), none⟩ = some u := (Below.cell (p := ⟨g, _, none⟩) (Below.alloc (Below.refl _ _) (Nat.le_refl w2.heap.size) o) hcp.2.2).trans h2
      rw [show 0 + (j + 1 + 1) = 2 + j by omega] at h3
      exact h3
    have own0 := own_lit2Q w2 w.heap.size (by omega) 25 _ rfl
    have HE : Hid (N - 1 = (cvL P Q N).length) := by unfold Hid; rw [cvL_lt N hlt, List.length_drop, hcl]
    have HDL : Hid (((cvT P Q N).drop 1).length = N - 1) := by unfold Hid; rw [List.length_drop, hcl]
    have HLT := Lib.hid hlt
    have HSRC := Lib.hid hsrc
    have HOW := Lib.hid hown
    clear hsrc hown
    go_wp2_with (first | (at_builtin; refine wpList_append_own _ rfl _ _ 32 rfl w.heap.size 25 i0 (.agg #[.int .i64 0, .int .i64 0]) 2 16 undRat hi hz0 hz1 hz2 rfl (by decide) _ _ _ rfl own0 ⟨g, 2, none⟩ (N - 1) (cap - 1) (lcq .i64 ((cvT P Q N).drop 1)) rfl hlen (HSRC.out _) lcq_one (by unfold maxLen; omega) (by omega) (by simp; omega) ?_; intro v' w3 hown' hgrow3 hnil3; obtain ⟨A5, c5, hv5, N5⟩ := own_prs (log := (cvT P Q N).drop 1) (by rw [HDL.out]; simpa using hown') (by rw [HDL.out]; omega); subst hv5))
    go_returns
    exact ⟨A5, c5, _, rfl, by first | exact HE.out | exact (HDL.out.trans HE.out), by rw [cvL_lt N HLT.out]; exact N5, (hb4.alloc (by omega) _).grown hgrow3 (by first | (simp; done) | (simp; omega)) (fun q hq => (own0.lt q hq).1)⟩
  · have HLT := Lib.hid hlt
    have h1 := cvT_n HC.out (k := 0) (by omega) (.inl hlt)
    have b0 : ((hS P Q 2).1 == 0) = false := beq_eq_false_iff_ne.2 (by show ¬ (hS P Q (0 + 2)).1 = 0; omega)
    obtain ⟨A2, c2, e2, N2⟩ := own_prs (log := cvT P Q N) (by rw [hcl]; exact hown) (by omega)
    rw [hcl] at e2
    injection e2 with e2 _ e3
    subst e2
    have HE : Hid (N = (cvL P Q N).length) := by unfold Hid; rw [cvL_ge N hlt, hcl]
    have HN2 := Lib.hid N2
    clear hown e3 N2 h1
    go_wp2
    go_returns
    exact ⟨_, _, _, rfl, HE.out, by rw [cvL_ge N (by have := HLT.out; omega)]; exact HN2.out, hb4⟩
end Go.Proofs.Ytinjlofefmjolaa.X
