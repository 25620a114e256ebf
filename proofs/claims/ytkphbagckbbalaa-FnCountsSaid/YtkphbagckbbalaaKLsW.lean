/- The least stack: what the program and the reference compute. Conditions: none. -/
import Derived.Test.YtkphbagckbbalaaKRep
namespace Go.Proofs.Ytkphbagckbbalaa.X
open Go.RowKit
set_option linter.unusedVariables false
set_option linter.unusedSimpArgs false
set_option maxRecDepth 100000
theorem own_numsQ {q : IntKind} {w : World} {b : Nat} {e : TypeId} {v : Value} {ys : List Int} (h : w.ownsRow b e 1 v ys.length (ys.map (Value.int q))) (hl : ys.length ≤ 1048576) : ∃ A c, v = .slice A ys.length c ∧ Nums q w w.heap.size A ys := by
  have hc := fun g hg => h.cells (g := g) hg
  have hlt := h.lt
  rcases h.2 with ⟨e1, e2⟩ | ⟨g, cap, cur, e1, _⟩
  · refine ⟨none, 0, by rw [e1, e2], ⟨fun hn => absurd hn (by omega), hl, Nat.le_refl _⟩⟩
  · subst e1
    refine ⟨_, cap, rfl, ⟨fun hn => ⟨g, 0, rfl, (hlt g rfl).2, fun i x hx j u hu => ?_⟩, hl, Nat.le_refl _⟩⟩
    have hj : j = 0 := by have := (List.getElem?_eq_some_iff.1 hu).1; simp at this; exact this
    subst hj
    simp at hu
    subst hu
    have := hc g rfl i (.int q x) (by rw [List.getElem?_map, hx]; rfl)
    rw [add_plain rfl] at this
    simpa using this
theorem own_at {w : World} {b : Nat} {e : TypeId} {sz : Nat} {v : Value} {n : Nat} {ys : List Value} (h : w.ownsRow b e sz v n ys) (hn : 1 ≤ n) : ∃ g cap, v = .slice (some ⟨g, 0, none⟩) n cap ∧ n ≤ cap ∧ b ≤ g := by
  rcases h.2 with ⟨e1, e2⟩ | ⟨g, cap, cur, e1, h1, _, h2, _⟩
  · omega
  · exact ⟨g, cap, e1, h2, h1⟩
theorem lsL_set (b x y : Int) (m : Nat) : ((lsL b m x).map (Value.int .u8)).set (m - 1) (.int .u8 y) = (lsL b m y).map (Value.int .u8) := by
  unfold lsL
  rw [List.map_append, List.map_append, List.set_append_right _ _ (by simp)]
  simp
theorem lsL_last (b x : Int) (m : Nat) : ((lsL b m x).map (Value.int .u8))[m - 1]? = some (.int .u8 x) := by
  unfold lsL
  rw [List.map_append, List.getElem?_append_right (by simp)]
  simp
theorem own_ls {w : World} {B q cap m : Nat} {b x : Int} (h : w.ownsRow B 5 1 (.slice (some ⟨q, 0, none⟩) m cap) m ((lsL b m x).map (Value.int .u8))) (y : Int) : (w.setCell ⟨q, m - 1, none⟩ (.int .u8 y)).ownsRow B 5 1 (.slice (some ⟨q, 0, none⟩) m cap) m ((lsL b m y).map (Value.int .u8)) := by
  have := (h.stored (m - 1) (.int .u8 y)).1
  rw [lsL_set] at this
  exact this
theorem el_rep {b : Int} {k j : Nat} (h : j < k) : el (List.replicate k b) (j : Int) = b := by
  rw [el_at (by simpa using h)]
  simp
theorem pr_rep (b : Int) (k : Nat) : ∀ {j : Nat}, j ≤ k → pr (List.replicate k b) j = pwI b j
  | 0, _ => rfl
  | j + 1, h => by
    unfold pr pwI
    rw [pr_rep b k (j := j) (by omega), el_rep (by omega)]
theorem size_rep {b : Int} (hb : 1 ≤ b) (k : Nat) : sizeTo (List.replicate k b) k = min (pwI b k) 1000000000001 := by
  rw [(sizeTo_min fun j hj => by rw [el_rep hj]; exact hb).1, pr_rep b k (Nat.le_refl _)]
theorem b8_rep {b : Int} (hb : 0 ≤ b ∧ b ≤ 255) (k : Nat) : b8 (List.replicate k b) := by
  intro i
  unfold el
  rcases Nat.lt_or_ge i.toNat k with h | h
  · rw [List.getD_eq_getElem?_getD, List.getElem?_eq_getElem (by simpa using h)]
    simpa using hb
  · rw [List.getD_eq_getElem?_getD, List.getElem?_eq_none (by simpa using h)]
    simp
theorem inSz {s : Int} (hs : 1 ≤ s ∧ s ≤ 65536) : inR s 1 1000000000000 = true := inR_t.2 ⟨by omega, by omega⟩
theorem inWh {m : Nat} (hm : 1 ≤ m ∧ m ≤ 8) : inR (m : Int) 1 8 = true := inR_t.2 ⟨by omega, by omega⟩
/-- the last number of a row -/
def lastC (w : World) (q k : Nat) : Int := match w.cell? ⟨q, k, none⟩ with
  | some (.int _ c) => c
  | _ => 0
theorem lastC_of {w : World} {q k : Nat} {j : IntKind} {c : Int} (h : w.cell? ⟨q, k, none⟩ = some (.int j c)) : lastC w q k = c := by unfold lastC; rw [h]
set_option maxHeartbeats 4000000 in
theorem implLeast_no {s : Int} (hs : 1 ≤ s ∧ s ≤ 65536) {m : Nat} (hm : 1 ≤ m ∧ m ≤ 8) (hb : LsB s m 101) (w : World) : Calls Try.prog 22 #[.int .i64 s, .int .i64 (m : Int)] w fun e w' => e = .returned (.tuple #[.slice none 0 0, .int .i64 3]) ∧ Below w.heap.size w w' := by
  have H1 := Lib.hid (inSz hs)
  have H2 := Lib.hid (inWh hm)
  have HN := Lib.hid hb.no
  have HBD := Lib.hid (fun c (hc : 2 ≤ c ∧ c ≤ 101) => lsB_bd hm hs hb (c := c) hc)
  go_enter Try.func22, Try.ntmps22
  (go_wp2_with fail; refine (within_ok _ _ _ _).mono ?_; rintro e w' ⟨rfl, rfl⟩; rw [H1.out])
  (go_wp2_with fail; refine (within_ok _ _ _ _).mono ?_; rintro e w' ⟨rfl, rfl⟩; rw [H2.out])
  go_wp2
  go_loopw [6] (fun i wr => ∃ c : Int, (2 ≤ c ∧ c ≤ 101) ∧ i = .int .i64 c ∧ Below w.heap.size w wr) (fun i _ => (101 - intOf i).toNat)
  case atStart => exact ⟨2, by omega, rfl, (by repeat' (first | (with_reducible first | assumption | exact Below.refl _ _ | refine Below.drew ?_ | refine Below.alloc ?_ ?_ _ | refine Below.setCell ?_ ?_ _ | refine below_setR ?_ ?_ _ | refine below_dn ?_ _ | refine Below.trans ?_ (below_mo _ _ _ ?_) | refine Below.trans ?_ (below_mq _ _ ?_) | exact Nat.le_refl _) | (simp; done) | (simp; omega) | omega))⟩
  case round =>
    obtain ⟨c, hc, rfl, hB⟩ := hrel
    have hsz := hB.size
    by_cases hlt : c < 101
    · have g0 : c ≤ 100 := by omega
      have hlo := HN.out c hc.1 hlt
      have hbd := HBD.out c ⟨hc.1, by omega⟩
      have e1 : IntKind.i64.wrap (c + 1) = c + 1 := IntWalk.i64_in _ ⟨by omega, by omega⟩
      (go_wp2_with fail; refine (repeated_ok ⟨hc.1, g0⟩ hm _).mono ?_; rintro e w1 ⟨v, rfl, hown, hb1⟩)
      obtain ⟨A, k, rfl, N⟩ := own_numsQ (by rw [List.length_replicate]; exact hown) (by simp; omega)
      have hl : (List.replicate m c).length = m := List.length_replicate
      have hsv : sizeTo (List.replicate m c) m = pwI c m := by rw [size_rep (by omega)]; omega
      rw [hl]
      have K := Lib.hid (fun W (hW : Below w1.heap.size w1 W) => size_any N (b8_rep (b := c) (by omega) m) m k hl W hW)
      rw [hsv] at K
      have hB1 := below_step hB hb1 (Nat.le_refl _)
      clear hown hb1 hsv hl
      (go_wp2_with fail; refine (K.out _ (Below.refl _ _)).mono ?_; rintro e w' ⟨rfl, rfl⟩)
      go_wp2
      exact ⟨⟨c + 1, by omega, rfl, hB1⟩, by simp [intOf]; omega⟩
    · obtain rfl : c = 101 := by omega
      go_wp2
      go_returns
      exact ⟨rfl, hB⟩
set_option maxHeartbeats 8000000 in
theorem implLeast_yes {s : Int} (hs : 1 ≤ s ∧ s ≤ 65536) {m : Nat} (hm : 1 ≤ m ∧ m ≤ 8) {b l : Int} (hb : LsB s m b) (hb1 : b ≤ 100) (hl : LsT s m b l) (w : World) : Calls Try.prog 22 #[.int .i64 s, .int .i64 (m : Int)] w fun e w' => ∃ v, e = .returned (.tuple #[v, .int .i64 0]) ∧ w'.ownsRow w.heap.size 5 1 v m ((lsL b m l).map (Value.int .u8)) ∧ Below w.heap.size w w' := by
  have H1 := Lib.hid (inSz hs)
  have H2 := Lib.hid (inWh hm)
  have HN := Lib.hid hb.no
  have HY := Lib.hid (hb.yes hb1)
  have HL := Lib.hid hl
  have hb2 := hb.bd
  have HBD := Lib.hid (fun c (hc : 2 ≤ c ∧ c ≤ b) => lsB_bd hm hs hb (c := c) hc)
  have HOK := Lib.hid (fun c (hc : 2 ≤ c ∧ c ≤ b) => ls_ok hm hs hb hb1 (l := c) hc)
  have hld := hl.ld
  clear hl
  go_enter Try.func22, Try.ntmps22
  (go_wp2_with fail; refine (within_ok _ _ _ _).mono ?_; rintro e w' ⟨rfl, rfl⟩; rw [H1.out])
  (go_wp2_with fail; refine (within_ok _ _ _ _).mono ?_; rintro e w' ⟨rfl, rfl⟩; rw [H2.out])
  go_wp2
  go_loopw [6] (fun i wr => ∃ c : Int, (2 ≤ c ∧ c ≤ b) ∧ i = .int .i64 c ∧ Below w.heap.size w wr) (fun i _ => (b - intOf i).toNat)
  case atStart => exact ⟨2, by omega, rfl, (by repeat' (first | (with_reducible first | assumption | exact Below.refl _ _ | refine Below.drew ?_ | refine Below.alloc ?_ ?_ _ | refine Below.setCell ?_ ?_ _ | refine below_setR ?_ ?_ _ | refine below_dn ?_ _ | refine Below.trans ?_ (below_mo _ _ _ ?_) | refine Below.trans ?_ (below_mq _ _ ?_) | exact Nat.le_refl _) | (simp; done) | (simp; omega) | omega))⟩
  case round =>
    obtain ⟨c, hc, rfl, hB⟩ := hrel
    have hsz := hB.size
    have g0 : c ≤ 100 := by omega
    have hbd := HBD.out c ⟨hc.1, by omega⟩
    have e1 : IntKind.i64.wrap (c + 1) = c + 1 := IntWalk.i64_in _ ⟨by omega, by omega⟩
    (go_wp2_with fail; refine (repeated_ok ⟨hc.1, g0⟩ hm _).mono ?_; rintro e w1 ⟨v, rfl, hown, hb1⟩)
    obtain ⟨A, k, rfl, N⟩ := own_numsQ (by rw [List.length_replicate]; exact hown) (by simp; omega)
    have hl : (List.replicate m c).length = m := List.length_replicate
    have hsv : sizeTo (List.replicate m c) m = pwI c m := by rw [size_rep (by omega)]; omega
    rw [hl]
    have K := Lib.hid (fun W (hW : Below w1.heap.size w1 W) => size_any N (b8_rep (b := c) (by omega) m) m k hl W hW)
    rw [hsv] at K
    have hB1 := below_step hB hb1 (Nat.le_refl _)
    clear hown hb1 hsv hl
    by_cases hlt : c < b
    · have hlo := HN.out c hc.1 hlt
      (go_wp2_with fail; refine (K.out _ (Below.refl _ _)).mono ?_; rintro e w' ⟨rfl, rfl⟩)
      go_wp2
      exact ⟨⟨c + 1, by omega, rfl, hB1⟩, by simp [intOf]; omega⟩
    · obtain rfl : c = b := by omega
      have hlo : ¬ pwI c m < s := by have := HY.out; omega
      (go_wp2_with fail; refine (K.out _ (Below.refl _ _)).mono ?_; rintro e w' ⟨rfl, rfl⟩)
      clear K N
      have hs1 := hB1.size
      (go_wp2_with fail; refine (repeated_ok ⟨hc.1, g0⟩ hm _).mono ?_; rintro e w3 ⟨v3, rfl, own3, hb3⟩)
      have hB3 := below_step hB1 hb3 (Nat.le_refl _)
      have own3' := own_base3 own3 hs1
      obtain ⟨q, cap, rfl, hcap, hq⟩ := own_at own3' (by omega)
      have hrow : ((List.replicate m c).map (Value.int .u8)) = (lsL c m c).map (Value.int .u8) := by rw [lsL_rep c hm.1]
      rw [hrow] at own3'
      clear own3 hb3 hrow
      have em : IntKind.i64.wrap ((m : Int) - 1) = ((m - 1 : Nat) : Int) := (IntWalk.i64_in _ ⟨by omega, by omega⟩).trans (by omega)
      have i0 : (0 : Int) ≤ ((m - 1 : Nat) : Int) := by omega
      have i1 : ((m - 1 : Nat) : Int) < (m : Int) := by omega
      have i2 : m - 1 < m := by omega
      have cA := (own3'.cellAt (m - 1) (by omega)).trans (lsL_last _ _ _)
      have fA := own3'.frozenAt (m - 1)
      have hB4 : Below w.heap.size w (w3.setCell ⟨q, m - 1, none⟩ (.int .u8 2)) := Below.setCell hB3 hq _
      have own4 := own_ls own3' 2
      have HO := Lib.hid own4
      clear own3' own4
      go_wp2
      go_loopw [] (fun wr => ∃ x : Int, (2 ≤ x ∧ x ≤ l) ∧ wr.ownsRow w.heap.size 5 1 (.slice (some ⟨q, 0, none⟩) m cap) m ((lsL c m x).map (Value.int .u8)) ∧ Below w.heap.size w wr) (fun wr => (l - lastC wr q (m - 1)).toNat)
      case atStart => exact ⟨2, by omega, HO.out, hB4⟩
      case round =>
        obtain ⟨x, hx, hown, hBx⟩ := hrel
        have hxl : (lsL c m x).length = m := lsL_len c hm.1 x
        obtain ⟨Ax, kx, ex, Nx⟩ := own_numsQ (ys := lsL c m x) (by rw [hxl]; exact hown) (by rw [hxl]; omega)
        rw [hxl] at ex
        injection ex with ex1 ex2 ex3
        subst ex1 ex3
        have ok := HOK.out x (by omega)
        have hbx : b8 (lsL c m x) := b8_lsL (by omega) (by omega) m
        have KS := Lib.hid (fun W (hW : Below wr.heap.size wr W) => size_any Nx hbx m cap hxl W hW)
        have KV := Lib.hid (fun W (hW : Below wr.heap.size wr W) => ValidStack_any Nx hbx m cap hxl W hW)
        rw [ok.2.1] at KS
        rw [ok.1] at KV
        have hlx := HL.out
        have cX := (hown.cellAt (m - 1) (by omega)).trans (lsL_last _ _ _)
        have fX := hown.frozenAt (m - 1)
        have hmx := lastC_of cX
        have HO2 := Lib.hid (own_ls hown (x + 1))
        have hB5 : Below w.heap.size w (wr.setCell ⟨q, m - 1, none⟩ (.int .u8 (x + 1))) := Below.setCell hBx hq _
        have HOw := Lib.hid hown
        have c6 : (wr.setCell ⟨q, m - 1, none⟩ (.int .u8 (x + 1))).cell? ⟨q, m - 1, none⟩ = some (.int .u8 (x + 1)) := (HO2.out.cellAt (m - 1) (by omega)).trans (lsL_last _ _ _)
        have hm6 := lastC_of c6
        have HM := Lib.hid hmx
        have HM6 := Lib.hid hm6
        have e7 : IntKind.u8.wrap (x + 1) = x + 1 := by rw [IntKind.wrap_u8]; omega
        clear hown Nx hbx hxl hmx hm6 c6
        by_cases hlt2 : x < l
        · have hlo2 : pwI c (m - 1) * x < s := hlx.no x hx.1 hlt2
          clear hlx ok
          (go_wp2_with fail; refine (KS.out _ (Below.refl _ _)).mono ?_; rintro e w' ⟨rfl, rfl⟩)
          go_wp2
          exact ⟨⟨x + 1, by omega, HO2.out, hB5⟩, by rw [HM.out, HM6.out]; omega⟩
        · obtain rfl : x = l := by omega
          have hlo2 : ¬ pwI c (m - 1) * x < s := by have := hlx.yes; omega
          clear hlx ok
          (go_wp2_with fail; refine (KS.out _ (Below.refl _ _)).mono ?_; rintro e w' ⟨rfl, rfl⟩)
          (go_wp2_with fail; refine (KV.out _ (Below.refl _ _)).mono ?_; rintro e w' ⟨rfl, rfl⟩)
          go_wp2
          go_returns
          exact ⟨_, rfl, HOw.out, hBx⟩
set_option maxHeartbeats 4000000 in
theorem specLeast_no {s : Int} (hs : 1 ≤ s ∧ s ≤ 65536) {m : Nat} (hm : 1 ≤ m ∧ m ≤ 8) (hb : LsB s m 101) (w : World) : Calls Try.prog 23 #[.int .i64 s, .int .i64 (m : Int)] w fun e w' => ∃ g, e = .returned (.tuple #[.slice (some ⟨g, 0, none⟩) 0 0, .int .i64 3]) ∧ Below w.heap.size w w' := by
  have H1 := Lib.hid (inSz hs)
  have H2 := Lib.hid (inWh hm)
  have HN := Lib.hid hb.no
  have HBD := Lib.hid (fun c (hc : 2 ≤ c ∧ c ≤ 101) => lsB_bd hm hs hb (c := c) hc)
  go_enter Try.func23, Try.ntmps23
  (go_wp2_with fail; refine (l00In_ok _ _ _ _).mono ?_; rintro e w' ⟨rfl, rfl⟩; rw [H1.out])
  (go_wp2_with fail; refine (l00In_ok _ _ _ _).mono ?_; rintro e w' ⟨rfl, rfl⟩; rw [H2.out])
  go_wp2
  go_loopw [6] (fun i wr => ∃ c : Int, (2 ≤ c ∧ c ≤ 101) ∧ i = .int .i64 c ∧ Below w.heap.size w wr) (fun i _ => (101 - intOf i).toNat)
  case atStart => exact ⟨2, by omega, rfl, (by repeat' (first | (with_reducible first | assumption | exact Below.refl _ _ | refine Below.drew ?_ | refine Below.alloc ?_ ?_ _ | refine Below.setCell ?_ ?_ _ | refine below_setR ?_ ?_ _ | refine below_dn ?_ _ | refine Below.trans ?_ (below_mo _ _ _ ?_) | refine Below.trans ?_ (below_mq _ _ ?_) | exact Nat.le_refl _) | (simp; done) | (simp; omega) | omega))⟩
  case round =>
    obtain ⟨c, hc, rfl, hB⟩ := hrel
    have hsz := hB.size
    by_cases hlt : c < 101
    · have g0 : c ≤ 100 := by omega
      have hlo := HN.out c hc.1 hlt
      have hbd := HBD.out c ⟨hc.1, by omega⟩
      have e1 : IntKind.i64.wrap (c + 1) = c + 1 := IntWalk.i64_in _ ⟨by omega, by omega⟩
      (go_wp2_with fail; refine (l01Alike_ok ⟨hc.1, g0⟩ hm _).mono ?_; rintro e w1 ⟨v, rfl, hown, hb1⟩)
      obtain ⟨A, k, rfl, N⟩ := own_numsQ (by rw [List.length_replicate]; exact hown) (by simp; omega)
      have hl : (List.replicate m c).length = m := List.length_replicate
      have hsv : sizeTo (List.replicate m c) m = pwI c m := by rw [size_rep (by omega)]; omega
      rw [hl]
      have K := Lib.hid (fun W (hW : Below w1.heap.size w1 W) => l01Size_any N (b8_rep (b := c) (by omega) m) m k hl W hW)
      rw [hsv] at K
      have hB1 := below_step hB hb1 (Nat.le_refl _)
      clear hown hb1 hsv hl
      (go_wp2_with fail; refine (K.out _ (Below.refl _ _)).mono ?_; rintro e w' ⟨rfl, rfl⟩)
      go_wp2
      exact ⟨⟨c + 1, by omega, rfl, hB1⟩, by simp [intOf]; omega⟩
    · obtain rfl : c = 101 := by omega
      go_wp2
      go_returns
      exact ⟨⟨_, rfl⟩, (by repeat' (first | (with_reducible first | assumption | exact Below.refl _ _ | refine Below.drew ?_ | refine Below.alloc ?_ ?_ _ | refine Below.setCell ?_ ?_ _ | refine below_setR ?_ ?_ _ | refine below_dn ?_ _ | refine Below.trans ?_ (below_mo _ _ _ ?_) | refine Below.trans ?_ (below_mq _ _ ?_) | exact Nat.le_refl _) | (simp; done) | (simp; omega) | omega))⟩
set_option maxHeartbeats 8000000 in
theorem specLeast_yes {s : Int} (hs : 1 ≤ s ∧ s ≤ 65536) {m : Nat} (hm : 1 ≤ m ∧ m ≤ 8) {b l : Int} (hb : LsB s m b) (hb1 : b ≤ 100) (hl : LsT s m b l) (w : World) : Calls Try.prog 23 #[.int .i64 s, .int .i64 (m : Int)] w fun e w' => ∃ v, e = .returned (.tuple #[v, .int .i64 0]) ∧ w'.ownsRow w.heap.size 5 1 v m ((lsL b m l).map (Value.int .u8)) ∧ Below w.heap.size w w' := by
  have H1 := Lib.hid (inSz hs)
  have H2 := Lib.hid (inWh hm)
  have HN := Lib.hid hb.no
  have HY := Lib.hid (hb.yes hb1)
  have HL := Lib.hid hl
  have hb2 := hb.bd
  have HBD := Lib.hid (fun c (hc : 2 ≤ c ∧ c ≤ b) => lsB_bd hm hs hb (c := c) hc)
  have HOK := Lib.hid (fun c (hc : 2 ≤ c ∧ c ≤ b) => ls_ok hm hs hb hb1 (l := c) hc)
  have hld := hl.ld
  clear hl
  go_enter Try.func23, Try.ntmps23
  (go_wp2_with fail; refine (l00In_ok _ _ _ _).mono ?_; rintro e w' ⟨rfl, rfl⟩; rw [H1.out])
  (go_wp2_with fail; refine (l00In_ok _ _ _ _).mono ?_; rintro e w' ⟨rfl, rfl⟩; rw [H2.out])
  go_wp2
  go_loopw [6] (fun i wr => ∃ c : Int, (2 ≤ c ∧ c ≤ b) ∧ i = .int .i64 c ∧ Below w.heap.size w wr) (fun i _ => (b - intOf i).toNat)
  case atStart => exact ⟨2, by omega, rfl, (by repeat' (first | (with_reducible first | assumption | exact Below.refl _ _ | refine Below.drew ?_ | refine Below.alloc ?_ ?_ _ | refine Below.setCell ?_ ?_ _ | refine below_setR ?_ ?_ _ | refine below_dn ?_ _ | refine Below.trans ?_ (below_mo _ _ _ ?_) | refine Below.trans ?_ (below_mq _ _ ?_) | exact Nat.le_refl _) | (simp; done) | (simp; omega) | omega))⟩
  case round =>
    obtain ⟨c, hc, rfl, hB⟩ := hrel
    have hsz := hB.size
    have g0 : c ≤ 100 := by omega
    have hbd := HBD.out c ⟨hc.1, by omega⟩
    have e1 : IntKind.i64.wrap (c + 1) = c + 1 := IntWalk.i64_in _ ⟨by omega, by omega⟩
    (go_wp2_with fail; refine (l01Alike_ok ⟨hc.1, g0⟩ hm _).mono ?_; rintro e w1 ⟨v, rfl, hown, hb1⟩)
    obtain ⟨A, k, rfl, N⟩ := own_numsQ (by rw [List.length_replicate]; exact hown) (by simp; omega)
    have hl : (List.replicate m c).length = m := List.length_replicate
    have hsv : sizeTo (List.replicate m c) m = pwI c m := by rw [size_rep (by omega)]; omega
    rw [hl]
    have K := Lib.hid (fun W (hW : Below w1.heap.size w1 W) => l01Size_any N (b8_rep (b := c) (by omega) m) m k hl W hW)
    rw [hsv] at K
    have hB1 := below_step hB hb1 (Nat.le_refl _)
    clear hown hb1 hsv hl
    by_cases hlt : c < b
    · have hlo := HN.out c hc.1 hlt
      (go_wp2_with fail; refine (K.out _ (Below.refl _ _)).mono ?_; rintro e w' ⟨rfl, rfl⟩)
      go_wp2
      exact ⟨⟨c + 1, by omega, rfl, hB1⟩, by simp [intOf]; omega⟩
    · obtain rfl : c = b := by omega
      have hlo : ¬ pwI c m < s := by have := HY.out; omega
      (go_wp2_with fail; refine (K.out _ (Below.refl _ _)).mono ?_; rintro e w' ⟨rfl, rfl⟩)
      clear K N
      have hs1 := hB1.size
      (go_wp2_with fail; refine (l01Alike_ok ⟨hc.1, g0⟩ hm _).mono ?_; rintro e w3 ⟨v3, rfl, own3, hb3⟩)
      have hB3 := below_step hB1 hb3 (Nat.le_refl _)
      have own3' := own_base3 own3 hs1
      obtain ⟨q, cap, rfl, hcap, hq⟩ := own_at own3' (by omega)
      have hrow : ((List.replicate m c).map (Value.int .u8)) = (lsL c m c).map (Value.int .u8) := by rw [lsL_rep c hm.1]
      rw [hrow] at own3'
      clear own3 hb3 hrow
      have em : IntKind.i64.wrap ((m : Int) - 1) = ((m - 1 : Nat) : Int) := (IntWalk.i64_in _ ⟨by omega, by omega⟩).trans (by omega)
      have i0 : (0 : Int) ≤ ((m - 1 : Nat) : Int) := by omega
      have i1 : ((m - 1 : Nat) : Int) < (m : Int) := by omega
      have i2 : m - 1 < m := by omega
      have i3 : ((m - 1 : Nat) : Int) ≤ (cap : Int) := by omega
      have i4 : m - 1 ≤ cap := by omega
      have cA := (own3'.cellAt (m - 1) (by omega)).trans (lsL_last _ _ _)
      have fA := own3'.frozenAt (m - 1)
      have hxl : (lsL c m c).length = m := lsL_len c hm.1 c
      obtain ⟨Ax, kx, ex, Nx⟩ := own_numsQ (ys := lsL c m c) (by rw [hxl]; exact own3') (by rw [hxl]; omega)
      rw [hxl] at ex
      injection ex with ex1 ex2 ex3
      subst ex1 ex3
      have Nt := Nx.take (m - 1)
      have ht : (lsL c m c).take (m - 1) = List.replicate (m - 1) c := by
        unfold lsL
        rw [List.take_append_of_le_length (by simp)]
        simp
      rw [ht] at Nt
      have KS := Lib.hid (fun W (hW : Below w3.heap.size w3 W) => l01Size_any Nt (b8_rep (b := c) (by omega) (m - 1)) (m - 1) cap (by simp) W hW)
      have hp1 := pwI_pos (b := c) (by omega) (m - 1)
      rw [size_rep (by omega), show min (pwI c (m - 1)) 1000000000001 = pwI c (m - 1) by omega] at KS
      have hB4 : Below w.heap.size w (w3.setCell ⟨q, m - 1, none⟩ (.int .u8 l)) := Below.setCell hB3 hq _
      have own4 := own_ls own3' l
      have hxl4 : (lsL c m l).length = m := lsL_len c hm.1 l
      obtain ⟨A4, k4, ex4, N4⟩ := own_numsQ (ys := lsL c m l) (by rw [hxl4]; exact own4) (by rw [hxl4]; omega)
      rw [hxl4] at ex4
      injection ex4 with ex5 ex6 ex7
      subst ex5 ex7
      have ok := HOK.out l (by omega)
      have KV := Lib.hid (fun W (hW : Below (w3.setCell ⟨q, m - 1, none⟩ (.int .u8 l)).heap.size (w3.setCell ⟨q, m - 1, none⟩ (.int .u8 l)) W) => l01Ok_any N4 (b8_lsL (by omega) (by omega) m) m cap hxl4 W hW)
      rw [ok.1] at KV
      have HO := Lib.hid own4
      have HB3 := Lib.hid hB3
      have e8 : IntKind.u8.wrap l = l := by rw [IntKind.wrap_u8]; omega
      have HBX := Lib.hid hbd
      have hq3 := (own3'.lt q rfl).2
      clear own3' own4 Nx Nt N4 ok ht hxl hxl4 hbd
      go_wp2
      go_loop [8] (fun i => ∃ x : Int, (l ≤ x ∧ x ≤ c) ∧ i = .int .i64 x) (fun i => (intOf i).toNat)
      case atStart => exact ⟨c, by omega, rfl⟩
      case round =>
        obtain ⟨x, hx, rfl⟩ := hrel
        have hlx := HL.out
        have hbx := HBX.out
        have mb := Int.mul_le_mul hbx.2.2 (show x - 1 ≤ 100 by omega) (by omega) (by omega)
        have mn := Int.mul_nonneg (show 0 ≤ pwI c (m - 1) by omega) (show 0 ≤ x - 1 by omega)
        have e1' : IntKind.i64.wrap (x - 1) = x - 1 := IntWalk.i64_in _ ⟨by omega, by omega⟩
        have e2 : IntKind.i64.wrap (pwI c (m - 1) * (x - 1)) = pwI c (m - 1) * (x - 1) := IntWalk.i64_in _ ⟨by omega, by omega⟩
        clear hbx mb mn
        by_cases hlt2 : l < x
        · have hy : s ≤ pwI c (m - 1) * (x - 1) := Int.le_trans hlx.yes (Int.mul_le_mul_of_nonneg_left (by omega) (by omega))
          have g2 : 2 < x := by omega
          have hy2 : ¬ pwI c (m - 1) * (x - 1) < s := by omega
          clear hlx
          (go_wp2_with fail; refine (KS.out _ (Below.refl _ _)).mono ?_; rintro e w' ⟨rfl, rfl⟩)
          go_wp2
          exact ⟨⟨x - 1, by omega, rfl⟩, by simp [intOf]; omega⟩
        · obtain rfl : x = l := by omega
          by_cases g2 : 2 < x
          · have hy : pwI c (m - 1) * (x - 1) < s := hlx.no (x - 1) (by omega) (by omega)
            have hy2 : ¬ s ≤ pwI c (m - 1) * (x - 1) := by omega
            clear hlx
            (go_wp2_with fail; refine (KS.out _ (Below.refl _ _)).mono ?_; rintro e w' ⟨rfl, rfl⟩)
            (go_wp2_with fail; refine (KV.out _ (Below.refl _ _)).mono ?_; rintro e w' ⟨rfl, rfl⟩)
            go_wp2
            go_returns
            exact ⟨_, rfl, HO.out, hB4⟩
          · clear hlx
            (go_wp2_with fail; refine (KV.out _ (Below.refl _ _)).mono ?_; rintro e w' ⟨rfl, rfl⟩)
            go_wp2
            go_returns
            exact ⟨_, rfl, HO.out, hB4⟩
set_option maxHeartbeats 2000000 in
theorem l01Same_ok {q : IntKind} (hq : q = .u8) {L L' : Option Addr} {xs : List Int} {V V' : World} {C C' : Nat} (hl : Nums q V C L xs) (hl' : Nums q V' C' L' xs) (n c c' : Nat) (hn : xs.length = n) (w : World) (hv : Below C V w) (hv' : Below C' V' w) :
    Calls Try.prog 100 #[.slice L n c, .slice L' n c'] w fun e w' => e = .returned (.bool true) ∧ Below w.heap.size w w' := by
  subst hq hn
  have hll := hl.len
  go_enter Try.func100, Try.ntmps100
  go_wp2
  go_loopw [5] (fun i wr => ∃ k : Nat, k ≤ xs.length ∧ i = .int .i64 k ∧ ∃ os d, wr = mo w os d) (fun i _ => xs.length - (intOf i).toNat)
  case atStart => exact ⟨0, Nat.zero_le _, rfl, #[], _, (mo_nil _).symm⟩
  case round =>
    obtain ⟨k, hk, rfl, os, d, rfl⟩ := hrel
    by_cases hlt : k < xs.length
    · obtain ⟨b, off, rfl, hbs, hc0⟩ := hl.at hv hlt
      obtain ⟨b', off', rfl, hbs', hc0'⟩ := hl'.at hv' hlt
      have h0 : (0 : Int) ≤ (k : Int) := by omega
      have h1 : (k : Int) < (xs.length : Int) := by omega
      go_wp2
      go_quiet (fail)
      go_wp2
      exact ⟨⟨k + 1, by omega, by go_num, mo_of (by repeat' (first | (with_reducible first | assumption | exact Below.refl _ _ | refine Below.drew ?_ | refine Below.alloc ?_ ?_ _ | refine Below.setCell ?_ ?_ _ | refine below_setR ?_ ?_ _ | refine below_dn ?_ _ | refine Below.trans ?_ (below_mo _ _ _ ?_) | refine Below.trans ?_ (below_mq _ _ ?_) | exact Nat.le_refl _) | (simp; done) | (simp; omega) | omega))⟩, by simp [intOf]; omega⟩
    · go_wp2
      go_ret
      exact ⟨rfl, (by repeat' (first | (with_reducible first | assumption | exact Below.refl _ _ | refine Below.drew ?_ | refine Below.alloc ?_ ?_ _ | refine Below.setCell ?_ ?_ _ | refine below_setR ?_ ?_ _ | refine below_dn ?_ _ | refine Below.trans ?_ (below_mo _ _ _ ?_) | refine Below.trans ?_ (below_mq _ _ ?_) | exact Nat.le_refl _) | (simp; done) | (simp; omega) | omega))⟩
theorem SameStack_ok {L L' : Option Addr} {xs : List Int} {V V' : World} {C C' : Nat} (hl : Nums .u8 V C L xs) (hl' : Nums .u8 V' C' L' xs) (n c c' : Nat) (hn : xs.length = n) (w : World) (hv : Below C V w) (hv' : Below C' V' w) :
    Calls Try.prog 24 #[.slice L n c, .slice L' n c'] w fun e w' => e = .returned (.bool true) ∧ Below w.heap.size w w' := by
  go_enter Try.func24, Try.ntmps24
  (go_wp2_with fail; refine (l01Same_ok rfl hl hl' _ _ _ hn _ hv hv').mono ?_; rintro e w' ⟨rfl, hb_⟩; obtain ⟨os0, d0, rfl⟩ := mo_of hb_; clear hb_)
  go_wp2
  go_ret
  exact ⟨rfl, (by repeat' (first | (with_reducible first | assumption | exact Below.refl _ _ | refine Below.drew ?_ | refine Below.alloc ?_ ?_ _ | refine Below.setCell ?_ ?_ _ | refine below_setR ?_ ?_ _ | refine below_dn ?_ _ | refine Below.trans ?_ (below_mo _ _ _ ?_) | refine Below.trans ?_ (below_mq _ _ ?_) | exact Nat.le_refl _) | (simp; done) | (simp; omega) | omega))⟩
theorem implSizeOf_ok {A : Option Addr} {xs : List Int} {W : World} {B : Nat} (hs : Nums .u8 W B A xs) (h8 : b8 xs) (n c : Nat) (hn : xs.length = n) (w : World) (hb : Below B W w) (hk : okS xs = true) : Calls Try.prog 25 #[.slice A n c] w fun e w' => e = .returned (.tuple #[.int .i64 (sizeTo xs n), .int .i64 0]) ∧ w = w' := by
  have HK := Lib.hid hk
  go_enter Try.func25, Try.ntmps25
  (go_wp2_with fail; refine (ValidStack_any hs h8 _ _ hn _ hb).mono ?_; rintro e w' ⟨rfl, rfl⟩; rw [HK.out])
  (go_wp2_with fail; refine (size_any hs h8 _ _ hn _ hb).mono ?_; rintro e w' ⟨rfl, rfl⟩)
  go_wp2
  go_returns
  exact ⟨rfl, rfl⟩
end Go.Proofs.Ytkphbagckbbalaa.X
