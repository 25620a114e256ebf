/- The digits of a mark as a list, and the least digits of a photo. Conditions: none. -/
import Derived.Test.YtbihgnmiocfelaaKLeastB
import Derived.Test.YtbihgnmiocfelaaKTail
import Derived.Test.YtbihgnmiocfelaaKAdd
namespace Go.Proofs.Ytbihgnmiocfelaa.X
open Go.RowKit
set_option linter.unusedVariables false
set_option linter.unusedSimpArgs false
set_option maxRecDepth 100000
theorem twoL {w : World} {g : Nat} {a b : Value} {T : TypeId} (h : w.heap[g]? = some (.cells #[a, b] T)) : g < w.heap.size ∧ w.cell? ⟨g, 0, none⟩ = some a ∧ w.cell? ⟨g, 1, none⟩ = some b :=
  ⟨(Array.getElem?_eq_some_iff.1 h).1, (cell_of_row w g 0 _ T (0, 0) h).trans rfl, (cell_of_row w g 1 _ T (0, 0) h).trans rfl⟩
theorem addL {a : Addr} (h : a.spot = none) (n : Nat) : a.add n = ⟨a.block, a.off + n, none⟩ := by
  unfold Addr.add
  split
  · rename_i h0
    subst h0
    cases a
    simp_all
  · rfl
/-- a list whose first number is the first digit, or an empty one -/
def FirstL (X Y k n : Nat) (cs : List Value) : Prop := (n = 0 ∧ frN X Y (128 - k) = frB X Y 0) ∨ (0 < n ∧ cs[0]? = some (.int .i64 (frB X Y 0)))
theorem FirstL.no {X Y k n : Nat} {cs : List Value} (h : FirstL X Y k n cs) (hk : k < 128) (hp : hsB X Y k = false) : FirstL X Y (k + 1) n cs := by
  rcases h with ⟨a, b⟩ | h
  · exact .inl ⟨a, (frN_no hk hp).symm.trans b⟩
  · exact .inr h
theorem FirstL.yes {X Y k n : Nat} {cs : List Value} (h : FirstL X Y k n cs) (hl : cs.length = n * 1) (hk : k < 128) (hp : hsB X Y k = true) : FirstL X Y (k + 1) (n + 1) (cs ++ [.int .i64 (k : Int)]) := by
  refine .inr ⟨by omega, ?_⟩
  rcases h with ⟨a, b⟩ | ⟨a, b⟩
  · subst a
    obtain rfl : cs = [] := List.length_eq_zero_iff.1 (by omega)
    rw [← b, frN_yes hk hp]; rfl
  · rw [List.getElem?_append_left (by omega)]
    exact b
theorem FirstL.pos {X Y n : Nat} {cs : List Value} (h : FirstL X Y 128 n cs) (he : ∃ d, d < 128 ∧ hsB X Y d = true) : 0 < n ∧ cs[0]? = some (.int .i64 (frB X Y 0)) := by
  rcases h with ⟨a, b⟩ | h
  · obtain ⟨d, d1, d2⟩ := he
    obtain ⟨k, k1, k2, k3⟩ := fr_of d1 d2
    rw [k1] at b
    change (-1 : Int) = (k : Int) at b
    omega
  · exact h
theorem infoN : (Try.prog.info? 3).map (fun i => (i.zero, i.size, i.bytes)) = some (some (.int .i64 0), 1, 8) := by kernel_rfl
theorem undN : Try.prog.underlying 247 = some (.slice 3) := by kernel_rfl
/-- The call hands back a list that is not empty, with its first number. -/
def RetF (z : Int) (w : World) (e : Ending) (w' : World) : Prop := ∃ g n c, e = .returned (.slice (some ⟨g, 0, none⟩) n c) ∧ 0 < n ∧ w'.cell? ⟨g, 0, none⟩ = some (.int .i64 z) ∧ Below w.heap.size w w'
theorem keepM {wr w3 : World} {o o' : Obj} {row : Option Nat} {g : Nat} (h : wr.heap[g]? = some o') (hg : (wr.alloc o).grownBy w3 row) (hne : some g ≠ row) : w3.heap[g]? = some o' := by
  have hl := (Array.getElem?_eq_some_iff.1 h).1
  exact (hg.block g (by rw [World.size_alloc]; exact Nat.lt_succ_of_lt hl) hne).trans (heap_alloc_past h)
theorem own_neM {w : World} {b : Nat} {e e' : TypeId} {sz : Nat} {v : Value} {n : Nat} {ys : List Value} {g : Nat} {cs : Array Value} {fr : Nat × Nat} (h : w.ownsRow b e sz v n ys) (hg : w.heap[g]? = some (.cells cs e' fr)) (hne : e ≠ e') : some g ≠ v.ownBlock := by
  intro hb
  rcases h.2 with ⟨rfl, _⟩ | ⟨g', cap, cur, rfl, _, hg', _⟩
  · simp [Value.ownBlock] at hb
  · simp [Value.ownBlock] at hb
    subst hb
    rw [hg'] at hg
    injection hg with hg
    injection hg with _ h2 _
    exact hne h2
set_option maxHeartbeats 2000000 in
theorem mdigits_any (X Y : Nat) (hX : X < 18446744073709551616) (hY : Y < 18446744073709551616) (he : ∃ d, d < 128 ∧ hsB X Y d = true) (w : World) : Calls Try.prog 240 #[.agg #[.int .u64 (X : Int), .int .u64 (Y : Int)]] w (RetF (frB X Y 0) w) := by
  have HX := Lib.hid hX
  have HY := Lib.hid hY
  have HE := Lib.hid he
  obtain ⟨i0, hi, hz0, hz1, hz2⟩ := info_parts infoN
  clear hX hY he
  go_enter Try.func240, Try.ntmps240
  go_wp2
  go_loopw [3, 6] (fun v i wr => ∃ (k n : Nat) (cs : List Value), k ≤ 128 ∧ n ≤ k ∧ i = .int .i64 (k : Int) ∧ wr.ownsRow w.heap.size 3 1 v n cs ∧ Hid (FirstL X Y k n cs) ∧ wr.heap[w.heap.size]? = some (.cells #[.int .u64 (X : Int), .int .u64 (Y : Int)] 41) ∧ Below w.heap.size w wr) (fun _ i _ => 128 - (intOf i).toNat)
  case atStart => exact ⟨0, 0, [], by omega, by omega, rfl, own_new _ _ (by first | (simp; done) | (simp; omega)) _ _ (by first | (simp; done) | (simp; omega)), .inl ⟨rfl, rfl⟩, (by repeat' (first | (with_reducible assumption) | (with_reducible refine heap_mo_at ?_) | (with_reducible refine heap_mq_at ?_) | (with_reducible refine heap_drew_at ?_) | ((with_reducible refine heap_alloc_at ?_); first | rfl | (simp; done)) | (with_reducible refine heap_alloc_past ?_) | ((with_reducible apply heap_set_at); (first | rfl | (simp; done))) | ((with_reducible apply heap_set_past); (first | (simp; done) | (simp; omega) | omega)) | ((with_reducible apply heap_setC_past); (first | (simp; done) | (simp; omega) | omega)) | fail)), (by repeat' (first | (with_reducible first | assumption | exact Below.refl _ _ | refine Below.drew ?_ | refine Below.alloc ?_ ?_ _ | refine Below.setCell ?_ ?_ _ | refine below_setR ?_ ?_ _ | refine below_dn ?_ _ | refine Below.trans ?_ (below_mo _ _ _ ?_) | refine Below.trans ?_ (below_mq _ _ ?_) | exact Nat.le_refl _) | (simp; done) | (simp; omega) | omega))⟩
  case round =>
    obtain ⟨k, n, cs, hk, hn, rfl, hown, HF, hM, hnx⟩ := hrel
    have hsize := hnx.size
    have hcl : cs.length = n * 1 := hown.1
    obtain ⟨hM0, hM1, hM2⟩ := twoL hM
    by_cases hlt : k < 128
    · have g0 : (0 : Int) ≤ (k : Int) := by omega
      have g1 : (k : Int) < 128 := by omega
      have HL := Lib.hid hlt
      have e1 : IntKind.i64.wrap ((k : Int) + 1) = (k : Int) + 1 := IntWalk.i64_in _ ⟨by omega, by omega⟩
      (go_wp2_with fail; refine (has_any X Y HX.out HY.out k HL.out _).mono ?_; rintro e w2 ⟨rfl, hb2⟩)
      have own2 := (Chg.of_below hb2 (fun _ => False)).row hown (fun _ _ h => h)
      have hM' := (hb2.block _ hM0).trans hM
      have hnx2 := hnx.trans (hb2.mono hsize)
      have hsz2 := hb2.size
      cases hp : hsB X Y k
      · have HN : Hid (FirstL X Y (k + 1) n cs) := HF.out.no hlt hp
        go_wp2
        exact ⟨⟨k + 1, n, cs, by omega, by omega, by go_num, own2, HN, hM', hnx2⟩, by simp [intOf]; omega⟩
      · have HN : Hid (FirstL X Y (k + 1) (n + 1) (cs ++ [.int .i64 (k : Int)])) := HF.out.yes hcl hlt hp
        go_wp2_with (first | (at_builtin; refine wpList_append_own _ rfl _ _ 247 rfl w.heap.size 3 i0 (.int .i64 0) 1 8 undN hi hz0 hz1 hz2 rfl (by decide) _ _ _ rfl (own2.alloc _) ⟨w2.heap.size, 0, none⟩ 1 1 [.int .i64 (k : Int)] rfl rfl (cell_one_new _ _ _) (fun x hx => by simp at hx; subst hx; rfl) (by unfold maxLen; omega) (by omega) (by simp; omega) ?_; intro v' w3 hown' hgrow3 hnil3))
        exact ⟨⟨k + 1, n + 1, _, by omega, by omega, by go_num, hown', HN, keepM hM' hgrow3 (own_neM own2 hM' (by decide)), (hnx2.alloc (by omega) _).grown hgrow3 (by first | (simp; done) | (simp; omega)) (fun q hq => (own2.lt q hq).1)⟩, by simp [intOf]; omega⟩
    · obtain rfl : k = 128 := by omega
      obtain ⟨h0, h1⟩ := HF.out.pos HE.out
      have hc := fun g hg => hown.cells (g := g) hg
      rcases hown.2 with ⟨_, e2⟩ | ⟨g, cap, cur, e1, _⟩
      · omega
      · subst e1
        have hcz := hc g rfl _ _ h1
        rw [addL rfl] at hcz
        go_wp2
        go_ret
        exact ⟨g, n, cap, rfl, h0, by simpa using hcz, hnx⟩
/-- the least digits of the first k wheels -/
def lsN (p : Nat → Int) (k : Nat) : Nat → Int := fun i => if i < k then frB (p (2 * i)).toNat (p (2 * i + 1)).toNat 0 else 0
theorem lsN_succ (p : Nat → Int) (k : Nat) : upd (lsN p k) k (frB (p (2 * k)).toNat (p (2 * k + 1)).toNat 0) = lsN p (k + 1) := by
  funext i
  unfold upd lsN
  by_cases e : i = k
  · subst e; rw [if_pos rfl, if_pos (by omega)]
  · rw [if_neg e]
    by_cases h : i < k
    · rw [if_pos h, if_pos (by omega)]
    · rw [if_neg h, if_neg (by omega)]
def lsOK (p : Nat → Int) (n : Nat) : Prop := ∀ i : Nat, i < n → ∃ k : Nat, frB (p (2 * i)).toNat (p (2 * i + 1)).toNat 0 = (k : Int) ∧ k < 128 ∧ hsB (p (2 * i)).toNat (p (2 * i + 1)).toNat k = true
theorem mdigitsI (x y : Int) (hx : 0 ≤ x ∧ x < 18446744073709551616) (hy : 0 ≤ y ∧ y < 18446744073709551616) (he : ∃ d, d < 128 ∧ hsB x.toNat y.toNat d = true) (w : World) : Calls Try.prog 240 #[.agg #[.int .u64 x, .int .u64 y]] w (RetF (frB x.toNat y.toNat 0) w) := by
  have h := mdigits_any x.toNat y.toNat (by omega) (by omega) he w
  rw [Int.toNat_of_nonneg hx.1, Int.toNat_of_nonneg hy.1] at h
  exact h
set_option maxHeartbeats 2000000 in
theorem least_any (p : Nat → Int) (hu : u16 p) (n : Nat) (hn : n ≤ 8) (ho : lsOK p n) (g : Nat) (w : World) (hg : PhIn w g p) : Calls Try.prog 130 #[.pointer (some ⟨g, 0, none⟩), .agg #[.int .u8 0, .int .u8 0, .int .u8 0, .int .u8 0, .int .u8 0, .int .u8 0, .int .u8 0, .int .u8 0], .int .i64 (n : Int)] w fun e w' => e = .returned (.agg #[.int .u8 (lsN p n 0), .int .u8 (lsN p n 1), .int .u8 (lsN p n 2), .int .u8 (lsN p n 3), .int .u8 (lsN p n 4), .int .u8 (lsN p n 5), .int .u8 (lsN p n 6), .int .u8 (lsN p n 7)]) ∧ Below w.heap.size w w' := by
  have hg0 := hg.lt
  have HU := Lib.hid hu
  have HG := Lib.hid hg
  have HO := Lib.hid ho
  clear hu hg ho
  go_enter Try.func130, Try.ntmps130
  go_wp2
  go_loopw [9] (fun i wr => ∃ (k : Nat) (os : Array Obj) (d : Nat), k ≤ n ∧ i = .int .i64 (k : Int) ∧ wr = mo ((w.alloc (.cells #[.int .u8 (lsN p k 0), .int .u8 (lsN p k 1), .int .u8 (lsN p k 2), .int .u8 (lsN p k 3), .int .u8 (lsN p k 4), .int .u8 (lsN p k 5), .int .u8 (lsN p k 6), .int .u8 (lsN p k 7)] 78)).alloc (.cells #[.int .u8 0, .int .u8 0, .int .u8 0, .int .u8 0, .int .u8 0, .int .u8 0, .int .u8 0, .int .u8 0] 78)) os d) (fun i _ => n - (intOf i).toNat)
  case atStart => exact ⟨0, #[], _, Nat.zero_le _, rfl, (mo_nil _).symm⟩
  case round =>
    obtain ⟨k, os, d, hk, rfl, rfl⟩ := hrel
    by_cases hlt : k < n
    · obtain ⟨c0, c1⟩ := HG.out.at' k (by omega)
      obtain ⟨z, hz0, hz1, hz2⟩ := HO.out k hlt
      have g0 : (0 : Int) ≤ (k : Int) := by omega
      have g1 : (k : Int) < 8 := by omega
      have hk8 : k < 8 := by omega
      have HD := Lib.hid (mdigitsI _ _ (HU.out (2 * k)) (HU.out (2 * k + 1)) ⟨z, hz1, hz2⟩)
      have HS := Lib.hid ((a8_set .u8 (lsN p k) (frB (p (2 * k)).toNat (p (2 * k + 1)).toNat 0) hk8).trans (by rw [lsN_succ]))
      have ha := a8_at .u8 (lsN p k) hk8
      rw [hz0] at HD HS
      have e8 : IntKind.u8.wrap (z : Int) = (z : Int) := by rw [IntKind.wrap_u8]; omega
      have e7 : IntKind.i64.wrap ((k : Int) + 1) = (k : Int) + 1 := IntWalk.i64_in _ ⟨by omega, by omega⟩
      clear hz2
      (go_wp2_with fail; refine (HD.out _).mono ?_; rintro e w2 ⟨g', n', c', rfl, hn', hc', hb2⟩; obtain ⟨os2, d2, rfl⟩ := mo_of hb2; clear hb2)
      have hg' := block_lt_of_cell hc'
      go_wp2
      exact ⟨⟨k + 1, _, _, by omega, by go_num, by rw [HS.out]; exact mo_mo _ _ _ _ _⟩, by simp [intOf]; omega⟩
    · obtain rfl : k = n := by omega
      go_wp2
      exact bodyPost_ret (v := .agg #[.int .u8 (lsN p k 0), .int .u8 (lsN p k 1), .int .u8 (lsN p k 2), .int .u8 (lsN p k 3), .int .u8 (lsN p k 4), .int .u8 (lsN p k 5), .int .u8 (lsN p k 6), .int .u8 (lsN p k 7)]) (by simp [results, Try.results130, go_sem]) rfl ⟨rfl, (by repeat' (first | (with_reducible first | assumption | exact Below.refl _ _ | refine Below.drew ?_ | refine Below.alloc ?_ ?_ _ | refine Below.setCell ?_ ?_ _ | refine below_setR ?_ ?_ _ | refine below_dn ?_ _ | refine Below.trans ?_ (below_mo _ _ _ ?_) | refine Below.trans ?_ (below_mq _ _ ?_) | exact Nat.le_refl _) | (simp; done) | (simp; omega) | omega))⟩
end Go.Proofs.Ytbihgnmiocfelaa.X
