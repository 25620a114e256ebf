/- The digits that an eye reads, and the wheels that it reads wrong. Conditions: none. -/
import Derived.Test.YtinjlofefmjolaaKList2
import Derived.Test.YtinjlofefmjolaaKMot5
namespace Go.Proofs.Ytinjlofefmjolaa.X
open Go.RowKit
set_option linter.unusedVariables false
set_option linter.unusedSimpArgs false
set_option maxRecDepth 100000
/-- the digit that an eye reads of a wheel -/
def rdE (xs : List Int) (p : Nat → Int) (eye : Int) (i : Nat) : Int := (if eye = 1 then p i + 500 else p i) / 1000 % el xs i
def rdTo (xs : List Int) (p : Nat → Int) (eye : Int) (k : Nat) : Nat → Int := fun i => if i < k then rdE xs p eye i else 0
theorem rdTo_succ (xs : List Int) (p : Nat → Int) (eye : Int) (k : Nat) : upd (rdTo xs p eye k) k (rdE xs p eye k) = rdTo xs p eye (k + 1) := by
  funext i
  unfold upd rdTo
  by_cases h : i = k
  · subst h; rw [if_pos rfl, if_pos (by omega)]
  · by_cases h2 : i < k
    · rw [if_neg h, if_pos h2, if_pos (by omega)]
    · rw [if_neg h, if_neg h2, if_neg (by omega)]
theorem rdE_1 (xs : List Int) (p : Nat → Int) (i : Nat) : rdE xs p 1 i = (p i + 500) / 1000 % el xs i := by unfold rdE; rw [if_pos rfl]
theorem rdE_0 (xs : List Int) (p : Nat → Int) {eye : Int} (h : ¬ eye = 1) (i : Nat) : rdE xs p eye i = p i / 1000 % el xs i := by unfold rdE; rw [if_neg h]
theorem rdE_bd {xs : List Int} {p : Nat → Int} {eye : Int} {i : Nat} (h : 2 ≤ el xs i ∧ el xs i ≤ 100) : 0 ≤ rdE xs p eye i ∧ rdE xs p eye i < el xs i :=
  ⟨Int.emod_nonneg _ (by omega), Int.emod_lt_of_pos _ (by omega)⟩
theorem rd_small {a b : Int} (h : 0 ≤ a ∧ a < b * 1000) : a / 1000 % b = a / 1000 := Int.emod_eq_of_lt (by omega) (by omega)
theorem rz (xs : List Int) (p : Nat → Int) (eye : Int) : (#[Value.int .u8 0, Value.int .u8 0, Value.int .u8 0, Value.int .u8 0, Value.int .u8 0, Value.int .u8 0, Value.int .u8 0, Value.int .u8 0] : Array Value) = #[.int .u8 (rdTo xs p eye 0 0), .int .u8 (rdTo xs p eye 0 1), .int .u8 (rdTo xs p eye 0 2), .int .u8 (rdTo xs p eye 0 3), .int .u8 (rdTo xs p eye 0 4), .int .u8 (rdTo xs p eye 0 5), .int .u8 (rdTo xs p eye 0 6), .int .u8 (rdTo xs p eye 0 7)] := rfl
set_option maxHeartbeats 2000000 in
theorem read_any {A : Option Addr} {xs : List Int} {W : World} {B : Nat} (hs : Nums .u8 W B A xs) (h8 : b8 xs) (c : Nat) {L : Option Addr} {js : List (Int × Int)} {V : World} {C : Nat} (hl : Prs .i8 .i16 V C L js) (hj : j8 js) (cl : Nat) (w : World) (hb : Below B W w) (hv : Below C V w) (g : Nat) (k0 : w.cell? ⟨g, 0, none⟩ = some (.slice A xs.length c)) (k1 : w.cell? ⟨g, 1, none⟩ = some (.slice L js.length cl)) (p : Nat → Int) (eye : Int) (hk : okO xs js = true) (hp : ∀ i : Nat, i < xs.length → 0 ≤ p i ∧ p i < el xs i * 1000) : Calls Try.prog 80 #[.pointer (some ⟨g, 0, none⟩), .agg #[.int .i64 (p 0), .int .i64 (p 1), .int .i64 (p 2), .int .i64 (p 3), .int .i64 (p 4), .int .i64 (p 5), .int .i64 (p 6), .int .i64 (p 7)], .int .i64 eye] w fun e w' => e = .returned (.agg #[.int .u8 (rdTo xs p eye xs.length 0), .int .u8 (rdTo xs p eye xs.length 1), .int .u8 (rdTo xs p eye xs.length 2), .int .u8 (rdTo xs p eye xs.length 3), .int .u8 (rdTo xs p eye xs.length 4), .int .u8 (rdTo xs p eye xs.length 5), .int .u8 (rdTo xs p eye xs.length 6), .int .u8 (rdTo xs p eye xs.length 7)]) ∧ Below w.heap.size w w' := by
  have hB := hs.bsz hb
  have hn := hs.len
  have hg : g < w.heap.size := block_lt_of_cell k0
  obtain ⟨s1, s2, s3⟩ := okO_parts hk
  obtain ⟨hl0, hl8⟩ := okS_len s1
  have HS := Lib.hid s1
  have HP := Lib.hid hp
  clear s1 s2 s3 hk hp
  go_enter Try.func80, Try.ntmps80
  go_wp2
  go_loopw [17] (fun i wr => ∃ k : Nat, k ≤ xs.length ∧ i = .int .i64 (k : Int) ∧ wr = (((w.alloc (.cells #[.int .i64 (p 0), .int .i64 (p 1), .int .i64 (p 2), .int .i64 (p 3), .int .i64 (p 4), .int .i64 (p 5), .int .i64 (p 6), .int .i64 (p 7)] 53)).alloc (.cells #[.int .u8 (rdTo xs p eye 0 0), .int .u8 (rdTo xs p eye 0 1), .int .u8 (rdTo xs p eye 0 2), .int .u8 (rdTo xs p eye 0 3), .int .u8 (rdTo xs p eye 0 4), .int .u8 (rdTo xs p eye 0 5), .int .u8 (rdTo xs p eye 0 6), .int .u8 (rdTo xs p eye 0 7)] 57)).alloc (.cells #[.int .u8 (rdTo xs p eye k 0), .int .u8 (rdTo xs p eye k 1), .int .u8 (rdTo xs p eye k 2), .int .u8 (rdTo xs p eye k 3), .int .u8 (rdTo xs p eye k 4), .int .u8 (rdTo xs p eye k 5), .int .u8 (rdTo xs p eye k 6), .int .u8 (rdTo xs p eye k 7)] 57))) (fun i _ => xs.length - (intOf i).toNat)
  case atStart => exact ⟨0, Nat.zero_le _, rfl, rfl⟩
  case round =>
    obtain ⟨k, hk, rfl, rfl⟩ := hrel
    by_cases hlt : k < xs.length
    · obtain ⟨b, off, rfl, hbs, hc⟩ := hs.at hb hlt
      obtain ⟨z0, z1⟩ := okS_el HS.out hlt
      obtain ⟨p0, p1⟩ := HP.out k hlt
      obtain ⟨r0, r1⟩ := rdE_bd (xs := xs) (p := p) (eye := eye) (i := k) ⟨z0, z1⟩
      have z2 : ¬ el xs k = 0 := by omega
      have z3 : (el xs k == 0) = false := beq_eq_false_iff_ne.2 z2
      have z6 : IntKind.i64.wrap (el xs k) = el xs k := IntWalk.i64_in _ ⟨by omega, by omega⟩
      have g0 : (0 : Int) ≤ (k : Int) := by omega
      have g1 : (k : Int) < 8 := by omega
      have g3 : k < 8 := by omega
      have g5 : (k : Int) < (xs.length : Int) := by omega
      have q1 := a8_at .i64 p (k := k) g3
      have q3 := a8_at .u8 (rdTo xs p eye k) (k := k) g3
      have HSt := Lib.hid ((a8_set .u8 (rdTo xs p eye k) (rdE xs p eye k) (k := k) g3).trans (by rw [rdTo_succ]))
      by_cases he : eye = 1
      · subst he
        have e28 : IntKind.i64.wrap (p k + 500) = p k + 500 := IntWalk.i64_in _ ⟨by omega, by omega⟩
        have p2 : 0 ≤ p k + 500 := by omega
        have p4 : ((p k + 500) / 1000).tmod (el xs k) = rdE xs p 1 k := (Int.tmod_eq_emod_of_nonneg (by omega)).trans (rdE_1 xs p k).symm
        have p5 : IntKind.u8.wrap (rdE xs p 1 k) = rdE xs p 1 k := IntWalk.u8_in _ ⟨by omega, by omega⟩
        go_wp2
        exact ⟨⟨k + 1, by omega, by go_num, by rw [HSt.out]⟩, by simp [intOf]; omega⟩
      · have b1 : (eye == 1) = false := beq_eq_false_iff_ne.2 he
        have p4 : (p k / 1000).tmod (el xs k) = rdE xs p eye k := (Int.tmod_eq_emod_of_nonneg (by omega)).trans (rdE_0 xs p he k).symm
        have p5 : IntKind.u8.wrap (rdE xs p eye k) = rdE xs p eye k := IntWalk.u8_in _ ⟨by omega, by omega⟩
        go_wp2
        exact ⟨⟨k + 1, by omega, by go_num, by rw [HSt.out]⟩, by simp [intOf]; omega⟩
    · obtain rfl : k = xs.length := by omega
      go_wp2
      go_returns
      exact ⟨rfl, (by repeat' (first | (with_reducible first | assumption | exact Below.refl _ _ | refine Below.drew ?_ | refine Below.alloc ?_ ?_ _ | refine Below.setCell ?_ ?_ _ | refine below_setR ?_ ?_ _ | refine below_dn ?_ _ | refine Below.trans ?_ (below_mo _ _ _ ?_) | refine Below.trans ?_ (below_mq _ _ ?_) | exact Nat.le_refl _) | (simp; done) | (simp; omega) | omega))⟩
set_option maxHeartbeats 2000000 in
theorem l02Reads_any {A : Option Addr} {xs : List Int} {W : World} {B : Nat} (hs : Nums .u8 W B A xs) (h8 : b8 xs) (c : Nat) {L : Option Addr} {js : List (Int × Int)} {V : World} {C : Nat} (hl : Prs .i8 .i16 V C L js) (hj : j8 js) (cl : Nat) (w : World) (hb : Below B W w) (hv : Below C V w) (g : Nat) (k0 : w.cell? ⟨g, 0, none⟩ = some (.slice A xs.length c)) (k1 : w.cell? ⟨g, 1, none⟩ = some (.slice L js.length cl)) (p : Nat → Int) (eye : Int) (hk : okO xs js = true) (hp : ∀ i : Nat, i < xs.length → 0 ≤ p i ∧ p i < el xs i * 1000) : Calls Try.prog 82 #[.pointer (some ⟨g, 0, none⟩), .agg #[.int .i64 (p 0), .int .i64 (p 1), .int .i64 (p 2), .int .i64 (p 3), .int .i64 (p 4), .int .i64 (p 5), .int .i64 (p 6), .int .i64 (p 7)], .int .i64 eye] w fun e w' => e = .returned (.agg #[.int .u8 (rdTo xs p eye xs.length 0), .int .u8 (rdTo xs p eye xs.length 1), .int .u8 (rdTo xs p eye xs.length 2), .int .u8 (rdTo xs p eye xs.length 3), .int .u8 (rdTo xs p eye xs.length 4), .int .u8 (rdTo xs p eye xs.length 5), .int .u8 (rdTo xs p eye xs.length 6), .int .u8 (rdTo xs p eye xs.length 7)]) ∧ Below w.heap.size w w' := by
  have hB := hs.bsz hb
  have hn := hs.len
  have hg : g < w.heap.size := block_lt_of_cell k0
  obtain ⟨s1, s2, s3⟩ := okO_parts hk
  obtain ⟨hl0, hl8⟩ := okS_len s1
  have HS := Lib.hid s1
  have HP := Lib.hid hp
  clear s1 s2 s3 hk hp
  go_enter Try.func82, Try.ntmps82
  go_wp2
  go_loopw [8] (fun i wr => ∃ (k : Nat) (os : Array Obj) (d : Nat), k ≤ xs.length ∧ i = .int .i64 (k : Int) ∧ wr = mo (((w.alloc (.cells #[.int .i64 (p 0), .int .i64 (p 1), .int .i64 (p 2), .int .i64 (p 3), .int .i64 (p 4), .int .i64 (p 5), .int .i64 (p 6), .int .i64 (p 7)] 53)).alloc (.cells #[.int .u8 (rdTo xs p eye 0 0), .int .u8 (rdTo xs p eye 0 1), .int .u8 (rdTo xs p eye 0 2), .int .u8 (rdTo xs p eye 0 3), .int .u8 (rdTo xs p eye 0 4), .int .u8 (rdTo xs p eye 0 5), .int .u8 (rdTo xs p eye 0 6), .int .u8 (rdTo xs p eye 0 7)] 57)).alloc (.cells #[.int .u8 (rdTo xs p eye k 0), .int .u8 (rdTo xs p eye k 1), .int .u8 (rdTo xs p eye k 2), .int .u8 (rdTo xs p eye k 3), .int .u8 (rdTo xs p eye k 4), .int .u8 (rdTo xs p eye k 5), .int .u8 (rdTo xs p eye k 6), .int .u8 (rdTo xs p eye k 7)] 57)) os d) (fun i _ => xs.length - (intOf i).toNat)
  case atStart => exact ⟨0, #[], _, Nat.zero_le _, rfl, (mo_nil _).symm⟩
  case round =>
    obtain ⟨k, os, d, hk, rfl, rfl⟩ := hrel
    by_cases hlt : k < xs.length
    · obtain ⟨b, off, rfl, hbs, hc⟩ := hs.at hb hlt
      obtain ⟨z0, z1⟩ := okS_el HS.out hlt
      obtain ⟨p0, p1⟩ := HP.out k hlt
      obtain ⟨r0, r1⟩ := rdE_bd (xs := xs) (p := p) (eye := eye) (i := k) ⟨z0, z1⟩
      have z2 : ¬ el xs k = 0 := by omega
      have z3 : (el xs k == 0) = false := beq_eq_false_iff_ne.2 z2
      have z6 : IntKind.i64.wrap (el xs k) = el xs k := IntWalk.i64_in _ ⟨by omega, by omega⟩
      have g0 : (0 : Int) ≤ (k : Int) := by omega
      have g1 : (k : Int) < 8 := by omega
      have g3 : k < 8 := by omega
      have g5 : (k : Int) < (xs.length : Int) := by omega
      have q1 := a8_at .i64 p (k := k) g3
      have q3 := a8_at .u8 (rdTo xs p eye k) (k := k) g3
      have HSt := Lib.hid ((a8_set .u8 (rdTo xs p eye k) (rdE xs p eye k) (k := k) g3).trans (by rw [rdTo_succ]))
      by_cases he : eye = 1
      · subst he
        have e28 : IntKind.i64.wrap (p k + 500) = p k + 500 := IntWalk.i64_in _ ⟨by omega, by omega⟩
        have p2 : 0 ≤ p k + 500 := by omega
        have p4 : ((p k + 500) / 1000).tmod (el xs k) = rdE xs p 1 k := (Int.tmod_eq_emod_of_nonneg (by omega)).trans (rdE_1 xs p k).symm
        have p5 : IntKind.u8.wrap (rdE xs p 1 k) = rdE xs p 1 k := IntWalk.u8_in _ ⟨by omega, by omega⟩
        go_wp2
        go_quiet (fail)
        rw [mo_drewN]
        go_wp2
        exact ⟨⟨k + 1, os, _, by omega, by go_num, by rw [HSt.out]⟩, by simp [intOf]; omega⟩
      · have b1 : (eye == 1) = false := beq_eq_false_iff_ne.2 he
        have p4 : IntKind.u8.wrap (p k / 1000) = rdE xs p eye k := (IntWalk.u8_in _ ⟨by omega, by omega⟩).trans ((rd_small ⟨p0, p1⟩).symm.trans (rdE_0 xs p he k).symm)
        go_wp2
        exact ⟨⟨k + 1, os, _, by omega, by go_num, by rw [HSt.out]⟩, by simp [intOf]; omega⟩
    · obtain rfl : k = xs.length := by omega
      go_wp2
      go_returns
      exact ⟨rfl, (by repeat' (first | (with_reducible first | assumption | exact Below.refl _ _ | refine Below.drew ?_ | refine Below.alloc ?_ ?_ _ | refine Below.setCell ?_ ?_ _ | refine below_setR ?_ ?_ _ | refine below_dn ?_ _ | refine Below.trans ?_ (below_mo _ _ _ ?_) | refine Below.trans ?_ (below_mq _ _ ?_) | exact Nat.le_refl _) | (simp; done) | (simp; omega) | omega))⟩
end Go.Proofs.Ytinjlofefmjolaa.X
