/- What is possible between two readings: the plain law of FnPossible. Conditions: none. -/
import Derived.Test.YtkphbagckbbalaaKBetween
import Derived.Test.YtkphbagckbbalaaKLogR
namespace Go.Proofs.Ytkphbagckbbalaa.X
open Go.RowKit
set_option linter.unusedVariables false
set_option linter.unusedSimpArgs false
set_option maxRecDepth 100000
theorem add_mod_in (a b z : Int) : (a + b % z) % z = (a + b) % z := by
  have e := Int.mul_ediv_add_emod b z
  have e2 : a + b = (a + b % z) + z * (b / z) := by omega
  rw [e2, Int.add_mul_emod_self_left]
theorem sub_mod_in (a b z : Int) : (a - b % z) % z = (a - b) % z := by
  have e := Int.mul_ediv_add_emod b z
  have e2 : a - b % z = (a - b) + z * (b / z) := by omega
  rw [e2, Int.add_mul_emod_self_left]
/-- a number that leaves no rest and is small is 0 or the modulus -/
theorem rest0 {x z : Int} (hz : 0 < z) (h : x % z = 0) (h0 : 0 ≤ x) (h1 : x < 2 * z) : x = 0 ∨ x = z := by
  have e := Int.mul_ediv_add_emod x z
  rw [h] at e
  have q0 := Int.ediv_nonneg h0 (show 0 ≤ z by omega)
  have q1 : x / z < 2 := (Int.ediv_lt_iff_lt_mul hz).2 h1
  rcases (show x / z = 0 ∨ x / z = 1 by omega) with q | q
  · rw [q] at e; left; omega
  · rw [q] at e; right; omega
/-- what the law asks of the answers: with a count that is possible, and without one -/
structure PossY (z av bv L H lo hi : Int) : Prop where
  l0 : L ≤ lo ∧ lo ≤ H
  h0 : lo ≤ hi ∧ hi ≤ H
  lv : (av + lo) % z = bv
  hv : (av + hi) % z = bv
  no : ∀ c, L ≤ c → c < lo → (av + c) % z ≠ bv
structure PossN (z av bv L due : Int) : Prop where
  d0 : 0 < due ∧ due < z
  eq : (av + L) % z = (bv + due) % z
  ne : (av + L) % z ≠ bv
theorem possY {z av bv L H : Int} (hz : 0 < z) (hb : 0 ≤ bv ∧ bv < z) (hok : L + (bv - av - L) % z ≤ H) : PossY z av bv L H (L + (bv - av - L) % z) (H - (H - (bv - av)) % z) := by
  have hzn : z ≠ 0 := by omega
  have u0 := Int.emod_nonneg (bv - av - L) hzn
  have u1 := Int.emod_lt_of_pos (bv - av - L) hz
  have d0 := Int.emod_nonneg (H - (bv - av)) hzn
  have d1 := Int.emod_lt_of_pos (H - (bv - av)) hz
  have bz : bv % z = bv := Int.emod_eq_of_lt hb.1 hb.2
  have lv : (av + (L + (bv - av - L) % z)) % z = bv := by
    rw [show av + (L + (bv - av - L) % z) = (av + L) + (bv - av - L) % z by omega, add_mod_in, show av + L + (bv - av - L) = bv by omega, bz]
  have hv : (av + (H - (H - (bv - av)) % z)) % z = bv := by
    rw [show av + (H - (H - (bv - av)) % z) = (av + H) - (H - (bv - av)) % z by omega, sub_mod_in, show av + H - (H - (bv - av)) = bv by omega, bz]
  obtain ⟨lo, hlo⟩ : ∃ lo, lo = L + (bv - av - L) % z := ⟨_, rfl⟩
  obtain ⟨hi, hhi⟩ : ∃ hi, hi = H - (H - (bv - av)) % z := ⟨_, rfl⟩
  rw [← hlo] at lv hok ⊢
  rw [← hhi] at hv ⊢
  have key : ∀ a b : Int, (av + a) % z = bv → (av + b) % z = bv → (a - b) % z = 0 := fun a b h1 h2 => by
    have := Int.sub_emod (av + a) (av + b) z
    rw [h1, h2, Int.sub_self, Int.zero_emod, show av + a - (av + b) = a - b by omega] at this
    exact this
  refine ⟨⟨by omega, hok⟩, ⟨?_, by omega⟩, lv, hv, fun c h1 h2 h3 => ?_⟩
  · rcases Int.lt_or_le hi lo with c | c
    · have := rest0 hz (key lo hi lv hv) (by omega) (by omega)
      omega
    · exact c
  · have := rest0 hz (key lo c lv h3) (by omega) (by omega)
    omega
theorem possN {z av bv L H : Int} (hz : 0 < z) (hb : 0 ≤ bv ∧ bv < z) (hLH : L ≤ H) (hok : ¬ L + (bv - av - L) % z ≤ H) : PossN z av bv L ((av + L - bv) % z) ∧ ¬ z ≤ (av + L - bv) % z + H - L := by
  have hzn : z ≠ 0 := by omega
  have u0 := Int.emod_nonneg (bv - av - L) hzn
  have u1 := Int.emod_lt_of_pos (bv - av - L) hz
  have f0 := Int.emod_nonneg (av + L - bv) hzn
  have f1 := Int.emod_lt_of_pos (av + L - bv) hz
  have bz : bv % z = bv := Int.emod_eq_of_lt hb.1 hb.2
  have hs : ((bv - av - L) % z + (av + L - bv) % z) % z = 0 := by
    rw [add_mod_in, Int.add_comm, add_mod_in, show av + L - bv + (bv - av - L) = 0 by omega, Int.zero_emod]
  have := rest0 hz hs (by omega) (by omega)
  have eq : (av + L) % z = (bv + (av + L - bv) % z) % z := by rw [add_mod_in, show bv + (av + L - bv) = av + L by omega]
  refine ⟨⟨⟨by omega, f1⟩, eq, fun h => ?_⟩, by omega⟩
  rw [h] at eq
  have h2 := Int.sub_emod (bv + (av + L - bv) % z) bv z
  rw [← eq, bz, Int.sub_self, Int.zero_emod, show bv + (av + L - bv) % z - bv = (av + L - bv) % z by omega] at h2
  rw [Int.emod_eq_of_lt f0 f1] at h2
  omega
theorem possB {z av bv L H : Int} (hz : 0 < z) (hok : L + (bv - av - L) % z ≤ H) : z ≤ (av + L - bv) % z + H - L ∨ (av + L - bv) % z = 0 := by
  have hzn : z ≠ 0 := by omega
  have u0 := Int.emod_nonneg (bv - av - L) hzn
  have u1 := Int.emod_lt_of_pos (bv - av - L) hz
  have f0 := Int.emod_nonneg (av + L - bv) hzn
  have f1 := Int.emod_lt_of_pos (av + L - bv) hz
  have hs : ((bv - av - L) % z + (av + L - bv) % z) % z = 0 := by
    rw [add_mod_in, Int.add_comm, add_mod_in, show av + L - bv + (bv - av - L) = 0 by omega, Int.zero_emod]
  have := rest0 hz hs (by omega) (by omega)
  omega
/-- two readings that are drawn one behind the other, and a flow -/
structure Pair2 (ys : List Int) (ad av bd bv fl fh : Int) : Prop where
  st : LStk ys
  a : (0 ≤ ad ∧ ad ≤ 36) ∧ 0 ≤ av ∧ av < szS ys
  b : (0 ≤ bd ∧ bd ≤ 36) ∧ 0 ≤ bv ∧ bv < szS ys
  d : ad < bd ∧ bd ≤ ad + 4
  f : (0 ≤ fl ∧ fl ≤ 5) ∧ fl ≤ fh ∧ fh ≤ fl + 11
theorem Pair2.pc {ys : List Int} {ad av bd bv fl fh : Int} (h : Pair2 ys ad av bd bv fl fh) : pairC ys ad av bd bv fl fh = 0 := by
  obtain ⟨k1, k2, k3, k4, k5, k6⟩ := h.st.fine
  have ha := h.a
  have hb := h.b
  have hd := h.d
  have hf := h.f
  refine pairC_0 k1 ?_ ?_ ?_ (by omega)
  · unfold okR
    rw [k4, inR_t.2 ⟨ha.1.1, by omega⟩, inR_t.2 ⟨ha.2.1, by omega⟩]; rfl
  · unfold okR
    rw [k4, inR_t.2 ⟨hb.1.1, by omega⟩, inR_t.2 ⟨hb.2.1, by omega⟩]; rfl
  · unfold okF
    rw [decide_eq_true hf.1.1, decide_eq_true hf.2.1, decide_eq_true (show fh ≤ 1000000 by omega)]; rfl
/-- what the answers are -/
theorem Pair2.ans {ys : List Int} {ad av bd bv fl fh : Int} (h : Pair2 ys ad av bd bv fl fh) :
    (∃ lo hi, PossY (szS ys) av bv (fl * (bd - ad)) (fh * (bd - ad)) lo hi ∧ cbV ys ad av bd bv fl fh = (lo, hi, 0) ∧ sbV ys ad av bd bv fl fh = (0, 0) ∧ rbV ys ad av bd bv fl fh = ((av + lo) / szS ys, (av + hi) / szS ys, 0)) ∨
    (∃ due, PossN (szS ys) av bv (fl * (bd - ad)) due ∧ cbV ys ad av bd bv fl fh = (0, 0, 6) ∧ sbV ys ad av bd bv fl fh = (due, 0)) := by
  obtain ⟨k1, k2, k3, k4, k5, k6⟩ := h.st.fine
  have hz : 0 < szS ys := by omega
  have hp := h.pc
  have hd := h.d
  have hf := h.f
  have hLH : fl * (bd - ad) ≤ fh * (bd - ad) := Int.mul_le_mul_of_nonneg_right hf.2.1 (by omega)
  by_cases c : fl * (bd - ad) + (bv - av - fl * (bd - ad)) % szS ys ≤ fh * (bd - ad)
  · left
    have hc : cOk ys ad av bd bv fl fh = true := decide_eq_true c
    refine ⟨_, _, possY hz h.b.2 c, cbV_3 hp hc, ?_, ?_⟩
    · by_cases e : szS ys ≤ sbFirst ys ad av bd bv fl + fh * (bd - ad) - fl * (bd - ad)
      · exact sbV_2 hp e
      · rw [sbV_3 hp e]
        rcases possB (av := av) (bv := bv) hz c with g | g
        · exact absurd g e
        · unfold sbFirst; rw [g]
    · unfold rbV
      rw [cbV_3 hp hc, if_pos rfl]; rfl
  · right
    have hc : cOk ys ad av bd bv fl fh = false := decide_eq_false c
    obtain ⟨n1, n2⟩ := possN hz h.b.2 hLH c
    exact ⟨_, n1, cbV_2 hp hc, sbV_3 hp n2⟩
end Go.Proofs.Ytkphbagckbbalaa.X
