/- Logs that the laws draw: lists of readings as rows. Conditions: none. -/
import Derived.Test.YtkphbagckbbalaaKDrawM
import Derived.Test.YtkphbagckbbalaaKLog
import Derived.Test.YtkphbagckbbalaaKOpen
namespace Go.Proofs.Ytkphbagckbbalaa.X
open Go.RowKit
set_option linter.unusedVariables false
set_option linter.unusedSimpArgs false
set_option maxRecDepth 100000
/-- the cells of readings -/
def lcl : List (Int × Int) → List Value
  | [] => []
  | r :: l => .int .i64 r.1 :: .int .i64 r.2 :: lcl l
theorem lcl_app : ∀ (a b : List (Int × Int)), lcl (a ++ b) = lcl a ++ lcl b
  | [], b => rfl
  | r :: a, b => by show _ :: _ :: lcl (a ++ b) = _ :: _ :: (lcl a ++ lcl b); rw [lcl_app a b]
theorem lcl_len : ∀ a : List (Int × Int), (lcl a).length = a.length * 2
  | [] => rfl
  | r :: a => by show (lcl a).length + 1 + 1 = (a.length + 1) * 2; rw [lcl_len a]; omega
theorem lcl_at : ∀ (a : List (Int × Int)) (i : Nat) (x : Int × Int), a[i]? = some x → (lcl a)[i * 2]? = some (.int .i64 x.1) ∧ (lcl a)[i * 2 + 1]? = some (.int .i64 x.2)
  | [], i, x, h => by simp at h
  | r :: a, 0, x, h => by
    simp at h
    subst h
    exact ⟨rfl, rfl⟩
  | r :: a, i + 1, x, h => by
    have ih := lcl_at a i x (by simpa using h)
    rw [show (i + 1) * 2 = i * 2 + 1 + 1 by omega]
    exact ih
/-- a list of readings of its own can be read -/
theorem own_log {w : World} {b : Nat} {e : TypeId} {v : Value} {log : List (Int × Int)} (h : w.ownsRow b e 2 v log.length (lcl log)) (hl : log.length ≤ 1048576) : ∃ A c, v = .slice A log.length c ∧ Prs .i64 .i64 w w.heap.size A log := by
  have hc := fun g hg => h.cells (g := g) hg
  have hlt := h.lt
  rcases h.2 with ⟨e1, e2⟩ | ⟨g, cap, cur, e1, _⟩
  · exact ⟨none, 0, by rw [e1, e2], ⟨fun hn => absurd hn (by omega), hl, Nat.le_refl _⟩⟩
  · subst e1
    refine ⟨_, cap, rfl, ⟨fun hn => ⟨g, 0, rfl, (hlt g rfl).2, fun i x hx j u hu => ?_⟩, hl, Nat.le_refl _⟩⟩
    obtain ⟨c0, c1⟩ := lcl_at log i x hx
    match j, hu with
    | 0, hu =>
      simp [encP] at hu
      subst hu
      have := hc g rfl _ _ c0
      rw [add_plain rfl] at this
      simpa using this
    | 1, hu =>
      simp [encP] at hu
      subst hu
      have := hc g rfl _ _ c1
      rw [add_plain rfl] at this
      simpa using this
/-- the stacks of the logs that are drawn -/
def LStk (ys : List Int) : Prop := ys = [10, 10] ∨ ys = [10, 10, 10] ∨ ys = [6, 4, 3]
theorem LStk.fine {ys : List Int} (h : LStk ys) : okS ys = true ∧ b8 ys ∧ ys.length ≤ 8 ∧ sizeTo ys ys.length = szS ys ∧ 72 ≤ szS ys ∧ szS ys ≤ 1000 := by
  have key : ∀ zs : List Int, zs.length ≤ 3 → (∀ k : Nat, k < 3 → 0 ≤ zs.getD k 0 ∧ zs.getD k 0 ≤ 255) → b8 zs := fun zs hz hk k => by
    unfold el
    rcases Nat.lt_or_ge k.toNat 3 with c | c
    · exact hk _ c
    · rw [List.getD_eq_getElem?_getD, List.getElem?_eq_none (by omega)]; decide
  rcases h with e | e | e
  · subst e; exact ⟨by decide, key _ (by decide) (by decide), by decide, rfl, by decide, by decide⟩
  · subst e; exact ⟨by decide, key _ (by decide) (by decide), by decide, rfl, by decide, by decide⟩
  · subst e; exact ⟨by decide, key _ (by decide) (by decide), by decide, rfl, by decide, by decide⟩
/-- a log as it is drawn: days go up by 1 to 4, values are the stack's -/
structure LogOK (z : Int) (log : List (Int × Int)) : Prop where
  len : log.length ≤ 8
  rd : ∀ k : Nat, k < log.length → (0 ≤ p1 log k ∧ p1 log k ≤ 36) ∧ (0 ≤ p2 log k ∧ p2 log k < z)
  st : ∀ k : Nat, k + 1 < log.length → p1 log k < p1 log ((k : Int) + 1) ∧ p1 log ((k : Int) + 1) ≤ p1 log k + 4
/-- what is known of a log to which the reading of day d is still to be added -/
structure LogTo (z : Int) (log : List (Int × Int)) (d : Int) : Prop where
  ok : LogOK z log
  d0 : 0 ≤ d ∧ d ≤ 4 + 4 * (log.length : Int)
  nx : ∀ k : Nat, k + 1 = log.length → p1 log k < d ∧ d ≤ p1 log k + 4
theorem p_app_l (log : List (Int × Int)) (r : Int × Int) {k : Nat} (h : k < log.length) : p1 (log ++ [r]) k = p1 log k ∧ p2 (log ++ [r]) k = p2 log k := by
  unfold p1 p2
  rw [Int.toNat_natCast, List.getD_eq_getElem?_getD, List.getD_eq_getElem?_getD, List.getElem?_append_left h]
  exact ⟨rfl, rfl⟩
theorem p_app_r (log : List (Int × Int)) (r : Int × Int) : p1 (log ++ [r]) (log.length : Nat) = r.1 ∧ p2 (log ++ [r]) (log.length : Nat) = r.2 := by
  unfold p1 p2
  rw [Int.toNat_natCast, List.getD_eq_getElem?_getD, List.getElem?_append_right (Nat.le_refl _), Nat.sub_self]
  exact ⟨rfl, rfl⟩
theorem LogTo.snoc {z : Int} {log : List (Int × Int)} {d x s : Int} (h : LogTo z log d) (hl : log.length < 8) (hx : 0 ≤ x ∧ x < z) (hs : 1 ≤ s ∧ s ≤ 4) : LogTo z (log ++ [(d, x)]) (d + s) := by
  have ok := h.ok
  have d0 := h.d0
  have hle : (log ++ [(d, x)]).length = log.length + 1 := by simp
  refine ⟨⟨by omega, fun k hk => ?_, fun k hk => ?_⟩, by rw [hle]; omega, fun k hk => ?_⟩
  · by_cases c : k < log.length
    · obtain ⟨e1, e2⟩ := p_app_l log (d, x) c
      rw [e1, e2]; exact ok.rd k c
    · obtain rfl : k = log.length := by omega
      obtain ⟨e1, e2⟩ := p_app_r log (d, x)
      rw [e1, e2]; exact ⟨⟨d0.1, by omega⟩, hx⟩
  · rw [show (k : Int) + 1 = ((k + 1 : Nat) : Int) by omega]
    by_cases c : k + 1 < log.length
    · rw [(p_app_l log (d, x) c).1, (p_app_l log (d, x) (show k < log.length by omega)).1]
      have := ok.st k c
      rwa [show (k : Int) + 1 = ((k + 1 : Nat) : Int) by omega] at this
    · have e : k + 1 = log.length := by omega
      rw [e, (p_app_r log (d, x)).1, (p_app_l log (d, x) (show k < log.length by omega)).1]
      exact h.nx k e
  · rw [hle] at hk
    obtain rfl : k = log.length := by omega
    rw [(p_app_r log (d, x)).1]
    show d < d + s ∧ d + s ≤ d + 4
    omega
theorem LogTo.nil {z d : Int} (hd : 0 ≤ d ∧ d ≤ 4) : LogTo z [] d := ⟨⟨by simp, fun k hk => absurd hk (by simp), fun k hk => absurd hk (by simp)⟩, ⟨hd.1, by simpa using hd.2⟩, fun k hk => absurd hk (by simp)⟩
end Go.Proofs.Ytkphbagckbbalaa.X
