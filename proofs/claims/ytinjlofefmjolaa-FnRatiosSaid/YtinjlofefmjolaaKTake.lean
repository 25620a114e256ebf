/- Drawn regions: an operation may be taken first where what it reads is only written by operations that wait for it. Conditions: none. -/
import Derived.Test.YtinjlofefmjolaaKBase
import Derived.OrdersHeld
import Derived.StillTail
namespace Go.Proofs.Ytinjlofefmjolaa.X
open Go.RowKit
set_option linter.unusedVariables false
set_option linter.unusedSimpArgs false
set_option maxRecDepth 100000
section
variable {P : Program} {ops : Array Oper} {Q : Exit → Act → World → Prop} {md : Region.Mode} {S : Array Bool → World → Prop}
/-- whatever comes up next: behind it S holds of what has come up and of the world -/
def wpAnyX (P : Program) (md : Region.Mode) (ops : Array Oper) (Q : Exit → Act → World → Prop) (S : Array Bool → World → Prop) : Nat → Array Bool → Act → World → Prop
  | 0, l, a, w => Region.ready md ops l = [] ∧ Q .normal a w
  | f + 1, l, a, w => (Region.ready md ops l = [] → Q .normal a w) ∧ ∀ i ∈ Region.ready md ops l, wpOp P ops Q i (fun a' w' => S (l.setIfInBounds i true) w' ∧ wpAnyX P md ops Q S f (l.setIfInBounds i true) a' w') a w
theorem wpAny_of_X : ∀ (f : Nat) (l : Array Bool) (a : Act) (w : World), wpAnyX P md ops Q S f l a w → wpAny P md ops Q f l a w
  | 0, _, _, _, h => h
  | f + 1, _, _, _, h => ⟨h.1, fun i hi => wpOp_mono (fun a' w' h' => wpAny_of_X f _ a' w' h'.2) (h.2 i hi)⟩
theorem wpAnyX_first {i k : Nat} {oi ok : Oper} {v : Value} (hi : ops[i]? = some oi) (hk : ops[k]? = some ok) (hw : ∃ e ∈ ok.after, Region.binds md e = true ∧ e.on = i) (hsel : ∀ (j : Nat) (o : Oper) cs b, ops[j]? = some o → o.op ≠ .select cs b)
    (hQ : ∀ c a w, Q (.panic c) (a.put oi.dst v) w → Q (.panic c) a w) (hst : ∀ l w, S (l.setIfInBounds i true) w ↔ S l w) :
    ∀ (f : Nat) (l : Array Bool) (a : Act) (w : World),
      (∀ j oj, ops[j]? = some oj → j ≠ i → l.getD j true = false → (∀ e ∈ oj.after, Region.binds md e = true → e.on ≠ i) → oi.apart ops oj = true) →
      l.getD k true = false → i ∈ Region.ready md ops l → YieldsIf P ops (fun w => ∃ l, l.getD k true = false ∧ S l w) oi v a → S l w →
      wpAnyX P md ops Q S f (l.setIfInBounds i true) (a.put oi.dst v) w → wpAnyX P md ops Q S (f + 1) l a w := by
  intro f
  induction f with
  | zero =>
    intro l a w _ hku hr hy hS H
    refine ⟨fun h => (by rw [h] at hr; cases hr), fun j hj => ?_⟩
    by_cases e : j = i
    · subst e
      exact hy.wpOp hi ⟨l, hku, hS⟩ ⟨(hst _ _).2 hS, H⟩
    · have := ready_mono hj e
      rw [H.1] at this
      cases this
  | succ f ih =>
    intro l a w hfree hku hr hy hS H
    refine ⟨fun h => (by rw [h] at hr; cases hr), fun j hj => ?_⟩
    by_cases e : j = i
    · subst e
      exact hy.wpOp hi ⟨l, hku, hS⟩ ⟨(hst _ _).2 hS, H⟩
    · have h1 := H.2 j (ready_mono hj e)
      obtain ⟨hju, oj, hoj, hall⟩ := mem_ready.1 hj
      have hiu := getD_both (mem_ready.1 hr).1
      have hnot : ∀ d ∈ oj.after, Region.binds md d = true → d.on ≠ i := fun d hd hb he => by
        have := hall d hd hb
        rw [he, hiu] at this
        cases this
      have hjk : j ≠ k := fun he => by
        subst he
        obtain ⟨d, hd, hb, ho⟩ := hw
        rw [hk] at hoj
        injection hoj with hoj
        subst hoj
        exact hnot d hd hb ho
      have h2 := wpOp_putIf hoj (hfree j oj hoj e hju hnot) (fun cs b => hsel i oi cs b hi) (fun cs b => hsel j oj cs b hoj) hQ hy h1
      refine wpOp_mono (fun a' w' h3 => ?_) h2
      obtain ⟨h4, h5, h6⟩ := h3
      rw [Array.setIfInBounds_comm _ _ (Ne.symm e)] at h5 h6
      have h7 := (hst _ _).1 h5
      refine ⟨h7, ih (l.setIfInBounds j true) a' w' (fun x ox hx hxi hxu hno => hfree x ox hx hxi ?_ hno) (by rw [getD_set_ne true hjk]; exact hku) (ready_mono hr (Ne.symm e)) h4 h7 h6⟩
      · by_cases hjx : j = x
        · subst hjx; exact hju
        · rw [getD_set_ne true hjx] at hxu; exact hxu
/-- Operation i is taken first: k, which may write what it reads, waits for it. -/
theorem wpAnyX_take {i : Nat} (k : Nat) {oi : Oper} {v : Value} {f : Nat} {l : Array Bool} {a : Act} {w : World} (hi : ops[i]? = some oi) (hk : Region.waitsFor md ops k i = true) (hku : l.getD k true = false)
    (hs : Region.noSelect ops = true) (hf : Region.free md ops l i = true) (hr : (Region.ready md ops l).contains i = true) (hQ : ∀ c a w, Q (.panic c) (a.put oi.dst v) w → Q (.panic c) a w)
    (hst : ∀ l w, S (l.setIfInBounds i true) w ↔ S l w) (hS : S l w) (hy : YieldsIf P ops (fun w => ∃ l, l.getD k true = false ∧ S l w) oi v a)
    (h : wpAnyX P md ops Q S f (l.setIfInBounds i true) (a.put oi.dst v) w) : wpAnyX P md ops Q S (f + 1) l a w := by
  obtain ⟨ok, hok, hw⟩ := Region.waitsFor_spec hk
  exact wpAnyX_first hi hok hw (Region.noSelect_spec hs) hQ hst f l a w (Region.free_spec hi hf) hku (by simpa using hr) hy hS h
/-- One alone may come up. -/
theorem wpAnyX_one {i : Nat} {o : Oper} {f : Nat} {l : Array Bool} {a : Act} {w : World} (hr : Region.ready md ops l = [i]) (ho : ops[i]? = some o)
    (h : ∀ K' : Act → World → Prop, (∀ a w, S (l.setIfInBounds i true) w → wpAnyX P md ops Q S f (l.setIfInBounds i true) a w → K' a w) → if Region.wanted o (yielded ops a.tmps) = true then Oper.wp P o a w K' Q else K' (a.put o.dst undef) w) : wpAnyX P md ops Q S (f + 1) l a w := by
  refine ⟨fun h0 => (by rw [hr] at h0; cases h0), fun j hj => ?_⟩
  rw [hr] at hj
  obtain rfl := List.mem_singleton.1 hj
  exact wpOp_step ho (fun K' hK => h K' (fun a w hS hW => hK a w ⟨hS, hW⟩))
theorem wpAnyX_done {f : Nat} {l : Array Bool} {a : Act} {w : World} (hr : Region.ready md ops l = []) (h : Q .normal a w) : wpAnyX P md ops Q S f l a w := by
  cases f with
  | zero => exact ⟨hr, h⟩
  | succ f => exact ⟨fun _ => h, fun i hi => (by rw [hr] at hi; cases hi)⟩
/-- The beginning. -/
theorem wp_region_X {id : Nat} {a : Act} {w : World} (hm : P.follows .mixedOrders = true) (h : wpAnyX P .any ops Q S ops.size (Array.replicate ops.size false) a w.drew) : (Code.region id ops true).wp P Q a w :=
  wp_region_any hm (wpAny_of_X _ _ _ _ h)
theorem wp_region_Xn {id : Nat} {a : Act} {w : World} (n : Nat) (L : Array Bool) (hm : P.follows .mixedOrders = true) (hn : ops.size = n) (hL : Array.replicate n false = L) (h : wpAnyX P .any ops Q S n L a w.drew) : (Code.region id ops true).wp P Q a w := by
  subst hn
  subst hL
  exact wp_region_X hm h
end
end Go.Proofs.Ytinjlofefmjolaa.X
