/- When a counter is off: what the program and the reference compute. Conditions: none. -/
import Derived.Test.YtkphbagckbbalaaKTrainW
import Derived.Test.YtkphbagckbbalaaKGearX
namespace Go.Proofs.Ytkphbagckbbalaa.X
open Go.RowKit
set_option linter.unusedVariables false
set_option linter.unusedSimpArgs false
set_option maxRecDepth 100000
def trn (r : Int × Int) (n : Int) : Int := n * r.1 / r.2
def difO (R r : Int × Int) (n : Int) : Int := trn R n - trn r n
theorem trn_bd {r : Int × Int} (hr : RtOK r) {n : Int} (hn : 0 ≤ n ∧ n ≤ 1000000000) : (0 ≤ n * r.1 ∧ n * r.1 ≤ 1000000000000000000) ∧ 0 ≤ trn r n ∧ trn r n ≤ 1000000000000000000 := by
  have h := mul_bdG hn (show 0 ≤ r.1 ∧ r.1 ≤ 1000000000 by have := hr.p; omega)
  have h1 := Int.ediv_nonneg h.1 (show 0 ≤ r.2 by have := hr.q; omega)
  have h2 := Int.ediv_le_self r.2 h.1
  refine ⟨⟨h.1, by omega⟩, h1, ?_⟩
  unfold trn
  omega
/-- where a counter is off first -/
def FOk (R r : Int × Int) (most c k : Int) : Prop := (k = 0 ∧ (1 ≤ c ∧ c ≤ most) ∧ difO R r c ≠ 0 ∧ ∀ j, 1 ≤ j → j < c → difO R r j = 0) ∨ (k = 6 ∧ c = 0 ∧ ∀ j, 1 ≤ j → j ≤ most → difO R r j = 0)
theorem fok_ex (R r : Int × Int) (m : Nat) : ∃ c k, FOk R r (m : Int) c k := by
  induction m with
  | zero => exact ⟨0, 6, .inr ⟨rfl, rfl, fun j a b => by omega⟩⟩
  | succ m ih =>
    obtain ⟨c, k, ⟨h1, h2, h3, h4⟩ | ⟨h1, h2, h3⟩⟩ := ih
    · exact ⟨c, k, .inl ⟨h1, by omega, h3, h4⟩⟩
    · by_cases e : difO R r ((m : Int) + 1) = 0
      · refine ⟨0, 6, .inr ⟨rfl, rfl, fun j a b => ?_⟩⟩
        by_cases e2 : j = (m : Int) + 1
        · rw [e2]; exact e
        · exact h3 j a (by omega)
      · exact ⟨(m : Int) + 1, 0, .inl ⟨rfl, by omega, e, fun j a b => h3 j a (by omega)⟩⟩
set_option maxHeartbeats 1000000 in
theorem turns_ok {r : Int × Int} (hr : RtOK r) {n : Int} (hn : 0 ≤ n ∧ n ≤ 1000000000) (w : World) : Calls Try.prog 110 #[.agg #[.int .i64 r.1, .int .i64 r.2], .int .i64 n] w fun e w' => e = .returned (.int .i64 (trn r n)) ∧ Below w.heap.size w w' := by
  obtain ⟨⟨t0, t1⟩, t2, t3⟩ := trn_bd hr hn
  have q0 := hr.q
  have HV : Hid (trn r n = n * r.1 / r.2) := rfl
  have z1 : ¬ r.2 = 0 := by omega
  have z2 : (r.2 == 0) = false := beq_eq_false_iff_ne.2 z1
  have e1 : IntKind.i64.wrap (n * r.1) = n * r.1 := IntWalk.i64_in _ ⟨by omega, by omega⟩
  have e2 : (n * r.1).tdiv r.2 = trn r n := Int.tdiv_eq_ediv_of_nonneg t0
  have e3 : IntKind.i64.wrap (trn r n) = trn r n := IntWalk.i64_in _ ⟨by omega, by omega⟩
  clear hr hn
  obtain ⟨p, q⟩ := r
  simp only at *
  go_enter Try.func110, Try.ntmps110
  go_wp2
  go_ret
  exact ⟨rfl, (by repeat' (first | (with_reducible first | assumption | exact Below.refl _ _ | refine Below.drew ?_ | refine Below.alloc ?_ ?_ _ | refine Below.setCell ?_ ?_ _ | refine below_setR ?_ ?_ _ | refine below_dn ?_ _ | refine Below.trans ?_ (below_mo _ _ _ ?_) | refine Below.trans ?_ (below_mq _ _ ?_) | exact Nat.le_refl _) | (simp; done) | (simp; omega) | omega))⟩
set_option maxHeartbeats 2000000 in
theorem l03Off_ok {R r : Int × Int} (hR : RtOK R) (hr : RtOK r) {n : Int} (hn : 0 ≤ n ∧ n ≤ 1000000000) (w : World) : Calls Try.prog 111 #[.agg #[.int .i64 R.1, .int .i64 R.2], .agg #[.int .i64 r.1, .int .i64 r.2], .int .i64 n] w fun e w' => e = .returned (.int .i64 (difO R r n)) ∧ Below w.heap.size w w' := by
  obtain ⟨⟨t0, t1⟩, t2, t3⟩ := trn_bd hR hn
  obtain ⟨⟨s0, s1⟩, s2, s3⟩ := trn_bd hr hn
  have q0 := hr.q
  have q1 := hR.q
  have HV : Hid (difO R r n = trn R n - trn r n) := rfl
  have z1 : ¬ r.2 = 0 := by omega
  have z2 : (r.2 == 0) = false := beq_eq_false_iff_ne.2 z1
  have z3 : ¬ R.2 = 0 := by omega
  have z4 : (R.2 == 0) = false := beq_eq_false_iff_ne.2 z3
  have e1 : IntKind.i64.wrap (n * r.1) = n * r.1 := IntWalk.i64_in _ ⟨by omega, by omega⟩
  have e2 : (n * r.1).tdiv r.2 = trn r n := Int.tdiv_eq_ediv_of_nonneg s0
  have e3 : IntKind.i64.wrap (trn r n) = trn r n := IntWalk.i64_in _ ⟨by omega, by omega⟩
  have e4 : IntKind.i64.wrap (n * R.1) = n * R.1 := IntWalk.i64_in _ ⟨by omega, by omega⟩
  have e5 : (n * R.1).tdiv R.2 = trn R n := Int.tdiv_eq_ediv_of_nonneg t0
  have e6 : IntKind.i64.wrap (trn R n) = trn R n := IntWalk.i64_in _ ⟨by omega, by omega⟩
  have e7 : IntKind.i64.wrap (trn R n - trn r n) = trn R n - trn r n := IntWalk.i64_in _ ⟨by omega, by omega⟩
  clear hr hn hR
  generalize trn R n = X at *
  generalize trn r n = Y at *
  obtain ⟨p, q⟩ := r
  obtain ⟨u, v⟩ := R
  simp only at *
  go_enter Try.func111, Try.ntmps111
  go_wp2
  go_quiet (fail)
  go_wp2
  go_ret
  exact ⟨congrArg (fun z => Ending.returned (Value.int .i64 z)) HV.out.symm, (by repeat' (first | (with_reducible first | assumption | exact Below.refl _ _ | refine Below.drew ?_ | refine Below.alloc ?_ ?_ _ | refine Below.setCell ?_ ?_ _ | refine below_setR ?_ ?_ _ | refine below_dn ?_ _ | refine Below.trans ?_ (below_mo _ _ _ ?_) | refine Below.trans ?_ (below_mq _ _ ?_) | exact Nat.le_refl _) | (simp; done) | (simp; omega) | omega))⟩
set_option maxHeartbeats 2000000 in
theorem off_ok {L : Option Addr} {ts : List (Int × Int)} {V : World} {C : Nat} (hl : Prs .i16 .i16 V C L ts) (cl : Nat) (ht : TrOK ts) (w : World) (hv : Below C V w) {r : Int × Int} (hr : RtOK r) {n : Int} (hn : 0 ≤ n ∧ n ≤ 1000000000) : Calls Try.prog 112 #[.slice L ts.length cl, .agg #[.int .i64 r.1, .int .i64 r.2], .int .i64 n] w fun e w' => e = .returned (.int .i64 (difO (rtO ts) r n)) ∧ Below w.heap.size w w' := by
  obtain ⟨⟨t0, t1⟩, t2, t3⟩ := trn_bd (rtO_ok ht) hn
  obtain ⟨⟨s0, s1⟩, s2, s3⟩ := trn_bd hr hn
  have hC := hl.bsz hv
  have HV : Hid (difO (rtO ts) r n = trn (rtO ts) n - trn r n) := rfl
  have HT := Lib.hid ht
  have K1 := Lib.hid (fun W => turns_ok (rtO_ok ht) hn W)
  have K2 := Lib.hid (fun W => turns_ok hr hn W)
  have e7 : IntKind.i64.wrap (trn (rtO ts) n - trn r n) = trn (rtO ts) n - trn r n := IntWalk.i64_in _ ⟨by omega, by omega⟩
  clear hr hn ht t0 t1 t2 t3 s0 s1 s2 s3
  obtain ⟨p, q⟩ := r
  simp only at *
  go_enter Try.func112, Try.ntmps112
  go_wp2
  (refine wp_region_mq (by kernel_rfl) (by kernel_rfl) ?_; (repeat (first | go_big_quiet_step ((first | (go_at_call 109; ((with_reducible refine quietQ (ratio_ok hl cl HT.out _ ?_) ) <;> (repeat' (first | (with_reducible first | assumption | exact Below.refl _ _ | refine Below.drew ?_ | refine Below.alloc ?_ ?_ _ | refine Below.setCell ?_ ?_ _ | refine below_setR ?_ ?_ _ | refine below_dn ?_ _ | refine Below.trans ?_ (below_mo _ _ _ ?_) | refine Below.trans ?_ (below_mq _ _ ?_) | exact Nat.le_refl _) | (simp; done) | (simp; omega) | omega)))) | (go_at_call 110; with_reducible exact quietQ (K1.out _) ) | (go_at_call 110; with_reducible exact quietQ (K2.out _) ))) | quiet_step ((first | (go_at_call 109; ((with_reducible refine quietQ (ratio_ok hl cl HT.out _ ?_) ) <;> (repeat' (first | (with_reducible first | assumption | exact Below.refl _ _ | refine Below.drew ?_ | refine Below.alloc ?_ ?_ _ | refine Below.setCell ?_ ?_ _ | refine below_setR ?_ ?_ _ | refine below_dn ?_ _ | refine Below.trans ?_ (below_mo _ _ _ ?_) | refine Below.trans ?_ (below_mq _ _ ?_) | exact Nat.le_refl _) | (simp; done) | (simp; omega) | omega)))) | (go_at_call 110; with_reducible exact quietQ (K1.out _) ) | (go_at_call 110; with_reducible exact quietQ (K2.out _) ))))); refine wpQuiet_nil ?_; intro _ hq_; obtain ⟨q_, rfl⟩ := hq_)
  go_wp2
  go_ret
  exact ⟨congrArg (fun z => Ending.returned (Value.int .i64 z)) HV.out.symm, (by repeat' (first | (with_reducible first | assumption | exact Below.refl _ _ | refine Below.drew ?_ | refine Below.alloc ?_ ?_ _ | refine Below.setCell ?_ ?_ _ | refine below_setR ?_ ?_ _ | refine below_dn ?_ _ | refine Below.trans ?_ (below_mo _ _ _ ?_) | refine Below.trans ?_ (below_mq _ _ ?_) | exact Nat.le_refl _) | (simp; done) | (simp; omega) | omega))⟩
theorem inGiga {n : Int} (h : 0 ≤ n ∧ n ≤ 1000000000) : inR n 0 1000000000 = true := inR_t.2 h
set_option maxHeartbeats 2000000 in
theorem OffAfter_ok {L : Option Addr} {ts : List (Int × Int)} {V : World} {C : Nat} (hl : Prs .i16 .i16 V C L ts) (cl : Nat) (ht : TrOK ts) (w : World) (hv : Below C V w) {r : Int × Int} (hr : RtOK r) {n : Int} (hn : 0 ≤ n ∧ n ≤ 1000000000) : Calls Try.prog 32 #[.slice L ts.length cl, .agg #[.int .i64 r.1, .int .i64 r.2], .int .i64 n] w fun e w' => e = .returned (.tuple #[.int .i64 (difO (rtO ts) r n), .int .i64 0]) ∧ Below w.heap.size w w' := by
  have hC := hl.bsz hv
  have HT := Lib.hid ht
  have HR := Lib.hid hr
  have HN := Lib.hid hn
  have HI := Lib.hid (inGiga hn)
  have KV := Lib.hid (fun W => ValidRatio_ok hr W)
  clear hr hn ht
  obtain ⟨p, q⟩ := r
  simp only at *
  go_enter Try.func32, Try.ntmps32
  (go_wp2_with fail; refine (ValidTrain_ok hl cl HT.out _ (by repeat' (first | (with_reducible first | assumption | exact Below.refl _ _ | refine Below.drew ?_ | refine Below.alloc ?_ ?_ _ | refine Below.setCell ?_ ?_ _ | refine below_setR ?_ ?_ _ | refine below_dn ?_ _ | refine Below.trans ?_ (below_mo _ _ _ ?_) | refine Below.trans ?_ (below_mq _ _ ?_) | exact Nat.le_refl _) | (simp; done) | (simp; omega) | omega))).mono ?_; rintro e w' ⟨rfl, hb_⟩; obtain ⟨os0, d0, rfl⟩ := mo_of hb_; clear hb_)
  (go_wp2_with fail; refine (KV.out _).mono ?_; rintro e w' ⟨rfl, hb_⟩; obtain ⟨os1, d1, rfl⟩ := mo_of hb_; clear hb_)
  (go_wp2_with fail; refine (within_ok _ _ _ _).mono ?_; rintro e w' ⟨rfl, rfl⟩; rw [HI.out])
  (go_wp2_with fail; refine (off_ok hl cl HT.out _ (by repeat' (first | (with_reducible first | assumption | exact Below.refl _ _ | refine Below.drew ?_ | refine Below.alloc ?_ ?_ _ | refine Below.setCell ?_ ?_ _ | refine below_setR ?_ ?_ _ | refine below_dn ?_ _ | refine Below.trans ?_ (below_mo _ _ _ ?_) | refine Below.trans ?_ (below_mq _ _ ?_) | exact Nat.le_refl _) | (simp; done) | (simp; omega) | omega)) HR.out HN.out).mono ?_; rintro e w' ⟨rfl, hb_⟩; obtain ⟨os2, d2, rfl⟩ := mo_of hb_; clear hb_)
  go_wp2
  go_returns
  exact ⟨rfl, (by repeat' (first | (with_reducible first | assumption | exact Below.refl _ _ | refine Below.drew ?_ | refine Below.alloc ?_ ?_ _ | refine Below.setCell ?_ ?_ _ | refine below_setR ?_ ?_ _ | refine below_dn ?_ _ | refine Below.trans ?_ (below_mo _ _ _ ?_) | refine Below.trans ?_ (below_mq _ _ ?_) | exact Nat.le_refl _) | (simp; done) | (simp; omega) | omega))⟩
theorem inMo5 {n : Int} (h : 1 ≤ n ∧ n ≤ 100000) : inR n 1 100000 = true := inR_t.2 h
theorem two_at {w : World} {g : Nat} {a b : Value} {T : TypeId} (h : w.heap[g]? = some (.cells #[a, b] T)) : w.cell? ⟨g, 0, none⟩ = some a ∧ w.cell? ⟨g, 1, none⟩ = some b :=
  ⟨(cell_of_row w g 0 _ T (0, 0) h).trans rfl, (cell_of_row w g 1 _ T (0, 0) h).trans rfl⟩
set_option maxHeartbeats 4000000 in
theorem implFirst_ok {L : Option Addr} {ts : List (Int × Int)} {V : World} {C : Nat} (hl : Prs .i16 .i16 V C L ts) (cl : Nat) (ht : TrOK ts) (w : World) (hv : Below C V w) {r : Int × Int} (hr : RtOK r) {m c k : Int} (hm : 1 ≤ m ∧ m ≤ 100000) (hf : FOk (rtO ts) r m c k) : Calls Try.prog 30 #[.slice L ts.length cl, .agg #[.int .i64 r.1, .int .i64 r.2], .int .i64 m] w fun e w' => e = .returned (.tuple #[.int .i64 c, .int .i64 k]) ∧ Below w.heap.size w w' := by
  have hC := hl.bsz hv
  have HT := Lib.hid ht
  have HI := Lib.hid (inMo5 hm)
  have KV := Lib.hid (fun W => ValidRatio_ok hr W)
  have K1 := Lib.hid (fun W (n : Int) (hn : 0 ≤ n ∧ n ≤ 100000) => turns_ok (rtO_ok ht) (n := n) ⟨hn.1, by omega⟩ W)
  have K2 := Lib.hid (fun W (n : Int) (hn : 0 ≤ n ∧ n ≤ 100000) => turns_ok hr (n := n) ⟨hn.1, by omega⟩ W)
  have HF := Lib.hid hf
  have hk : k = 0 ∧ 1 ≤ c ∧ c ≤ m ∨ k = 6 ∧ c = 0 := by rcases hf with h | h; exact .inl ⟨h.1, h.2.1⟩; exact .inr ⟨h.1, h.2.1⟩
  clear hr ht hf
  obtain ⟨p, q⟩ := r
  simp only at *
  go_enter Try.func30, Try.ntmps30
  (go_wp2_with fail; refine (ValidTrain_ok hl cl HT.out _ (by repeat' (first | (with_reducible first | assumption | exact Below.refl _ _ | refine Below.drew ?_ | refine Below.alloc ?_ ?_ _ | refine Below.setCell ?_ ?_ _ | refine below_setR ?_ ?_ _ | refine below_dn ?_ _ | refine Below.trans ?_ (below_mo _ _ _ ?_) | refine Below.trans ?_ (below_mq _ _ ?_) | exact Nat.le_refl _) | (simp; done) | (simp; omega) | omega))).mono ?_; rintro e w' ⟨rfl, hb_⟩; obtain ⟨os0, d0, rfl⟩ := mo_of hb_; clear hb_)
  (go_wp2_with fail; refine (KV.out _).mono ?_; rintro e w' ⟨rfl, hb_⟩; obtain ⟨os1, d1, rfl⟩ := mo_of hb_; clear hb_)
  (go_wp2_with fail; refine (within_ok _ _ _ _).mono ?_; rintro e w' ⟨rfl, rfl⟩; rw [HI.out])
  (go_wp2_with fail; refine (ratio_ok hl cl HT.out _ (by repeat' (first | (with_reducible first | assumption | exact Below.refl _ _ | refine Below.drew ?_ | refine Below.alloc ?_ ?_ _ | refine Below.setCell ?_ ?_ _ | refine below_setR ?_ ?_ _ | refine below_dn ?_ _ | refine Below.trans ?_ (below_mo _ _ _ ?_) | refine Below.trans ?_ (below_mq _ _ ?_) | exact Nat.le_refl _) | (simp; done) | (simp; omega) | omega))).mono ?_; rintro e w' ⟨rfl, hb_⟩; obtain ⟨os2, d2, rfl⟩ := mo_of hb_; clear hb_)
  go_wp2
  refine wp_at (fun u => u.heap[w.heap.size]? = some (.cells #[.int .i64 p, .int .i64 q] 58) ∧ u.heap[w.heap.size + 1 + os0.size + os1.size + os2.size]? = some (.cells #[.int .i64 (rtO ts).1, .int .i64 (rtO ts).2] 58) ∧ Below w.heap.size w u) _ ⟨(by repeat' (first | (with_reducible assumption) | (with_reducible refine heap_mo_at ?_) | (with_reducible refine heap_mq_at ?_) | (with_reducible refine heap_drew_at ?_) | ((with_reducible refine heap_alloc_at ?_); first | rfl | (simp; done)) | (with_reducible refine heap_alloc_past ?_) | ((with_reducible apply heap_set_at); (first | rfl | (simp; done))) | ((with_reducible apply heap_set_past); (first | (simp; done) | (simp; omega) | omega)) | ((with_reducible apply heap_setC_past); (first | (simp; done) | (simp; omega) | omega)) | fail)), (by repeat' (first | (with_reducible assumption) | (with_reducible refine heap_mo_at ?_) | (with_reducible refine heap_mq_at ?_) | (with_reducible refine heap_drew_at ?_) | ((with_reducible refine heap_alloc_at ?_); first | rfl | (simp; done)) | (with_reducible refine heap_alloc_past ?_) | ((with_reducible apply heap_set_at); (first | rfl | (simp; done))) | ((with_reducible apply heap_set_past); (first | (simp; done) | (simp; omega) | omega)) | ((with_reducible apply heap_setC_past); (first | (simp; done) | (simp; omega) | omega)) | fail)), (by repeat' (first | (with_reducible first | assumption | exact Below.refl _ _ | refine Below.drew ?_ | refine Below.alloc ?_ ?_ _ | refine Below.setCell ?_ ?_ _ | refine below_setR ?_ ?_ _ | refine below_dn ?_ _ | refine Below.trans ?_ (below_mo _ _ _ ?_) | refine Below.trans ?_ (below_mq _ _ ?_) | exact Nat.le_refl _) | (simp; done) | (simp; omega) | omega))⟩ ?_
  obtain ⟨bx, hbx⟩ : ∃ bx, w.heap.size + 1 + os0.size + os1.size + os2.size = bx := ⟨_, rfl⟩
  rw [hbx]
  rintro U ⟨a0, a1, hU⟩
  have z0 := (Array.getElem?_eq_some_iff.1 a0).1
  have z1 := (Array.getElem?_eq_some_iff.1 a1).1
  obtain ⟨x0, x1⟩ := two_at a0
  obtain ⟨x2, x3⟩ := two_at a1
  clear a0 a1 hbx
  go_loopw [9] (fun i wr => ∃ (n : Int) (os : Array Obj) (d : Nat), (1 ≤ n ∧ n ≤ m + 1) ∧ (k = 0 → n ≤ c) ∧ i = .int .i64 n ∧ wr = mo U os d) (fun i _ => (m + 1 - intOf i).toNat)
  case atStart => exact ⟨1, #[], _, by omega, by omega, rfl, (mo_nil _).symm⟩
  case round =>
    obtain ⟨n, os, d, hn, hc, rfl, rfl⟩ := hrel
    have e1 : IntKind.i64.wrap (n + 1) = n + 1 := IntWalk.i64_in _ ⟨by omega, by omega⟩
    by_cases hnm : n ≤ m
    · have K3 := Lib.hid (fun W => K1.out W n ⟨by omega, by omega⟩)
      have K4 := Lib.hid (fun W => K2.out W n ⟨by omega, by omega⟩)
      have hfo := HF.out
      generalize hX : trn (rtO ts) n = X at *
      generalize hY : trn (p, q) n = Y at *
      have hd : difO (rtO ts) (p, q) n = X - Y := by unfold difO; rw [hX, hY]
      by_cases hXY : X = Y
      · have b1 : (X == Y) = true := by rw [hXY]; exact beq_self_eq_true Y
        have hc2 : k = 0 → n + 1 ≤ c := by
          intro hk0
          rcases hfo with ⟨_, _, h3, _⟩ | ⟨h1, _⟩
          · have := hc hk0
            rcases Int.lt_or_le n c with z | z
            · omega
            · obtain rfl : n = c := by omega
              rw [hd] at h3
              omega
          · omega
        clear hfo hd hX hY
        subst hXY
        go_wp2
        (refine wp_region_mq (by kernel_rfl) (by kernel_rfl) ?_; (repeat (first | go_big_quiet_step ((first | (go_at_call 110; with_reducible exact quietQ (K3.out _) ) | (go_at_call 110; with_reducible exact quietQ (K4.out _) ))) | quiet_step ((first | (go_at_call 110; with_reducible exact quietQ (K3.out _) ) | (go_at_call 110; with_reducible exact quietQ (K4.out _) ))))); refine wpQuiet_nil ?_; intro _ hq_; obtain ⟨q_, rfl⟩ := hq_)
        go_wp2
        exact ⟨⟨n + 1, _, _, by omega, hc2, rfl, by first | exact mo_mo _ _ _ _ _ | rfl⟩, by simp [intOf]; omega⟩
      · have b1 : (X == Y) = false := beq_eq_false_iff_ne.2 hXY
        have hcn : k = 0 ∧ n = c := by
          rcases hfo with ⟨h1, h2, h3, h4⟩ | ⟨h1, h2, h3⟩
          · have := hc h1
            rcases Int.lt_or_le n c with z | z
            · have := h4 n hn.1 z
              rw [hd] at this
              omega
            · exact ⟨h1, by omega⟩
          · have := h3 n hn.1 hnm
            rw [hd] at this
            omega
        obtain ⟨rfl, rfl⟩ := hcn
        clear hfo hd hX hY
        go_wp2
        (refine wp_region_mq (by kernel_rfl) (by kernel_rfl) ?_; (repeat (first | go_big_quiet_step ((first | (go_at_call 110; with_reducible exact quietQ (K3.out _) ) | (go_at_call 110; with_reducible exact quietQ (K4.out _) ))) | quiet_step ((first | (go_at_call 110; with_reducible exact quietQ (K3.out _) ) | (go_at_call 110; with_reducible exact quietQ (K4.out _) ))))); refine wpQuiet_nil ?_; intro _ hq_; obtain ⟨q_, rfl⟩ := hq_)
        go_wp2
        go_returns
        exact ⟨rfl, (by repeat' (first | (with_reducible first | assumption | exact Below.refl _ _ | refine Below.drew ?_ | refine Below.alloc ?_ ?_ _ | refine Below.setCell ?_ ?_ _ | refine below_setR ?_ ?_ _ | refine below_dn ?_ _ | refine Below.trans ?_ (below_mo _ _ _ ?_) | refine Below.trans ?_ (below_mq _ _ ?_) | exact Nat.le_refl _) | (simp; done) | (simp; omega) | omega))⟩
    · obtain ⟨rfl, rfl⟩ : k = 6 ∧ c = 0 := by omega
      go_wp2
      go_returns
      exact ⟨rfl, (by repeat' (first | (with_reducible first | assumption | exact Below.refl _ _ | refine Below.drew ?_ | refine Below.alloc ?_ ?_ _ | refine Below.setCell ?_ ?_ _ | refine below_setR ?_ ?_ _ | refine below_dn ?_ _ | refine Below.trans ?_ (below_mo _ _ _ ?_) | refine Below.trans ?_ (below_mq _ _ ?_) | exact Nat.le_refl _) | (simp; done) | (simp; omega) | omega))⟩
set_option maxHeartbeats 4000000 in
theorem specFirst_ok {L : Option Addr} {ts : List (Int × Int)} {V : World} {C : Nat} (hl : Prs .i16 .i16 V C L ts) (cl : Nat) (ht : TrOK ts) (w : World) (hv : Below C V w) {r : Int × Int} (hr : RtOK r) {m c k : Int} (hm : 1 ≤ m ∧ m ≤ 100000) (hf : FOk (rtO ts) r m c k) : Calls Try.prog 31 #[.slice L ts.length cl, .agg #[.int .i64 r.1, .int .i64 r.2], .int .i64 m] w fun e w' => e = .returned (.tuple #[.int .i64 c, .int .i64 k]) ∧ Below w.heap.size w w' := by
  have hC := hl.bsz hv
  have HT := Lib.hid ht
  have HI := Lib.hid (inMo5 hm)
  have KV := Lib.hid (fun W => l03Ok_ok hr W)
  have K1 := Lib.hid (fun W (n : Int) (hn : 0 ≤ n ∧ n ≤ 100000) => l03Off_ok (rtO_ok ht) hr (n := n) ⟨hn.1, by omega⟩ W)
  have HF := Lib.hid hf
  have hk : k = 0 ∧ 1 ≤ c ∧ c ≤ m ∨ k = 6 ∧ c = 0 := by rcases hf with h | h; exact .inl ⟨h.1, h.2.1⟩; exact .inr ⟨h.1, h.2.1⟩
  clear hr ht hf
  obtain ⟨p, q⟩ := r
  simp only at *
  go_enter Try.func31, Try.ntmps31
  (go_wp2_with fail; refine (l03Train_ok hl cl HT.out _ (by repeat' (first | (with_reducible first | assumption | exact Below.refl _ _ | refine Below.drew ?_ | refine Below.alloc ?_ ?_ _ | refine Below.setCell ?_ ?_ _ | refine below_setR ?_ ?_ _ | refine below_dn ?_ _ | refine Below.trans ?_ (below_mo _ _ _ ?_) | refine Below.trans ?_ (below_mq _ _ ?_) | exact Nat.le_refl _) | (simp; done) | (simp; omega) | omega))).mono ?_; rintro e w' ⟨rfl, rfl⟩)
  (go_wp2_with fail; refine (KV.out _).mono ?_; rintro e w' ⟨rfl, hb_⟩; obtain ⟨os1, d1, rfl⟩ := mo_of hb_; clear hb_)
  (go_wp2_with fail; refine (l00In_ok _ _ _ _).mono ?_; rintro e w' ⟨rfl, rfl⟩; rw [HI.out])
  (go_wp2_with fail; refine (l03Of_ok hl cl HT.out _ (by repeat' (first | (with_reducible first | assumption | exact Below.refl _ _ | refine Below.drew ?_ | refine Below.alloc ?_ ?_ _ | refine Below.setCell ?_ ?_ _ | refine below_setR ?_ ?_ _ | refine below_dn ?_ _ | refine Below.trans ?_ (below_mo _ _ _ ?_) | refine Below.trans ?_ (below_mq _ _ ?_) | exact Nat.le_refl _) | (simp; done) | (simp; omega) | omega))).mono ?_; rintro e w' ⟨rfl, hb_⟩; obtain ⟨os2, d2, rfl⟩ := mo_of hb_; clear hb_)
  go_wp2
  refine wp_at (fun u => u.heap[w.heap.size]? = some (.cells #[.int .i64 p, .int .i64 q] 58) ∧ u.heap[w.heap.size + 1 + os1.size + os2.size]? = some (.cells #[.int .i64 (rtO ts).1, .int .i64 (rtO ts).2] 58) ∧ Below w.heap.size w u) _ ⟨(by repeat' (first | (with_reducible assumption) | (with_reducible refine heap_mo_at ?_) | (with_reducible refine heap_mq_at ?_) | (with_reducible refine heap_drew_at ?_) | ((with_reducible refine heap_alloc_at ?_); first | rfl | (simp; done)) | (with_reducible refine heap_alloc_past ?_) | ((with_reducible apply heap_set_at); (first | rfl | (simp; done))) | ((with_reducible apply heap_set_past); (first | (simp; done) | (simp; omega) | omega)) | ((with_reducible apply heap_setC_past); (first | (simp; done) | (simp; omega) | omega)) | fail)), (by repeat' (first | (with_reducible assumption) | (with_reducible refine heap_mo_at ?_) | (with_reducible refine heap_mq_at ?_) | (with_reducible refine heap_drew_at ?_) | ((with_reducible refine heap_alloc_at ?_); first | rfl | (simp; done)) | (with_reducible refine heap_alloc_past ?_) | ((with_reducible apply heap_set_at); (first | rfl | (simp; done))) | ((with_reducible apply heap_set_past); (first | (simp; done) | (simp; omega) | omega)) | ((with_reducible apply heap_setC_past); (first | (simp; done) | (simp; omega) | omega)) | fail)), (by repeat' (first | (with_reducible first | assumption | exact Below.refl _ _ | refine Below.drew ?_ | refine Below.alloc ?_ ?_ _ | refine Below.setCell ?_ ?_ _ | refine below_setR ?_ ?_ _ | refine below_dn ?_ _ | refine Below.trans ?_ (below_mo _ _ _ ?_) | refine Below.trans ?_ (below_mq _ _ ?_) | exact Nat.le_refl _) | (simp; done) | (simp; omega) | omega))⟩ ?_
  obtain ⟨bx, hbx⟩ : ∃ bx, w.heap.size + 1 + os1.size + os2.size = bx := ⟨_, rfl⟩
  rw [hbx]
  rintro U ⟨a0, a1, hU⟩
  have z0 := (Array.getElem?_eq_some_iff.1 a0).1
  have z1 := (Array.getElem?_eq_some_iff.1 a1).1
  obtain ⟨x0, x1⟩ := two_at a0
  obtain ⟨x2, x3⟩ := two_at a1
  clear a0 a1 hbx
  go_loopw [9] (fun i wr => ∃ (n : Int) (os : Array Obj) (d : Nat), (1 ≤ n ∧ n ≤ m + 1) ∧ (k = 0 → n ≤ c) ∧ i = .int .i64 n ∧ wr = mo U os d) (fun i _ => (m + 1 - intOf i).toNat)
  case atStart => exact ⟨1, #[], _, by omega, by omega, rfl, (mo_nil _).symm⟩
  case round =>
    obtain ⟨n, os, d, hn, hc, rfl, rfl⟩ := hrel
    have e1 : IntKind.i64.wrap (n + 1) = n + 1 := IntWalk.i64_in _ ⟨by omega, by omega⟩
    by_cases hnm : n ≤ m
    · have K3 := Lib.hid (fun W => K1.out W n ⟨by omega, by omega⟩)
      have hfo := HF.out
      generalize hX : difO (rtO ts) (p, q) n = X at *
      by_cases hXY : X = 0
      · have hc2 : k = 0 → n + 1 ≤ c := by
          intro hk0
          rcases hfo with ⟨_, _, h3, _⟩ | ⟨h1, _⟩
          · have := hc hk0
            rcases Int.lt_or_le n c with z | z
            · omega
            · obtain rfl : n = c := by omega
              rw [hX] at h3
              omega
          · omega
        clear hfo hX
        subst hXY
        (go_wp2_with fail; refine (K3.out _).mono ?_; rintro e w' ⟨rfl, hb_⟩; obtain ⟨os4, d4, rfl⟩ := mo_of hb_; clear hb_)
        go_wp2
        exact ⟨⟨n + 1, _, _, by omega, hc2, rfl, by first | exact mo_mo _ _ _ _ _ | rfl⟩, by simp [intOf]; omega⟩
      · have b1 : (X == 0) = false := beq_eq_false_iff_ne.2 hXY
        have hcn : k = 0 ∧ n = c := by
          rcases hfo with ⟨h1, h2, h3, h4⟩ | ⟨h1, h2, h3⟩
          · have := hc h1
            rcases Int.lt_or_le n c with z | z
            · have := h4 n hn.1 z
              omega
            · exact ⟨h1, by omega⟩
          · have := h3 n hn.1 hnm
            omega
        obtain ⟨rfl, rfl⟩ := hcn
        clear hfo hX
        (go_wp2_with fail; refine (K3.out _).mono ?_; rintro e w' ⟨rfl, hb_⟩; obtain ⟨os4, d4, rfl⟩ := mo_of hb_; clear hb_)
        go_wp2
        go_returns
        exact ⟨rfl, (by repeat' (first | (with_reducible first | assumption | exact Below.refl _ _ | refine Below.drew ?_ | refine Below.alloc ?_ ?_ _ | refine Below.setCell ?_ ?_ _ | refine below_setR ?_ ?_ _ | refine below_dn ?_ _ | refine Below.trans ?_ (below_mo _ _ _ ?_) | refine Below.trans ?_ (below_mq _ _ ?_) | exact Nat.le_refl _) | (simp; done) | (simp; omega) | omega))⟩
    · obtain ⟨rfl, rfl⟩ : k = 6 ∧ c = 0 := by omega
      go_wp2
      go_returns
      exact ⟨rfl, (by repeat' (first | (with_reducible first | assumption | exact Below.refl _ _ | refine Below.drew ?_ | refine Below.alloc ?_ ?_ _ | refine Below.setCell ?_ ?_ _ | refine below_setR ?_ ?_ _ | refine below_dn ?_ _ | refine Below.trans ?_ (below_mo _ _ _ ?_) | refine Below.trans ?_ (below_mq _ _ ?_) | exact Nat.le_refl _) | (simp; done) | (simp; omega) | omega))⟩
set_option maxHeartbeats 1000000 in
theorem RatioOf_ok {L : Option Addr} {ts : List (Int × Int)} {V : World} {C : Nat} (hl : Prs .i16 .i16 V C L ts) (cl : Nat) (ht : TrOK ts) (w : World) (hv : Below C V w) : Calls Try.prog 28 #[.slice L ts.length cl] w fun e w' => e = .returned (.tuple #[.agg #[.int .i64 (rtO ts).1, .int .i64 (rtO ts).2], .int .i64 0]) ∧ Below w.heap.size w w' := by
  have hC := hl.bsz hv
  have HT := Lib.hid ht
  clear ht
  go_enter Try.func28, Try.ntmps28
  (go_wp2_with fail; refine (l03Train_ok hl cl HT.out _ (by repeat' (first | (with_reducible first | assumption | exact Below.refl _ _ | refine Below.drew ?_ | refine Below.alloc ?_ ?_ _ | refine Below.setCell ?_ ?_ _ | refine below_setR ?_ ?_ _ | refine below_dn ?_ _ | refine Below.trans ?_ (below_mo _ _ _ ?_) | refine Below.trans ?_ (below_mq _ _ ?_) | exact Nat.le_refl _) | (simp; done) | (simp; omega) | omega))).mono ?_; rintro e w' ⟨rfl, rfl⟩)
  (go_wp2_with fail; refine (l03Of_ok hl cl HT.out _ (by repeat' (first | (with_reducible first | assumption | exact Below.refl _ _ | refine Below.drew ?_ | refine Below.alloc ?_ ?_ _ | refine Below.setCell ?_ ?_ _ | refine below_setR ?_ ?_ _ | refine below_dn ?_ _ | refine Below.trans ?_ (below_mo _ _ _ ?_) | refine Below.trans ?_ (below_mq _ _ ?_) | exact Nat.le_refl _) | (simp; done) | (simp; omega) | omega))).mono ?_; rintro e w' ⟨rfl, hb_⟩; obtain ⟨os2, d2, rfl⟩ := mo_of hb_; clear hb_)
  go_wp2
  go_returns
  exact ⟨rfl, (by repeat' (first | (with_reducible first | assumption | exact Below.refl _ _ | refine Below.drew ?_ | refine Below.alloc ?_ ?_ _ | refine Below.setCell ?_ ?_ _ | refine below_setR ?_ ?_ _ | refine below_dn ?_ _ | refine Below.trans ?_ (below_mo _ _ _ ?_) | refine Below.trans ?_ (below_mq _ _ ?_) | exact Nat.le_refl _) | (simp; done) | (simp; omega) | omega))⟩
end Go.Proofs.Ytkphbagckbbalaa.X
