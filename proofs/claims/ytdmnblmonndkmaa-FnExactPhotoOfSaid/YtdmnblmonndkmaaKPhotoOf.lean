/- Photos of digits. Conditions: none. -/
import Derived.Test.YtdmnblmonndkmaaKPh
import Derived.Test.YtdmnblmonndkmaaKAdd
import Derived.IntWalk
namespace Go.Proofs.Ytdmnblmonndkmaa.X
open Go.RowKit
set_option linter.unusedVariables false
set_option linter.unusedSimpArgs false
set_option maxRecDepth 100000
attribute [local go_sem] a16_zero
/-- the first k wheels of the photo of digits -/
def poTo (f : Nat → Int) (k : Nat) : Nat → Int := fun i => if i < 2 * k then (if i % 2 = 0 then (wi 0 0 (f (i / 2)) true).1 else (wi 0 0 (f (i / 2)) true).2) else 0
theorem poTo_0 (f : Nat → Int) : poTo f 0 = fun _ => 0 := by
  funext i
  unfold poTo
  rw [if_neg (by omega)]
theorem poTo_succ (f : Nat → Int) (k : Nat) : upd2 (poTo f k) k (wi 0 0 (f k) true).1 (wi 0 0 (f k) true).2 = poTo f (k + 1) := by
  funext i
  unfold upd2 poTo
  by_cases e1 : i = 2 * k
  · rw [if_pos e1, if_pos (by omega), if_pos (by omega), show i / 2 = k by omega]
  · rw [if_neg e1]
    by_cases e2 : i = 2 * k + 1
    · rw [if_pos e2, if_pos (by omega), if_neg (by omega), show i / 2 = k by omega]
    · rw [if_neg e2]
      by_cases e3 : i < 2 * k
      · simp only [e3, show i < 2 * (k + 1) by omega, if_true]
      · simp only [e3, show ¬ i < 2 * (k + 1) by omega, if_false]
theorem poTo_at (f : Nat → Int) (k : Nat) : poTo f k (2 * k) = 0 ∧ poTo f k (2 * k + 1) = 0 := by
  unfold poTo
  rw [if_neg (by omega), if_neg (by omega)]
  exact ⟨rfl, rfl⟩
/-- what PhotoOf returns -/
def poV (xs : List Int) (f : Nat → Int) : (Nat → Int) × Int := if okD xs f then (poTo f xs.length, 0) else (fun _ => 0, 1)
theorem poV_1 {xs : List Int} {f : Nat → Int} (h : okD xs f = false) : poV xs f = (fun _ => 0, 1) := by unfold poV; rw [h]; rfl
theorem poV_2 {xs : List Int} {f : Nat → Int} (h : okD xs f = true) : poV xs f = (poTo f xs.length, 0) := by unfold poV; rw [h]; rfl
theorem okD_bd {xs : List Int} {f : Nat → Int} (h : okD xs f = true) {k : Nat} (hk : k < xs.length) : f k < 128 := by
  have h1 := (okD_parts h).2.1 k hk
  have h2 := okS_el (okD_parts h).1 hk
  omega
set_option maxHeartbeats 4000000 in
theorem implPhotoOf_any {A : Option Addr} {xs : List Int} {W : World} {B : Nat} (hs : Nums .u8 W B A xs) (h8 : b8 xs) (n c : Nat) (hn : xs.length = n) (w : World) (hb : Below B W w) (f : Nat → Int) (hf : d8 f) : Calls Try.prog 25 #[.slice A n c, .agg #[.int .u8 (f 0), .int .u8 (f 1), .int .u8 (f 2), .int .u8 (f 3), .int .u8 (f 4), .int .u8 (f 5), .int .u8 (f 6), .int .u8 (f 7)]] w fun e w' => e = .returned (.tuple #[.agg (a16 (poV xs f).1), .int .i64 (poV xs f).2]) ∧ Below w.heap.size w w' := by
  obtain rfl := hn
  have hB := hs.bsz hb
  have hlen := hs.len
  cases h1 : okD xs f
  · have HR := Lib.hid (poV_1 h1)
    go_enter Try.func25, Try.ntmps25
    go_wp2_with (go_at_call 74; refine (ValidDigits_any hs h8 _ _ rfl _ (by repeat' (first | (with_reducible first | assumption | exact Below.refl _ _ | refine Below.drew ?_ | refine Below.alloc ?_ ?_ _ | refine Below.setCell ?_ ?_ _ | refine below_setR ?_ ?_ _ | refine below_dn ?_ _ | refine Below.trans ?_ (below_mo _ _ _ ?_) | refine Below.trans ?_ (below_mq _ _ ?_) | exact Nat.le_refl _) | (simp; done) | (simp; omega) | omega)) f hf).mono ?_; rintro e w' ⟨rfl, hb_⟩; obtain ⟨os_, d_, rfl⟩ := mo_of hb_; clear hb_)
    (apply ret16; rfl; rfl; (repeat' (first | (with_reducible assumption) | (with_reducible refine heap_mo_at ?_) | (with_reducible refine heap_mq_at ?_) | (with_reducible refine heap_drew_at ?_) | ((with_reducible refine heap_alloc_at ?_); first | rfl | (simp; done)) | (with_reducible refine heap_alloc_past ?_) | ((with_reducible apply heap_set_at); (first | rfl | (simp; done))) | ((with_reducible apply heap_set_past); (first | (simp; done) | (simp; omega) | omega)) | ((with_reducible apply heap_setC_past); (first | (simp; done) | (simp; omega) | omega)) | fail)); (first | rfl | (simp; done)); rfl)
    exact ⟨(by first | (rw [HR.out]; done) | (rw [HR.out]; rfl)), (by repeat' (first | (with_reducible first | assumption | exact Below.refl _ _ | refine Below.drew ?_ | refine Below.alloc ?_ ?_ _ | refine Below.setCell ?_ ?_ _ | refine below_setR ?_ ?_ _ | refine below_dn ?_ _ | refine Below.trans ?_ (below_mo _ _ _ ?_) | refine Below.trans ?_ (below_mq _ _ ?_) | exact Nat.le_refl _) | (simp; done) | (simp; omega) | omega))⟩
  have HR := Lib.hid (poV_2 h1)
  have hl8 := (okS_len (okD_parts h1).1).2
  have HK := Lib.hid (fun k => @okD_bd _ _ h1 k)
  have HF := Lib.hid hf
  go_enter Try.func25, Try.ntmps25
  (go_wp2_with fail; refine (ValidDigits_any hs h8 _ _ rfl _ (by repeat' (first | (with_reducible first | assumption | exact Below.refl _ _ | refine Below.drew ?_ | refine Below.alloc ?_ ?_ _ | refine Below.setCell ?_ ?_ _ | refine below_setR ?_ ?_ _ | refine below_dn ?_ _ | refine Below.trans ?_ (below_mo _ _ _ ?_) | refine Below.trans ?_ (below_mq _ _ ?_) | exact Nat.le_refl _) | (simp; done) | (simp; omega) | omega)) f hf).mono ?_; rintro e w' ⟨rfl, hb_⟩; obtain ⟨os0, d0, rfl⟩ := mo_of hb_; clear hb_)
  go_wp2
  clear h1 hf
  go_loopw [16] (fun i wr => ∃ (k : Nat) (os : Array Obj) (d : Nat), k ≤ xs.length ∧ i = .int .i64 k ∧ wr = mo ((mo ((w.alloc (.cells #[.int .u8 (f 0), .int .u8 (f 1), .int .u8 (f 2), .int .u8 (f 3), .int .u8 (f 4), .int .u8 (f 5), .int .u8 (f 6), .int .u8 (f 7)] 41)).alloc (.cells (a16 fun _ => 0) 27)) os0 d0).alloc (.cells (a16 (poTo f k)) 27)) os d) (fun i _ => xs.length - (intOf i).toNat)
  case atStart => exact ⟨0, #[], _, Nat.zero_le _, rfl, by rw [poTo_0]; exact (mo_nil _).symm⟩
  case round =>
    obtain ⟨k, os, d, hk, rfl, rfl⟩ := hrel
    by_cases hlt : k < xs.length
    · have g0 : (0 : Int) ≤ (k : Int) := by omega
      have g1 : (k : Int) < 8 := by omega
      have hk8 : k < 8 := by omega
      have q0 := a8_at .u8 f hk8
      have f0 := (HF.out k).1
      have f1 := HK.out k hlt
      have a0 := a16_e0 (poTo f k) hk8
      have a1 := a16_e1 (poTo f k) hk8
      obtain ⟨j0, j1⟩ := poTo_at f k
      rw [j0] at a0
      rw [j1] at a1
      clear j0 j1
      have HS := Lib.hid ((a16_set (poTo f k) (wi 0 0 (f k) true).1 (wi 0 0 (f k) true).2 hk8).trans (by rw [poTo_succ]))
      go_wp2_with (go_at_call 75; refine (with_any 0 0 (f k) true f0 f1 _).mono ?_; rintro e w' ⟨rfl, hb_⟩; obtain ⟨os_, d_, rfl⟩ := mo_of hb_; clear hb_)
      exact ⟨⟨k + 1, _, _, by omega, by go_num, by rw [HS.out]; exact mo_mo _ _ _ _ _⟩, by simp [intOf]; omega⟩
    · obtain rfl : k = xs.length := by omega
      go_wp2
      (apply ret16; rfl; rfl; (repeat' (first | (with_reducible assumption) | (with_reducible refine heap_mo_at ?_) | (with_reducible refine heap_mq_at ?_) | (with_reducible refine heap_drew_at ?_) | ((with_reducible refine heap_alloc_at ?_); first | rfl | (simp; done)) | (with_reducible refine heap_alloc_past ?_) | ((with_reducible apply heap_set_at); (first | rfl | (simp; done))) | ((with_reducible apply heap_set_past); (first | (simp; done) | (simp; omega) | omega)) | ((with_reducible apply heap_setC_past); (first | (simp; done) | (simp; omega) | omega)) | fail)); (first | rfl | (simp; done)); rfl)
      exact ⟨(by first | (rw [HR.out]; done) | (rw [HR.out]; rfl)), (by repeat' (first | (with_reducible first | assumption | exact Below.refl _ _ | refine Below.drew ?_ | refine Below.alloc ?_ ?_ _ | refine Below.setCell ?_ ?_ _ | refine below_setR ?_ ?_ _ | refine below_dn ?_ _ | refine Below.trans ?_ (below_mo _ _ _ ?_) | refine Below.trans ?_ (below_mq _ _ ?_) | exact Nat.le_refl _) | (simp; done) | (simp; omega) | omega))⟩
set_option maxHeartbeats 4000000 in
theorem l05Of_any {A : Option Addr} {xs : List Int} {W : World} {B : Nat} (hs : Nums .u8 W B A xs) (h8 : b8 xs) (n c : Nat) (hn : xs.length = n) (w : World) (hb : Below B W w) (f : Nat → Int) (hf : d8 f) (h1 : okD xs f = true) : Calls Try.prog 73 #[.slice A n c, .agg #[.int .u8 (f 0), .int .u8 (f 1), .int .u8 (f 2), .int .u8 (f 3), .int .u8 (f 4), .int .u8 (f 5), .int .u8 (f 6), .int .u8 (f 7)]] w fun e w' => e = .returned (.agg (a16 (poTo f xs.length))) ∧ Below w.heap.size w w' := by
  obtain rfl := hn
  have hB := hs.bsz hb
  have hlen := hs.len
  have hl8 := (okS_len (okD_parts h1).1).2
  have HK := Lib.hid (fun k => @okD_bd _ _ h1 k)
  have HF := Lib.hid hf
  clear h1 hf
  go_enter Try.func73, Try.ntmps73
  go_wp2
  go_loopw [6] (fun i wr => ∃ (k : Nat) (os : Array Obj) (d : Nat), k ≤ xs.length ∧ i = .int .i64 k ∧ wr = mo (((w.alloc (.cells #[.int .u8 (f 0), .int .u8 (f 1), .int .u8 (f 2), .int .u8 (f 3), .int .u8 (f 4), .int .u8 (f 5), .int .u8 (f 6), .int .u8 (f 7)] 41)).alloc (.cells (a16 fun _ => 0) 27)).alloc (.cells (a16 (poTo f k)) 27)) os d) (fun i _ => xs.length - (intOf i).toNat)
  case atStart => exact ⟨0, #[], _, Nat.zero_le _, rfl, by rw [poTo_0]; exact (mo_nil _).symm⟩
  case round =>
    obtain ⟨k, os, d, hk, rfl, rfl⟩ := hrel
    by_cases hlt : k < xs.length
    · have g0 : (0 : Int) ≤ (k : Int) := by omega
      have g1 : (k : Int) < 8 := by omega
      have hk8 : k < 8 := by omega
      have q0 := a8_at .u8 f hk8
      have f0 := (HF.out k).1
      have f1 := HK.out k hlt
      have a0 := a16_e0 (poTo f k) hk8
      have a1 := a16_e1 (poTo f k) hk8
      obtain ⟨j0, j1⟩ := poTo_at f k
      rw [j0] at a0
      rw [j1] at a1
      clear j0 j1
      have HS := Lib.hid ((a16_set (poTo f k) (wi 0 0 (f k) true).1 (wi 0 0 (f k) true).2 hk8).trans (by rw [poTo_succ]))
      have ef : IntKind.i64.wrap (f k) = f k := IntWalk.i64_in _ ⟨by omega, by omega⟩
      go_wp2
      go_region_with (go_at_call 78; (with_reducible refine (l05Put_any 0 0 (f k) f0 f1 _).mono ?_); rintro e w' ⟨rfl, hb_⟩; obtain ⟨os_, d_, rfl⟩ := mo_of hb_; clear hb_)
      all_goals go_wp2
      all_goals exact ⟨⟨k + 1, _, _, by omega, by go_num, by rw [HS.out]; exact mo_mo _ _ _ _ _⟩, by simp [intOf]; omega⟩
    · obtain rfl : k = xs.length := by omega
      go_wp2
      (apply ret16one; rfl; rfl; (repeat' (first | (with_reducible assumption) | (with_reducible refine heap_mo_at ?_) | (with_reducible refine heap_mq_at ?_) | (with_reducible refine heap_drew_at ?_) | ((with_reducible refine heap_alloc_at ?_); first | rfl | (simp; done)) | (with_reducible refine heap_alloc_past ?_) | ((with_reducible apply heap_set_at); (first | rfl | (simp; done))) | ((with_reducible apply heap_set_past); (first | (simp; done) | (simp; omega) | omega)) | ((with_reducible apply heap_setC_past); (first | (simp; done) | (simp; omega) | omega)) | fail)); (first | rfl | (simp; done)); rfl)
      exact ⟨rfl, (by repeat' (first | (with_reducible first | assumption | exact Below.refl _ _ | refine Below.drew ?_ | refine Below.alloc ?_ ?_ _ | refine Below.setCell ?_ ?_ _ | refine below_setR ?_ ?_ _ | refine below_dn ?_ _ | refine Below.trans ?_ (below_mo _ _ _ ?_) | refine Below.trans ?_ (below_mq _ _ ?_) | exact Nat.le_refl _) | (simp; done) | (simp; omega) | omega))⟩
set_option maxHeartbeats 4000000 in
theorem specPhotoOf_any {A : Option Addr} {xs : List Int} {W : World} {B : Nat} (hs : Nums .u8 W B A xs) (h8 : b8 xs) (n c : Nat) (hn : xs.length = n) (w : World) (hb : Below B W w) (f : Nat → Int) (hf : d8 f) : Calls Try.prog 23 #[.slice A n c, .agg #[.int .u8 (f 0), .int .u8 (f 1), .int .u8 (f 2), .int .u8 (f 3), .int .u8 (f 4), .int .u8 (f 5), .int .u8 (f 6), .int .u8 (f 7)]] w fun e w' => e = .returned (.tuple #[.agg (a16 (poV xs f).1), .int .i64 (poV xs f).2]) ∧ Below w.heap.size w w' := by
  obtain rfl := hn
  have hB := hs.bsz hb
  have hlen := hs.len
  cases h1 : okD xs f
  · have HR := Lib.hid (poV_1 h1)
    go_enter Try.func23, Try.ntmps23
    go_wp2_with (go_at_call 72; refine (specValidDigits_any hs h8 _ _ rfl _ (by repeat' (first | (with_reducible first | assumption | exact Below.refl _ _ | refine Below.drew ?_ | refine Below.alloc ?_ ?_ _ | refine Below.setCell ?_ ?_ _ | refine below_setR ?_ ?_ _ | refine below_dn ?_ _ | refine Below.trans ?_ (below_mo _ _ _ ?_) | refine Below.trans ?_ (below_mq _ _ ?_) | exact Nat.le_refl _) | (simp; done) | (simp; omega) | omega)) f hf).mono ?_; rintro e w' ⟨rfl, hb_⟩; obtain ⟨os_, d_, rfl⟩ := mo_of hb_; clear hb_)
    (apply ret16; rfl; rfl; (repeat' (first | (with_reducible assumption) | (with_reducible refine heap_mo_at ?_) | (with_reducible refine heap_mq_at ?_) | (with_reducible refine heap_drew_at ?_) | ((with_reducible refine heap_alloc_at ?_); first | rfl | (simp; done)) | (with_reducible refine heap_alloc_past ?_) | ((with_reducible apply heap_set_at); (first | rfl | (simp; done))) | ((with_reducible apply heap_set_past); (first | (simp; done) | (simp; omega) | omega)) | ((with_reducible apply heap_setC_past); (first | (simp; done) | (simp; omega) | omega)) | fail)); (first | rfl | (simp; done)); rfl)
    exact ⟨(by first | (rw [HR.out]; done) | (rw [HR.out]; rfl)), (by repeat' (first | (with_reducible first | assumption | exact Below.refl _ _ | refine Below.drew ?_ | refine Below.alloc ?_ ?_ _ | refine Below.setCell ?_ ?_ _ | refine below_setR ?_ ?_ _ | refine below_dn ?_ _ | refine Below.trans ?_ (below_mo _ _ _ ?_) | refine Below.trans ?_ (below_mq _ _ ?_) | exact Nat.le_refl _) | (simp; done) | (simp; omega) | omega))⟩
  have HR := Lib.hid (poV_2 h1)
  have HD := Lib.hid h1
  go_enter Try.func23, Try.ntmps23
  go_wp2_with (first | (go_at_call 72; refine (specValidDigits_any hs h8 _ _ rfl _ (by repeat' (first | (with_reducible first | assumption | exact Below.refl _ _ | refine Below.drew ?_ | refine Below.alloc ?_ ?_ _ | refine Below.setCell ?_ ?_ _ | refine below_setR ?_ ?_ _ | refine below_dn ?_ _ | refine Below.trans ?_ (below_mo _ _ _ ?_) | refine Below.trans ?_ (below_mq _ _ ?_) | exact Nat.le_refl _) | (simp; done) | (simp; omega) | omega)) f hf).mono ?_; rintro e w' ⟨rfl, hb_⟩; obtain ⟨os_, d_, rfl⟩ := mo_of hb_; clear hb_) | (go_at_call 73; refine (l05Of_any hs h8 _ _ rfl _ (by repeat' (first | (with_reducible first | assumption | exact Below.refl _ _ | refine Below.drew ?_ | refine Below.alloc ?_ ?_ _ | refine Below.setCell ?_ ?_ _ | refine below_setR ?_ ?_ _ | refine below_dn ?_ _ | refine Below.trans ?_ (below_mo _ _ _ ?_) | refine Below.trans ?_ (below_mq _ _ ?_) | exact Nat.le_refl _) | (simp; done) | (simp; omega) | omega)) f hf HD.out).mono ?_; rintro e w' ⟨rfl, hb_⟩; obtain ⟨os_, d_, rfl⟩ := mo_of hb_; clear hb_))
  (apply ret16; rfl; rfl; (repeat' (first | (with_reducible assumption) | (with_reducible refine heap_mo_at ?_) | (with_reducible refine heap_mq_at ?_) | (with_reducible refine heap_drew_at ?_) | ((with_reducible refine heap_alloc_at ?_); first | rfl | (simp; done)) | (with_reducible refine heap_alloc_past ?_) | ((with_reducible apply heap_set_at); (first | rfl | (simp; done))) | ((with_reducible apply heap_set_past); (first | (simp; done) | (simp; omega) | omega)) | ((with_reducible apply heap_setC_past); (first | (simp; done) | (simp; omega) | omega)) | fail)); (first | rfl | (simp; done)); rfl)
  exact ⟨(by first | (rw [HR.out]; done) | (rw [HR.out]; rfl)), (by repeat' (first | (with_reducible first | assumption | exact Below.refl _ _ | refine Below.drew ?_ | refine Below.alloc ?_ ?_ _ | refine Below.setCell ?_ ?_ _ | refine below_setR ?_ ?_ _ | refine below_dn ?_ _ | refine Below.trans ?_ (below_mo _ _ _ ?_) | refine Below.trans ?_ (below_mq _ _ ?_) | exact Nat.le_refl _) | (simp; done) | (simp; omega) | omega))⟩
theorem specPhotoOfL {A : Option Addr} {xs : List Int} {W : World} {B : Nat} (hs : Nums .u8 W B A xs) (h8 : b8 xs) (n c : Nat) (hn : xs.length = n) (w : World) (hb : Below B W w) (f : Nat → Int) (hf : d8 f) {R : Nat → Int} {cR : Int} (hR : poV xs f = (R, cR)) : Calls Try.prog 23 #[.slice A n c, .agg #[.int .u8 (f 0), .int .u8 (f 1), .int .u8 (f 2), .int .u8 (f 3), .int .u8 (f 4), .int .u8 (f 5), .int .u8 (f 6), .int .u8 (f 7)]] w fun e w' => e = .returned (.tuple #[.agg (a16 R), .int .i64 cR]) ∧ Below w.heap.size w w' := by
  have h := specPhotoOf_any hs h8 n c hn w hb f hf
  rw [hR] at h
  exact h
theorem implPhotoOfL {A : Option Addr} {xs : List Int} {W : World} {B : Nat} (hs : Nums .u8 W B A xs) (h8 : b8 xs) (n c : Nat) (hn : xs.length = n) (w : World) (hb : Below B W w) (f : Nat → Int) (hf : d8 f) {R : Nat → Int} {cR : Int} (hR : poV xs f = (R, cR)) : Calls Try.prog 25 #[.slice A n c, .agg #[.int .u8 (f 0), .int .u8 (f 1), .int .u8 (f 2), .int .u8 (f 3), .int .u8 (f 4), .int .u8 (f 5), .int .u8 (f 6), .int .u8 (f 7)]] w fun e w' => e = .returned (.tuple #[.agg (a16 R), .int .i64 cR]) ∧ Below w.heap.size w w' := by
  have h := implPhotoOf_any hs h8 n c hn w hb f hf
  rw [hR] at h
  exact h
end Go.Proofs.Ytdmnblmonndkmaa.X
