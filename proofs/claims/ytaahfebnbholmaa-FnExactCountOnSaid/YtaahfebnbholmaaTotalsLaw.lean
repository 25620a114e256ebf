/- The laws of CountOn and DriftOn, walked. Conditions: none. -/
import Derived.Test.YtaahfebnbholmaaTotalsX
namespace Go.Proofs.Ytaahfebnbholmaa.X
open Go.RowKit
set_option maxHeartbeats 2000000 in
theorem lawCountOn (A : Option Addr) (xs : List (Int × Int)) (n c : Nat) (d : Int) (w : World) (hn : xs.length = n) (hm : n ≤ maxLen) (hs : SL w w.heap.size 2 e2 A xs) :
    Calls Try.prog 9 #[.slice A n c, .int .i64 d] w fun e w' => e = .returned (.bool true) ∧ Below w.heap.size w w' := by
  by_cases hl : n ≤ 1048576
  · have hif : (if (1048576 : Int) < n then (-1 : Int) else 1048576 - n) = 1048576 - n := if_neg (by omega)
    have hm' : xs.length ≤ maxLen := by omega
    go_enter Try.func9, Try.ntmps9
    go_wp2_with fail
    refine (szTotalS_any A n c 1048576 _ (by omega) (by omega) hm).mono ?_
    rw [hif]
    clear hif
    rintro e w' ⟨rfl, rfl⟩
    have HN := Lib.hid hn
    clear hn
    go_wp2_with fail
    refine (toTotalS_any A xs n c _ _ HN.out hl (Nat.le_refl _) hs).mono ?_
    rintro e w1 ⟨B1, c1, rfl, hs1, hB1⟩
    have hs0 := hs.keep hB1 (Nat.le_refl _) hB1.size
    rw [HN.out]
    go_wp2_with fail
    refine (specCountOn_any B1 xs n c1 _ d _ HN.out hm (Nat.le_refl _) hs1).mono ?_
    rintro e w2 ⟨rfl, hb⟩
    have hB2 := below_step hB1 hb (Nat.le_refl _)
    replace hs0 := hs.keep hB2 (Nat.le_refl _) hB2.size
    clear hb hs1
    go_wp2_with fail
    refine (toTotalS_any A xs n c _ _ HN.out hl (Nat.le_refl _) hs0).mono ?_
    rintro e w3 ⟨B3, c3, rfl, hs3, hb⟩
    have hB3 := below_step hB2 hb (Nat.le_refl _)
    replace hs0 := hs.keep hB3 (Nat.le_refl _) hB3.size
    clear hb
    rw [HN.out]
    go_wp2_with fail
    refine (implCountOn_any B3 xs n c3 _ d _ HN.out hm (Nat.le_refl _) hs3).mono ?_
    rintro e w4 ⟨rfl, hb⟩
    have hB4 := below_step hB3 hb (Nat.le_refl _)
    replace hs0 := hs.keep hB4 (Nat.le_refl _) hB4.size
    replace hs3 := hs3.keep hb (Nat.le_refl _) hb.size
    clear hb
    go_wp2_with fail
    refine (toTotalS_any A xs n c _ _ HN.out hl (Nat.le_refl _) hs0).mono ?_
    rintro e w5 ⟨B5, c5, rfl, hs5, hb⟩
    have hB5 := below_step hB4 hb (Nat.le_refl _)
    replace hs3 := hs3.keep hb (Nat.le_refl _) hb.size
    clear hb
    rw [HN.out]
    go_wp2_with fail
    refine (eqTotalS_same B3 B5 xs n c3 c5 _ _ _ HN.out hl (Nat.le_refl _) (Nat.le_refl _) hs3 hs5).mono ?_
    rintro e w6 ⟨rfl, hb⟩
    have hB6 := below_step hB5 hb (Nat.le_refl _)
    clear hb
    go_wp2
    go_ret
    exact ⟨rfl, hB6⟩
  · have hif : (if (1048576 : Int) < n then (-1 : Int) else 1048576 - n) = -1 := if_pos (by omega)
    go_enter Try.func9, Try.ntmps9
    go_wp2_with fail
    refine (szTotalS_any A n c 1048576 _ (by omega) (by omega) hm).mono ?_
    rw [hif]
    rintro e w' ⟨rfl, rfl⟩
    go_wp2
    go_ret
    exact ⟨rfl, Below.refl _ _⟩
end Go.Proofs.Ytaahfebnbholmaa.X
