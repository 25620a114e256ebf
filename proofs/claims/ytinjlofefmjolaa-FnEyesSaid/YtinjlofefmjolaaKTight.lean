/- The tightest flow of a log. Conditions: none. -/
import Derived.Test.YtinjlofefmjolaaKLogF
import Derived.StillTailTactics
import Derived.IntWalk
namespace Go.Proofs.Ytinjlofefmjolaa.X
open Go.RowKit
set_option linter.unusedVariables false
set_option linter.unusedSimpArgs false
set_option maxRecDepth 100000
theorem still_tail2 {P : Program} {id : Nat} {Q : Exit → Act → World → Prop} {a : Act} {w : World} {l : List Oper} (n : Nat) (hm : P.follows .mixedOrders = true) (hB : Region.lexTailB .any l.toArray n = true)
    (h : wpStill P l.toArray w.drew (fun a' => wpList P l.toArray Q (l.drop n) a' w.drew) (l.take n) a) : (Code.region id l.toArray true).wp P Q a w := wp_region_still_tail n hm hB h
@[go_sem] theorem setCell_mq (w : World) (p : Q1) (n i : Nat) (v : Value) (hn : n < w.heap.size) : (mq w p).setCell ⟨n, i, none⟩ v = mq (w.setCell ⟨n, i, none⟩ v) p := setCell_mo w p.os p.d n i v hn
theorem wrap_gap {xs : List Int} {log : List (Int × Int)} (j : Nat) (w : World) (h1 : -4000000000000000000 ≤ p2 log ((j : Int) + 1) - p2 log j ∧ p2 log ((j : Int) + 1) - p2 log j ≤ 4000000000000000000) (h2 : 1 ≤ szS xs ∧ szS xs ≤ 4000000000000000000) :
    Calls Try.prog 73 #[.int .i64 (p2 log ((j : Int) + 1) - p2 log j), .int .i64 (sizeTo xs xs.length)] w fun e w' => e = .returned (.tuple #[.int .i64 (tgap xs log j), .int .i64 ((p2 log ((j : Int) + 1) - p2 log j) / szS xs)]) ∧ w = w' := wrapped_any _ _ w h1 h2
theorem mod_gap {xs : List Int} {log : List (Int × Int)} (j : Nat) (w : World) (h1 : -4000000000000000000 ≤ p2 log ((j : Int) + 1) - p2 log j ∧ p2 log ((j : Int) + 1) - p2 log j ≤ 4000000000000000000) (h2 : 1 ≤ szS xs ∧ szS xs ≤ 4000000000000000000) :
    Calls Try.prog 66 #[.int .i64 (p2 log ((j : Int) + 1) - p2 log j), .int .i64 (sizeTo xs xs.length)] w fun e w' => e = .returned (.int .i64 (tgap xs log j)) ∧ w = w' := l04Mod_any _ _ w h1 h2
theorem l00Max_st (a b : Int) (w : World) : Calls Try.prog 59 #[.int .i64 a, .int .i64 b] w fun e w' => e = .returned (.int .i64 (max a b)) ∧ w' = w := (l00Max_ok a b w).mono fun _ _ ⟨h1, h2⟩ => ⟨h1, h2.symm⟩
end Go.Proofs.Ytinjlofefmjolaa.X
