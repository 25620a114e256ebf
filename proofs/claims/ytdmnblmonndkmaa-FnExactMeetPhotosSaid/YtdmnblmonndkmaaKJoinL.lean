/- Joined photos, their cells written out. Conditions: none. -/
import Derived.Test.YtdmnblmonndkmaaKJoin
namespace Go.Proofs.Ytdmnblmonndkmaa.X
open Go.RowKit
set_option linter.unusedVariables false
set_option linter.unusedSimpArgs false
set_option maxRecDepth 100000
theorem specJoinL {A : Option Addr} {xs : List Int} {W : World} {B : Nat} (hs : Nums .u8 W B A xs) (h8 : b8 xs) (n c : Nat) (hn : xs.length = n) (w : World) (hb : Below B W w) (p q : Nat → Int) {R : Nat → Int} {cR : Int} (hR : jnV xs p q = (R, cR)) : Calls Try.prog 26 #[.slice A n c, .agg (a16 p), .agg (a16 q)] w fun e w' => e = .returned (.tuple #[.agg (a16 R), .int .i64 cR]) ∧ Below w.heap.size w w' := by
  have h := specJoin_any hs h8 n c hn w hb p q
  rw [hR] at h
  exact h
theorem implJoinL {A : Option Addr} {xs : List Int} {W : World} {B : Nat} (hs : Nums .u8 W B A xs) (h8 : b8 xs) (n c : Nat) (hn : xs.length = n) (w : World) (hb : Below B W w) (p q : Nat → Int) {R : Nat → Int} {cR : Int} (hR : jnV xs p q = (R, cR)) : Calls Try.prog 27 #[.slice A n c, .agg (a16 p), .agg (a16 q)] w fun e w' => e = .returned (.tuple #[.agg (a16 R), .int .i64 cR]) ∧ Below w.heap.size w w' := by
  have h := implJoin_any hs h8 n c hn w hb p q
  rw [hR] at h
  exact h
theorem specMeetL {A : Option Addr} {xs : List Int} {W : World} {B : Nat} (hs : Nums .u8 W B A xs) (h8 : b8 xs) (n c : Nat) (hn : xs.length = n) (w : World) (hb : Below B W w) (p q : Nat → Int) {R : Nat → Int} {cR : Int} (hR : meV xs p q = (R, cR)) : Calls Try.prog 28 #[.slice A n c, .agg (a16 p), .agg (a16 q)] w fun e w' => e = .returned (.tuple #[.agg (a16 R), .int .i64 cR]) ∧ Below w.heap.size w w' := by
  have h := specMeet_any hs h8 n c hn w hb p q
  rw [hR] at h
  exact h
theorem implMeetL {A : Option Addr} {xs : List Int} {W : World} {B : Nat} (hs : Nums .u8 W B A xs) (h8 : b8 xs) (n c : Nat) (hn : xs.length = n) (w : World) (hb : Below B W w) (p q : Nat → Int) {R : Nat → Int} {cR : Int} (hR : meV xs p q = (R, cR)) : Calls Try.prog 29 #[.slice A n c, .agg (a16 p), .agg (a16 q)] w fun e w' => e = .returned (.tuple #[.agg (a16 R), .int .i64 cR]) ∧ Below w.heap.size w w' := by
  have h := implMeet_any hs h8 n c hn w hb p q
  rw [hR] at h
  exact h
end Go.Proofs.Ytdmnblmonndkmaa.X
