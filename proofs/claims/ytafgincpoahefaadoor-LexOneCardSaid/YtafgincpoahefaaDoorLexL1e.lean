/-
  stragglelaw07.LexOne: true of any token; the cases joined.
-/
import Derived.Test.YtafgincpoahefaaDoorLexL1a
import Derived.Test.YtafgincpoahefaaDoorLexL1b
import Derived.Test.YtafgincpoahefaaDoorLexL1c
import Derived.Test.YtafgincpoahefaaDoorLexL1d
namespace Go.Proofs.YtafgincpoahefaaDoor
open Go.RowKit

theorem lexOne_walk (k n x : Int) (w : World) (hG : GL w) : Calls Tryd.prog 15 #[.agg #[.int .u8 k, .int .i64 n, .int .i64 x]] w fun e w' => e = .returned (.bool true) ∧ Below w.heap.size w w' := by
  by_cases k1 : k = 1
  · subst k1
    by_cases a : n < 0
    · exact lexOne_n1a n a x w hG
    by_cases b : 1099511627776 < n
    · exact lexOne_n1b n (by omega) b x w hG
    exact lexOne_some1 n (by omega) (by omega) x w hG
  by_cases k2 : k = 2
  · subst k2
    by_cases a : n < 0
    · exact lexOne_n2a n a x w hG
    by_cases b : 26 ≤ n
    · exact lexOne_n2b n (by omega) b x w hG
    exact lexOne_some2 n (by omega) (by omega) x w hG
  by_cases k3 : k = 3
  · subst k3
    by_cases a : n = 0
    · subst a; exact lexOne_some3 x w hG
    exact lexOne_n3 n a x w hG
  by_cases k4 : k = 4
  · subst k4
    by_cases a : n < 1
    · exact lexOne_n4a n a x w hG
    by_cases b : 7 ≤ n
    · exact lexOne_n4b n (by omega) b x w hG
    exact lexOne_some4 n (by omega) (by omega) x w hG
  by_cases k5 : k = 5
  · subst k5
    cases h : smB n 12
    · exact lexOne_n5 n h x w hG
    · exact lexOne_some5 n h x w hG
  exact lexOne_n0 k n k1 k2 k3 k4 k5 x w hG
end Go.Proofs.YtafgincpoahefaaDoor
