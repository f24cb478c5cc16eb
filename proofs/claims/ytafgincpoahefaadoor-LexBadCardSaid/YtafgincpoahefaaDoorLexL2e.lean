/-
  stragglelaw07.LexBad: true of any text, any byte; the cases joined.
-/
import Derived.Test.YtafgincpoahefaaDoorLexL2a
import Derived.Test.YtafgincpoahefaaDoorLexL2b
import Derived.Test.YtafgincpoahefaaDoorLexL2c
import Derived.Test.YtafgincpoahefaaDoorLexL2d
namespace Go.Proofs.YtafgincpoahefaaDoor
open Go.RowKit
theorem lexBad_walk (s : ByteArray) (c : Int) (w : World) (_hs0 : s.size ≤ 140737488351232) (hc : 0 ≤ c ∧ c ≤ 255) (hG : GL w) : Calls Tryd.prog 16 #[.string s, .int .u8 c] w fun e w' => e = .returned (.bool true) ∧ Below w.heap.size w w' := by
  by_cases hs : 300 < s.size
  · exact lexBad_long s c hc hs w hG
  have hs : s.size ≤ 300 := by omega
  by_cases h1 : c = 32
  · exact lexBad_k1 s c hc hs h1 w hG
  by_cases h2 : 48 ≤ c ∧ c ≤ 57
  · exact lexBad_k2 s c hc hs h2.1 h2.2 w hG
  by_cases h3 : 97 ≤ c ∧ c ≤ 122
  · exact lexBad_k3 s c hc hs h3.1 h3.2 w hG
  have hl : s.data.toList.length = s.size := by simp
  have ha := all_cases s.data.toList (by omega)
  cases hk : knB c 15
  · rcases ha with ⟨hg, _⟩ | ⟨_, p, ha⟩
    · by_cases h4 : c < 48
      · exact lexBad_gx s c hc hs h4 h1 hk hg w hG
      by_cases h5 : c < 97
      · exact lexBad_gy s c hc hs (by omega) h5 hk hg w hG
      exact lexBad_gz s c hc hs (by omega) hk hg w hG
    · by_cases h4 : c < 48
      · exact lexBad_ex s c hc hs h4 h1 hk p ha w hG
      by_cases h5 : c < 97
      · exact lexBad_ey s c hc hs (by omega) h5 hk p ha w hG
      exact lexBad_ez s c hc hs (by omega) hk p ha w hG
  · by_cases h4 : c < 48
    · exact lexBad_sx s c hc hs h4 h1 hk w hG
    by_cases h5 : c < 97
    · exact lexBad_sy s c hc hs (by omega) h5 hk w hG
    exact lexBad_sz s c hc hs (by omega) hk w hG
end Go.Proofs.YtafgincpoahefaaDoor
