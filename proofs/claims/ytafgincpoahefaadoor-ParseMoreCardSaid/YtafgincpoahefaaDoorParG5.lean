/-
  stragglelaw09.ParseMore: its row starts no goroutine.
-/
import Derived.Test.YtafgincpoahefaaDoorCards
import Derived.Test.YtafgincpoahefaaDoorTie
import Derived.ProofKit
namespace Go.Proofs.YtafgincpoahefaaDoor
set_option maxRecDepth 100000 in
theorem parseMore_goes : false = Rows.parseMoreRow.goesBy Tryd.pinned.checked.prog := by kernel_rfl
end Go.Proofs.YtafgincpoahefaaDoor
