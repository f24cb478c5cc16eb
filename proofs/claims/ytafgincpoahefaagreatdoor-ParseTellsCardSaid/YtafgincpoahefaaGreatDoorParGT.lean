/-
  stragglelaw09.ParseTells: its row starts no goroutine.
-/
import Derived.Test.YtafgincpoahefaaGreatDoorCards
import Derived.Test.YtafgincpoahefaaGreatDoorTie
import Derived.ProofKit
namespace Go.Proofs.YtafgincpoahefaaGreatDoor
set_option maxRecDepth 100000 in
theorem parseTells_goes : false = Rows.parseTellsRow.goesBy Tryz.pinned.checked.prog := by kernel_rfl
end Go.Proofs.YtafgincpoahefaaGreatDoor
