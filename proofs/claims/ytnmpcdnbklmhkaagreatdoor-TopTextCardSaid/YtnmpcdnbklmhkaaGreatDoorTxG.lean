/-
 straggletop.TopText: its row starts no goroutine.
-/
import Derived.Test.YtnmpcdnbklmhkaaGreatDoorCards
import Derived.Test.YtnmpcdnbklmhkaaGreatDoorTie
import Derived.ProofKit
namespace Go.Proofs.YtnmpcdnbklmhkaaGreatDoor
set_option maxRecDepth 100000
theorem KO:false=Rows.topTextRow.goesBy Tryz.pinned.checked.prog:=by kernel_rfl
end Go.Proofs.YtnmpcdnbklmhkaaGreatDoor
