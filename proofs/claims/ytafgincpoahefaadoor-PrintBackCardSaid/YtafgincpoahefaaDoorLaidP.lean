/-
  What the rows of layer 10 list: a world that holds it; what a walk has of it.
-/
import Derived.Test.YtafgincpoahefaaDoorLaidN
import Derived.Test.YtafgincpoahefaaDoorLex3
import Derived.Test.YtafgincpoahefaaDoorPr2
namespace Go.Proofs.YtafgincpoahefaaDoor
open Go.ChangeShapes Go.WideShapes Go.ChangeAt Go.RowKit

/-- 'laidWorld' with print's ways of comparing, its heads -/
noncomputable def laidWorldP (os : Os) : World :=
  { laidWorld os with heap := setRow (setRow (laidWorld os).heap 0 #[.string ⟨#[]⟩, .string ⟨#[60]⟩, .string ⟨#[60, 61]⟩, .string ⟨#[61]⟩, .string ⟨#[33, 61]⟩, .string ⟨#[62]⟩, .string ⟨#[62, 61]⟩]) 3 #[.string ⟨#[]⟩, .string ⟨#[116]⟩, .string ⟨#[120]⟩, .string ⟨#[121]⟩, .string ⟨#[110]⟩, .string ⟨#[100]⟩, .string ⟨#[99]⟩] }
theorem metP (os : Os) (args : Array Value) : laidMet Tryd.prog Rows.printTellsRow.laid ((laidWorldP os).forCall (fun _ _ => 0) ⟨#[], args, []⟩).memory :=
  laidMet_of_run' 8 (by kernel_rfl) (by kernel_rfl)

theorem GP_of_laid {W : World} (h0 : laidMetH Tryd.prog Rows.printTellsRow.laid W) : GP W := by
  have h : laidMet Tryd.prog Rows.printTellsRow.laid W := h0
  have h1 := laidMet.tail (laidMet.tail h)
  have h2 := laidMet.tail h1
  have h3 := laidMet.tail h2
  refine ⟨Lib.tabIs_of_head gPow gPowType Tryd.underlying191 Tryd.underlying122 (by kernel_rfl) (by kernel_rfl) h1, ?_, ?_⟩
  · exact strs_of_head (ls := (List.range 7).map opText) gPOps gPOpsType Tryd.underlying95 Tryd.underlying9 (by kernel_rfl) (by kernel_rfl) h2
  · exact strs_of_head (ls := (List.range 7).map headC) gHeads gHeadsType Tryd.underlying95 Tryd.underlying9 (by kernel_rfl) (by kernel_rfl) h3
end Go.Proofs.YtafgincpoahefaaDoor
