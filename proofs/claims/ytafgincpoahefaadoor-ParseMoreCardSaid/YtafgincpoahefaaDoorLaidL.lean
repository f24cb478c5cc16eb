/-
  What the rows of layer 7 list: a world that holds it; what a walk has of it.
-/
import Derived.Test.YtafgincpoahefaaDoorLaidN
import Derived.Test.YtafgincpoahefaaDoorLex3
namespace Go.Proofs.YtafgincpoahefaaDoor
open Go.ChangeShapes Go.WideShapes Go.ChangeAt Go.RowKit

/-- 'laidWorld' with lex's ways of comparing -/
noncomputable def laidWorldL (os : Os) : World :=
  { laidWorld os with heap := setRow (laidWorld os).heap 2 #[.string ⟨#[]⟩, .string ⟨#[60]⟩, .string ⟨#[60, 61]⟩, .string ⟨#[61]⟩, .string ⟨#[33, 61]⟩, .string ⟨#[62]⟩, .string ⟨#[62, 61]⟩] }
theorem metL (os : Os) (args : Array Value) : laidMet Tryd.prog Rows.lexOneRow.laid ((laidWorldL os).forCall (fun _ _ => 0) ⟨#[], args, []⟩).memory :=
  laidMet_of_run' 8 (by kernel_rfl) (by kernel_rfl)

theorem GL_of_laid {W : World} (h0 : laidMetH Tryd.prog Rows.lexOneRow.laid W) : GL W := by
  have h : laidMet Tryd.prog Rows.lexOneRow.laid W := h0
  have h1 := laidMet.tail (laidMet.tail h)
  have h2 := laidMet.tail (laidMet.tail (laidMet.tail h1))
  refine ⟨⟨Lib.tabIs_of_head gPow gPowType Tryd.underlying191 Tryd.underlying122 (by kernel_rfl) (by kernel_rfl) h1, ?_⟩, ?_⟩
  · obtain ⟨a, b, s0, s1, ca, cb, ta, tb, hR, hS, _, _, _, _, _, _, hne, hb0, hb1⟩ := laid_sentinels2 (laidMet.tail h1) gRange (by kernel_rfl) gSyntax (by kernel_rfl) Tryd.underlying81 (tp := 199) (fun u hu => typeName_ptr_named (nm := "errors.errorString") (by kernel_rfl) (by kernel_rfl) (by decide) u (hu.trans (congrArg some (by decide)))) Tryd.underlying199 Tryd.underlying201 rfl rfl Tryd.underlying9 (by kernel_rfl) (by kernel_rfl)
    exact ⟨a, b, ca, cb, ta, tb, hR, hS, hne.symm, hb0, hb1⟩
  · exact strs_of_head (ls := (List.range 7).map opText) gOps gOpsType Tryd.underlying95 Tryd.underlying9 (by kernel_rfl) (by kernel_rfl) h2
end Go.Proofs.YtafgincpoahefaaDoor
