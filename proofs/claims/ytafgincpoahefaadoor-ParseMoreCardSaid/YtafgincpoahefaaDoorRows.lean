/-
  NARROWER THAN 'FOR EVERY INPUT', by the rows' own cells (each row's printed sentence says how): PrintTells: laid · PrintBack: laid · PrintBlanks: laid · PrintParts: laid · PrintApart: laid · NumBack: laid · NumOver: laid · NumSums: laid · NumTexts: laid · LexTells: laid · LexBack: laid · LexParts: laid · LexOne: laid · LexBad: laid · ParseMay: laid · ParseBlanks: laid · ParseCut: laid · ParseMore: laid.
  DERIVED. THE GIVEN ROWS OF THIS SEAT. 18 by the template 'for every input the law returns true; each argument reads behind the call as it read before'; 0 by the template 'total and deterministic' (their statements: YtafgincpoahefaaDoorTotals.lean).
  GIVEN WITH THE SEED: the statements are not yours to turn. If you find one false, say at which input.
  Laid BY PROGRAM, IN A SANDBOX (cutbox-rows.mjs): the forced cells as the released guide's own fill.sh prints them over the translation 77fea39c95c981a4… (all of the seat's roots in one cut). By AI agents, Wed Nov 11 2026. No macro, syntax, notation, axiom, sorry.
-/
import Derived.Test.YtafgincpoahefaaDoorChecked
import GoSem.Claim
import GoSem.ClaimJoined
import GoSem.ClaimMapViews
import Derived.JoinedTies
import Derived.KernelRfl
namespace Go.Proofs.YtafgincpoahefaaDoor
/- THE CELL 'sum', in the pinned program and in every row, IS THE sha256 OF THE DUMP (.gsa) THAT YtafgincpoahefaaDoorProg.lean LOADS. Nothing in Lean hashes anything: it is a label: what it is worth is what the hold of that sum in a sandbox is worth. -/
noncomputable def Tryd.pinned : Pinned := { name := "ytafgincpoahefaadoor", sum := "77fea39c95c981a404096325ec965943dec656aedc2f965acf414993ff7c993d", checked := Tryd.checked }
namespace Rows
def none {H : Type} : Left H := { results := [], args := [] }

/- WHAT THE LISTED PACKAGE-LEVEL VARIABLES READ AS WHEN THE CALL BEGINS. Each datum BY PROGRAM (the guide's laid-datum.mjs) off the statement by which the dump's own 'gosem.cut.vars' lays the variable. In a bare row this is a premise. The card (YtafgincpoahefaaDoorCards.lean) ties it to the program's text. -/
def laid_math_bits_deBruijn32tab {H : Type} : DataW H := .agg [.lit (.int .u8 0), .lit (.int .u8 1), .lit (.int .u8 28), .lit (.int .u8 2), .lit (.int .u8 29), .lit (.int .u8 14), .lit (.int .u8 24), .lit (.int .u8 3), .lit (.int .u8 30), .lit (.int .u8 22), .lit (.int .u8 20), .lit (.int .u8 15), .lit (.int .u8 25), .lit (.int .u8 17), .lit (.int .u8 4), .lit (.int .u8 8), .lit (.int .u8 31), .lit (.int .u8 27), .lit (.int .u8 13), .lit (.int .u8 23), .lit (.int .u8 21), .lit (.int .u8 19), .lit (.int .u8 16), .lit (.int .u8 7), .lit (.int .u8 26), .lit (.int .u8 12), .lit (.int .u8 18), .lit (.int .u8 6), .lit (.int .u8 11), .lit (.int .u8 5), .lit (.int .u8 10), .lit (.int .u8 9)]
def laid_math_bits_deBruijn64tab {H : Type} : DataW H := .agg [.lit (.int .u8 0), .lit (.int .u8 1), .lit (.int .u8 56), .lit (.int .u8 2), .lit (.int .u8 57), .lit (.int .u8 49), .lit (.int .u8 28), .lit (.int .u8 3), .lit (.int .u8 61), .lit (.int .u8 58), .lit (.int .u8 42), .lit (.int .u8 50), .lit (.int .u8 38), .lit (.int .u8 29), .lit (.int .u8 17), .lit (.int .u8 4), .lit (.int .u8 62), .lit (.int .u8 47), .lit (.int .u8 59), .lit (.int .u8 36), .lit (.int .u8 45), .lit (.int .u8 43), .lit (.int .u8 51), .lit (.int .u8 22), .lit (.int .u8 53), .lit (.int .u8 39), .lit (.int .u8 33), .lit (.int .u8 30), .lit (.int .u8 24), .lit (.int .u8 18), .lit (.int .u8 12), .lit (.int .u8 5), .lit (.int .u8 63), .lit (.int .u8 55), .lit (.int .u8 48), .lit (.int .u8 27), .lit (.int .u8 60), .lit (.int .u8 41), .lit (.int .u8 37), .lit (.int .u8 16), .lit (.int .u8 46), .lit (.int .u8 35), .lit (.int .u8 44), .lit (.int .u8 21), .lit (.int .u8 52), .lit (.int .u8 32), .lit (.int .u8 23), .lit (.int .u8 11), .lit (.int .u8 54), .lit (.int .u8 26), .lit (.int .u8 40), .lit (.int .u8 15), .lit (.int .u8 34), .lit (.int .u8 20), .lit (.int .u8 31), .lit (.int .u8 10), .lit (.int .u8 25), .lit (.int .u8 14), .lit (.int .u8 19), .lit (.int .u8 9), .lit (.int .u8 13), .lit (.int .u8 8), .lit (.int .u8 7), .lit (.int .u8 6)]
def laid_internal_strconv_uint64pow10 {H : Type} : DataW H := .agg [.lit (.int .u64 1), .lit (.int .u64 10), .lit (.int .u64 100), .lit (.int .u64 1000), .lit (.int .u64 10000), .lit (.int .u64 100000), .lit (.int .u64 1000000), .lit (.int .u64 10000000), .lit (.int .u64 100000000), .lit (.int .u64 1000000000), .lit (.int .u64 10000000000), .lit (.int .u64 100000000000), .lit (.int .u64 1000000000000), .lit (.int .u64 10000000000000), .lit (.int .u64 100000000000000), .lit (.int .u64 1000000000000000), .lit (.int .u64 10000000000000000), .lit (.int .u64 100000000000000000), .lit (.int .u64 1000000000000000000), .lit (.int .u64 10000000000000000000)]
def laid_straggle_print_ops {H : Type} : DataW H := .agg [.lit (.string []), .lit (.string [60]), .lit (.string [60, 61]), .lit (.string [61]), .lit (.string [33, 61]), .lit (.string [62]), .lit (.string [62, 61])]
def laid_straggle_print_heads {H : Type} : DataW H := .agg [.lit (.string []), .lit (.string [116]), .lit (.string [120]), .lit (.string [121]), .lit (.string [110]), .lit (.string [100]), .lit (.string [99])]
def laid_strconv_ErrRange {H : Type} : DataW H := .iface "*errors.errorString" (.ptr (.agg [.lit (.string [118, 97, 108, 117, 101, 32, 111, 117, 116, 32, 111, 102, 32, 114, 97, 110, 103, 101])]))
def laid_strconv_ErrSyntax {H : Type} : DataW H := .iface "*errors.errorString" (.ptr (.agg [.lit (.string [105, 110, 118, 97, 108, 105, 100, 32, 115, 121, 110, 116, 97, 120])]))
def laid_straggle_lex_ops {H : Type} : DataW H := .agg [.lit (.string []), .lit (.string [60]), .lit (.string [60, 61]), .lit (.string [61]), .lit (.string [33, 61]), .lit (.string [62]), .lit (.string [62, 61])]

/-- 'stragglelaw10.PrintTells': WHATEVER THE INPUT: true; the input reads as it did. -/
def printTellsSpec : ChangeSpec := { name := "printTells", fn := fun _ => fun
  | [d1, d2, d3, d4, d5, d6] => { results := [.lit (.bool true)], args := [d1, d2, d3, d4, d5, d6] }
  | _ => none }
def printTellsRow : OpenClaim := { program := "ytafgincpoahefaadoor", sum := "77fea39c95c981a404096325ec965943dec656aedc2f965acf414993ff7c993d", func := "straggle/stragglelaw10.PrintTells", spec := "printTells", inPlace := ["internal/abi.NoEscape", "internal/bytealg.MakeNoZero"], unfollowed := true, recurses := true, named := ["internal/strconv.uint64pow10", "math/bits.deBruijn32tab", "math/bits.deBruijn64tab", "straggle/print.heads", "straggle/print.ops"], apart := false, laid := [("math/bits.deBruijn32tab", laid_math_bits_deBruijn32tab), ("math/bits.deBruijn64tab", laid_math_bits_deBruijn64tab), ("internal/strconv.uint64pow10", laid_internal_strconv_uint64pow10), ("straggle/print.ops", laid_straggle_print_ops), ("straggle/print.heads", laid_straggle_print_heads)] }
def PrintTellsSaid : Prop := printTellsRow.holds Tryd.pinned (OpenSpec.ofChange printTellsSpec)

/-- ITS FALSE NEIGHBOUR: 'it returns false'. Refute it at one input. -/
def printTellsWrong : ChangeSpec := { name := "printTells", fn := fun _ => fun
  | [d1, d2, d3, d4, d5, d6] => { results := [.lit (.bool false)], args := [d1, d2, d3, d4, d5, d6] }
  | _ => none }
def PrintTellsWrongFalsely : Prop := printTellsRow.holds Tryd.pinned (OpenSpec.ofChange printTellsWrong)

/-- 'stragglelaw10.PrintBack': WHATEVER THE INPUT: true; the input reads as it did. -/
def printBackSpec : ChangeSpec := { name := "printBack", fn := fun _ => fun
  | [d] => { results := [.lit (.bool true)], args := [d] }
  | _ => none }
def printBackRow : OpenClaim := { program := "ytafgincpoahefaadoor", sum := "77fea39c95c981a404096325ec965943dec656aedc2f965acf414993ff7c993d", func := "straggle/stragglelaw10.PrintBack", spec := "printBack", inPlace := ["internal/abi.NoEscape", "internal/bytealg.MakeNoZero"], unfollowed := true, recurses := true, named := ["internal/strconv.uint64pow10", "math/bits.deBruijn32tab", "math/bits.deBruijn64tab", "straggle/print.heads", "straggle/print.ops"], apart := false, laid := [("math/bits.deBruijn32tab", laid_math_bits_deBruijn32tab), ("math/bits.deBruijn64tab", laid_math_bits_deBruijn64tab), ("internal/strconv.uint64pow10", laid_internal_strconv_uint64pow10), ("straggle/print.ops", laid_straggle_print_ops), ("straggle/print.heads", laid_straggle_print_heads)] }
def PrintBackSaid : Prop := printBackRow.holds Tryd.pinned (OpenSpec.ofChange printBackSpec)

/-- ITS FALSE NEIGHBOUR: 'it returns false'. Refute it at one input. -/
def printBackWrong : ChangeSpec := { name := "printBack", fn := fun _ => fun
  | [d] => { results := [.lit (.bool false)], args := [d] }
  | _ => none }
def PrintBackWrongFalsely : Prop := printBackRow.holds Tryd.pinned (OpenSpec.ofChange printBackWrong)

/-- 'stragglelaw10.PrintBlanks': WHATEVER THE INPUT: true; the input reads as it did. -/
def printBlanksSpec : ChangeSpec := { name := "printBlanks", fn := fun _ => fun
  | [d] => { results := [.lit (.bool true)], args := [d] }
  | _ => none }
def printBlanksRow : OpenClaim := { program := "ytafgincpoahefaadoor", sum := "77fea39c95c981a404096325ec965943dec656aedc2f965acf414993ff7c993d", func := "straggle/stragglelaw10.PrintBlanks", spec := "printBlanks", inPlace := ["internal/abi.NoEscape", "internal/bytealg.MakeNoZero"], unfollowed := true, recurses := true, named := ["internal/strconv.uint64pow10", "math/bits.deBruijn32tab", "math/bits.deBruijn64tab", "straggle/print.heads", "straggle/print.ops"], apart := false, laid := [("math/bits.deBruijn32tab", laid_math_bits_deBruijn32tab), ("math/bits.deBruijn64tab", laid_math_bits_deBruijn64tab), ("internal/strconv.uint64pow10", laid_internal_strconv_uint64pow10), ("straggle/print.ops", laid_straggle_print_ops), ("straggle/print.heads", laid_straggle_print_heads)] }
def PrintBlanksSaid : Prop := printBlanksRow.holds Tryd.pinned (OpenSpec.ofChange printBlanksSpec)

/-- ITS FALSE NEIGHBOUR: 'it returns false'. Refute it at one input. -/
def printBlanksWrong : ChangeSpec := { name := "printBlanks", fn := fun _ => fun
  | [d] => { results := [.lit (.bool false)], args := [d] }
  | _ => none }
def PrintBlanksWrongFalsely : Prop := printBlanksRow.holds Tryd.pinned (OpenSpec.ofChange printBlanksWrong)

/-- 'stragglelaw10.PrintParts': WHATEVER THE INPUT: true; the input reads as it did. -/
def printPartsSpec : ChangeSpec := { name := "printParts", fn := fun _ => fun
  | [d1, d2] => { results := [.lit (.bool true)], args := [d1, d2] }
  | _ => none }
def printPartsRow : OpenClaim := { program := "ytafgincpoahefaadoor", sum := "77fea39c95c981a404096325ec965943dec656aedc2f965acf414993ff7c993d", func := "straggle/stragglelaw10.PrintParts", spec := "printParts", inPlace := ["internal/abi.NoEscape", "internal/bytealg.MakeNoZero"], unfollowed := true, recurses := true, named := ["internal/strconv.uint64pow10", "math/bits.deBruijn32tab", "math/bits.deBruijn64tab", "straggle/print.heads", "straggle/print.ops"], apart := false, laid := [("math/bits.deBruijn32tab", laid_math_bits_deBruijn32tab), ("math/bits.deBruijn64tab", laid_math_bits_deBruijn64tab), ("internal/strconv.uint64pow10", laid_internal_strconv_uint64pow10), ("straggle/print.ops", laid_straggle_print_ops), ("straggle/print.heads", laid_straggle_print_heads)] }
def PrintPartsSaid : Prop := printPartsRow.holds Tryd.pinned (OpenSpec.ofChange printPartsSpec)

/-- ITS FALSE NEIGHBOUR: 'it returns false'. Refute it at one input. -/
def printPartsWrong : ChangeSpec := { name := "printParts", fn := fun _ => fun
  | [d1, d2] => { results := [.lit (.bool false)], args := [d1, d2] }
  | _ => none }
def PrintPartsWrongFalsely : Prop := printPartsRow.holds Tryd.pinned (OpenSpec.ofChange printPartsWrong)

/-- 'stragglelaw10.PrintApart': WHATEVER THE INPUT: true; the input reads as it did. -/
def printApartSpec : ChangeSpec := { name := "printApart", fn := fun _ => fun
  | [d1, d2, d3, d4] => { results := [.lit (.bool true)], args := [d1, d2, d3, d4] }
  | _ => none }
def printApartRow : OpenClaim := { program := "ytafgincpoahefaadoor", sum := "77fea39c95c981a404096325ec965943dec656aedc2f965acf414993ff7c993d", func := "straggle/stragglelaw10.PrintApart", spec := "printApart", inPlace := ["internal/abi.NoEscape", "internal/bytealg.MakeNoZero"], unfollowed := true, recurses := true, named := ["internal/strconv.uint64pow10", "math/bits.deBruijn32tab", "math/bits.deBruijn64tab", "straggle/print.heads", "straggle/print.ops"], apart := false, laid := [("math/bits.deBruijn32tab", laid_math_bits_deBruijn32tab), ("math/bits.deBruijn64tab", laid_math_bits_deBruijn64tab), ("internal/strconv.uint64pow10", laid_internal_strconv_uint64pow10), ("straggle/print.ops", laid_straggle_print_ops), ("straggle/print.heads", laid_straggle_print_heads)] }
def PrintApartSaid : Prop := printApartRow.holds Tryd.pinned (OpenSpec.ofChange printApartSpec)

/-- ITS FALSE NEIGHBOUR: 'it returns false'. Refute it at one input. -/
def printApartWrong : ChangeSpec := { name := "printApart", fn := fun _ => fun
  | [d1, d2, d3, d4] => { results := [.lit (.bool false)], args := [d1, d2, d3, d4] }
  | _ => none }
def PrintApartWrongFalsely : Prop := printApartRow.holds Tryd.pinned (OpenSpec.ofChange printApartWrong)

/-- 'stragglelaw01.NumBack': WHATEVER THE INPUT: true; the input reads as it did. -/
def numBackSpec : ChangeSpec := { name := "numBack", fn := fun _ => fun
  | [d1, d2, d3, d4] => { results := [.lit (.bool true)], args := [d1, d2, d3, d4] }
  | _ => none }
def numBackRow : OpenClaim := { program := "ytafgincpoahefaadoor", sum := "77fea39c95c981a404096325ec965943dec656aedc2f965acf414993ff7c993d", func := "straggle/stragglelaw01.NumBack", spec := "numBack", inPlace := ["internal/reflectlite.TypeOf"], unfollowed := true, recurses := true, named := ["strconv.ErrRange", "strconv.ErrSyntax", "internal/strconv.uint64pow10", "math/bits.deBruijn32tab", "math/bits.deBruijn64tab"], apart := false, laid := [("math/bits.deBruijn32tab", laid_math_bits_deBruijn32tab), ("math/bits.deBruijn64tab", laid_math_bits_deBruijn64tab), ("internal/strconv.uint64pow10", laid_internal_strconv_uint64pow10), ("strconv.ErrRange", laid_strconv_ErrRange), ("strconv.ErrSyntax", laid_strconv_ErrSyntax)] }
def NumBackSaid : Prop := numBackRow.holds Tryd.pinned (OpenSpec.ofChange numBackSpec)

/-- ITS FALSE NEIGHBOUR: 'it returns false'. Refute it at one input. -/
def numBackWrong : ChangeSpec := { name := "numBack", fn := fun _ => fun
  | [d1, d2, d3, d4] => { results := [.lit (.bool false)], args := [d1, d2, d3, d4] }
  | _ => none }
def NumBackWrongFalsely : Prop := numBackRow.holds Tryd.pinned (OpenSpec.ofChange numBackWrong)

/-- 'stragglelaw01.NumOver': WHATEVER THE INPUT: true; the input reads as it did. -/
def numOverSpec : ChangeSpec := { name := "numOver", fn := fun _ => fun
  | [d1, d2] => { results := [.lit (.bool true)], args := [d1, d2] }
  | _ => none }
def numOverRow : OpenClaim := { program := "ytafgincpoahefaadoor", sum := "77fea39c95c981a404096325ec965943dec656aedc2f965acf414993ff7c993d", func := "straggle/stragglelaw01.NumOver", spec := "numOver", inPlace := ["internal/reflectlite.TypeOf"], unfollowed := true, recurses := true, named := ["strconv.ErrRange", "strconv.ErrSyntax", "internal/strconv.uint64pow10", "math/bits.deBruijn32tab", "math/bits.deBruijn64tab"], apart := false, laid := [("math/bits.deBruijn32tab", laid_math_bits_deBruijn32tab), ("math/bits.deBruijn64tab", laid_math_bits_deBruijn64tab), ("internal/strconv.uint64pow10", laid_internal_strconv_uint64pow10), ("strconv.ErrRange", laid_strconv_ErrRange), ("strconv.ErrSyntax", laid_strconv_ErrSyntax)] }
def NumOverSaid : Prop := numOverRow.holds Tryd.pinned (OpenSpec.ofChange numOverSpec)

/-- ITS FALSE NEIGHBOUR: 'it returns false'. Refute it at one input. -/
def numOverWrong : ChangeSpec := { name := "numOver", fn := fun _ => fun
  | [d1, d2] => { results := [.lit (.bool false)], args := [d1, d2] }
  | _ => none }
def NumOverWrongFalsely : Prop := numOverRow.holds Tryd.pinned (OpenSpec.ofChange numOverWrong)

/-- 'stragglelaw01.NumSums': WHATEVER THE INPUT: true; the input reads as it did. -/
def numSumsSpec : ChangeSpec := { name := "numSums", fn := fun _ => fun
  | [d1, d2] => { results := [.lit (.bool true)], args := [d1, d2] }
  | _ => none }
def numSumsRow : OpenClaim := { program := "ytafgincpoahefaadoor", sum := "77fea39c95c981a404096325ec965943dec656aedc2f965acf414993ff7c993d", func := "straggle/stragglelaw01.NumSums", spec := "numSums", inPlace := ["internal/reflectlite.TypeOf"], unfollowed := true, recurses := true, named := ["strconv.ErrRange", "strconv.ErrSyntax", "internal/strconv.uint64pow10", "math/bits.deBruijn32tab", "math/bits.deBruijn64tab"], apart := false, laid := [("math/bits.deBruijn32tab", laid_math_bits_deBruijn32tab), ("math/bits.deBruijn64tab", laid_math_bits_deBruijn64tab), ("internal/strconv.uint64pow10", laid_internal_strconv_uint64pow10), ("strconv.ErrRange", laid_strconv_ErrRange), ("strconv.ErrSyntax", laid_strconv_ErrSyntax)] }
def NumSumsSaid : Prop := numSumsRow.holds Tryd.pinned (OpenSpec.ofChange numSumsSpec)

/-- ITS FALSE NEIGHBOUR: 'it returns false'. Refute it at one input. -/
def numSumsWrong : ChangeSpec := { name := "numSums", fn := fun _ => fun
  | [d1, d2] => { results := [.lit (.bool false)], args := [d1, d2] }
  | _ => none }
def NumSumsWrongFalsely : Prop := numSumsRow.holds Tryd.pinned (OpenSpec.ofChange numSumsWrong)

/-- 'stragglelaw01.NumTexts': WHATEVER THE INPUT: true; the input reads as it did. -/
def numTextsSpec : ChangeSpec := { name := "numTexts", fn := fun _ => fun
  | [d1, d2] => { results := [.lit (.bool true)], args := [d1, d2] }
  | _ => none }
def numTextsRow : OpenClaim := { program := "ytafgincpoahefaadoor", sum := "77fea39c95c981a404096325ec965943dec656aedc2f965acf414993ff7c993d", func := "straggle/stragglelaw01.NumTexts", spec := "numTexts", inPlace := ["internal/reflectlite.TypeOf"], unfollowed := true, recurses := true, named := ["strconv.ErrRange", "strconv.ErrSyntax", "internal/strconv.uint64pow10", "math/bits.deBruijn32tab", "math/bits.deBruijn64tab"], apart := false, laid := [("math/bits.deBruijn32tab", laid_math_bits_deBruijn32tab), ("math/bits.deBruijn64tab", laid_math_bits_deBruijn64tab), ("internal/strconv.uint64pow10", laid_internal_strconv_uint64pow10), ("strconv.ErrRange", laid_strconv_ErrRange), ("strconv.ErrSyntax", laid_strconv_ErrSyntax)] }
def NumTextsSaid : Prop := numTextsRow.holds Tryd.pinned (OpenSpec.ofChange numTextsSpec)

/-- ITS FALSE NEIGHBOUR: 'it returns false'. Refute it at one input. -/
def numTextsWrong : ChangeSpec := { name := "numTexts", fn := fun _ => fun
  | [d1, d2] => { results := [.lit (.bool false)], args := [d1, d2] }
  | _ => none }
def NumTextsWrongFalsely : Prop := numTextsRow.holds Tryd.pinned (OpenSpec.ofChange numTextsWrong)

/-- 'stragglelaw07.LexTells': WHATEVER THE INPUT: true; the input reads as it did. -/
def lexTellsSpec : ChangeSpec := { name := "lexTells", fn := fun _ => fun
  | [d1, d2] => { results := [.lit (.bool true)], args := [d1, d2] }
  | _ => none }
def lexTellsRow : OpenClaim := { program := "ytafgincpoahefaadoor", sum := "77fea39c95c981a404096325ec965943dec656aedc2f965acf414993ff7c993d", func := "straggle/stragglelaw07.LexTells", spec := "lexTells", inPlace := ["internal/reflectlite.TypeOf", "internal/bytealg.IndexByteString"], unfollowed := true, recurses := true, named := ["straggle/lex.ops", "strconv.ErrRange", "strconv.ErrSyntax", "internal/strconv.uint64pow10", "math/bits.deBruijn32tab", "math/bits.deBruijn64tab"], apart := false, laid := [("math/bits.deBruijn32tab", laid_math_bits_deBruijn32tab), ("math/bits.deBruijn64tab", laid_math_bits_deBruijn64tab), ("internal/strconv.uint64pow10", laid_internal_strconv_uint64pow10), ("strconv.ErrRange", laid_strconv_ErrRange), ("strconv.ErrSyntax", laid_strconv_ErrSyntax), ("straggle/lex.ops", laid_straggle_lex_ops)] }
def LexTellsSaid : Prop := lexTellsRow.holds Tryd.pinned (OpenSpec.ofChange lexTellsSpec)

/-- ITS FALSE NEIGHBOUR: 'it returns false'. Refute it at one input. -/
def lexTellsWrong : ChangeSpec := { name := "lexTells", fn := fun _ => fun
  | [d1, d2] => { results := [.lit (.bool false)], args := [d1, d2] }
  | _ => none }
def LexTellsWrongFalsely : Prop := lexTellsRow.holds Tryd.pinned (OpenSpec.ofChange lexTellsWrong)

/-- 'stragglelaw07.LexBack': WHATEVER THE INPUT: true; the input reads as it did. -/
def lexBackSpec : ChangeSpec := { name := "lexBack", fn := fun _ => fun
  | [d] => { results := [.lit (.bool true)], args := [d] }
  | _ => none }
def lexBackRow : OpenClaim := { program := "ytafgincpoahefaadoor", sum := "77fea39c95c981a404096325ec965943dec656aedc2f965acf414993ff7c993d", func := "straggle/stragglelaw07.LexBack", spec := "lexBack", inPlace := ["internal/reflectlite.TypeOf", "internal/bytealg.IndexByteString"], unfollowed := true, recurses := true, named := ["straggle/lex.ops", "strconv.ErrRange", "strconv.ErrSyntax", "internal/strconv.uint64pow10", "math/bits.deBruijn32tab", "math/bits.deBruijn64tab"], apart := false, laid := [("math/bits.deBruijn32tab", laid_math_bits_deBruijn32tab), ("math/bits.deBruijn64tab", laid_math_bits_deBruijn64tab), ("internal/strconv.uint64pow10", laid_internal_strconv_uint64pow10), ("strconv.ErrRange", laid_strconv_ErrRange), ("strconv.ErrSyntax", laid_strconv_ErrSyntax), ("straggle/lex.ops", laid_straggle_lex_ops)] }
def LexBackSaid : Prop := lexBackRow.holds Tryd.pinned (OpenSpec.ofChange lexBackSpec)

/-- ITS FALSE NEIGHBOUR: 'it returns false'. Refute it at one input. -/
def lexBackWrong : ChangeSpec := { name := "lexBack", fn := fun _ => fun
  | [d] => { results := [.lit (.bool false)], args := [d] }
  | _ => none }
def LexBackWrongFalsely : Prop := lexBackRow.holds Tryd.pinned (OpenSpec.ofChange lexBackWrong)

/-- 'stragglelaw07.LexParts': WHATEVER THE INPUT: true; the input reads as it did. -/
def lexPartsSpec : ChangeSpec := { name := "lexParts", fn := fun _ => fun
  | [d1, d2] => { results := [.lit (.bool true)], args := [d1, d2] }
  | _ => none }
def lexPartsRow : OpenClaim := { program := "ytafgincpoahefaadoor", sum := "77fea39c95c981a404096325ec965943dec656aedc2f965acf414993ff7c993d", func := "straggle/stragglelaw07.LexParts", spec := "lexParts", inPlace := ["internal/reflectlite.TypeOf", "internal/bytealg.IndexByteString"], unfollowed := true, recurses := true, named := ["straggle/lex.ops", "strconv.ErrRange", "strconv.ErrSyntax", "internal/strconv.uint64pow10", "math/bits.deBruijn32tab", "math/bits.deBruijn64tab"], apart := false, laid := [("math/bits.deBruijn32tab", laid_math_bits_deBruijn32tab), ("math/bits.deBruijn64tab", laid_math_bits_deBruijn64tab), ("internal/strconv.uint64pow10", laid_internal_strconv_uint64pow10), ("strconv.ErrRange", laid_strconv_ErrRange), ("strconv.ErrSyntax", laid_strconv_ErrSyntax), ("straggle/lex.ops", laid_straggle_lex_ops)] }
def LexPartsSaid : Prop := lexPartsRow.holds Tryd.pinned (OpenSpec.ofChange lexPartsSpec)

/-- ITS FALSE NEIGHBOUR: 'it returns false'. Refute it at one input. -/
def lexPartsWrong : ChangeSpec := { name := "lexParts", fn := fun _ => fun
  | [d1, d2] => { results := [.lit (.bool false)], args := [d1, d2] }
  | _ => none }
def LexPartsWrongFalsely : Prop := lexPartsRow.holds Tryd.pinned (OpenSpec.ofChange lexPartsWrong)

/-- 'stragglelaw07.LexOne': WHATEVER THE INPUT: true; the input reads as it did. -/
def lexOneSpec : ChangeSpec := { name := "lexOne", fn := fun _ => fun
  | [d] => { results := [.lit (.bool true)], args := [d] }
  | _ => none }
def lexOneRow : OpenClaim := { program := "ytafgincpoahefaadoor", sum := "77fea39c95c981a404096325ec965943dec656aedc2f965acf414993ff7c993d", func := "straggle/stragglelaw07.LexOne", spec := "lexOne", inPlace := ["internal/bytealg.IndexByteString", "internal/reflectlite.TypeOf"], unfollowed := true, recurses := true, named := ["straggle/lex.ops", "internal/strconv.uint64pow10", "math/bits.deBruijn32tab", "math/bits.deBruijn64tab", "strconv.ErrRange", "strconv.ErrSyntax"], apart := false, laid := [("math/bits.deBruijn32tab", laid_math_bits_deBruijn32tab), ("math/bits.deBruijn64tab", laid_math_bits_deBruijn64tab), ("internal/strconv.uint64pow10", laid_internal_strconv_uint64pow10), ("strconv.ErrRange", laid_strconv_ErrRange), ("strconv.ErrSyntax", laid_strconv_ErrSyntax), ("straggle/lex.ops", laid_straggle_lex_ops)] }
def LexOneSaid : Prop := lexOneRow.holds Tryd.pinned (OpenSpec.ofChange lexOneSpec)

/-- ITS FALSE NEIGHBOUR: 'it returns false'. Refute it at one input. -/
def lexOneWrong : ChangeSpec := { name := "lexOne", fn := fun _ => fun
  | [d] => { results := [.lit (.bool false)], args := [d] }
  | _ => none }
def LexOneWrongFalsely : Prop := lexOneRow.holds Tryd.pinned (OpenSpec.ofChange lexOneWrong)

/-- 'stragglelaw07.LexBad': WHATEVER THE INPUT: true; the input reads as it did. -/
def lexBadSpec : ChangeSpec := { name := "lexBad", fn := fun _ => fun
  | [d1, d2] => { results := [.lit (.bool true)], args := [d1, d2] }
  | _ => none }
def lexBadRow : OpenClaim := { program := "ytafgincpoahefaadoor", sum := "77fea39c95c981a404096325ec965943dec656aedc2f965acf414993ff7c993d", func := "straggle/stragglelaw07.LexBad", spec := "lexBad", inPlace := ["internal/reflectlite.TypeOf", "internal/bytealg.IndexByteString"], unfollowed := true, recurses := true, named := ["straggle/lex.ops", "strconv.ErrRange", "strconv.ErrSyntax", "internal/strconv.uint64pow10", "math/bits.deBruijn32tab", "math/bits.deBruijn64tab"], apart := false, laid := [("math/bits.deBruijn32tab", laid_math_bits_deBruijn32tab), ("math/bits.deBruijn64tab", laid_math_bits_deBruijn64tab), ("internal/strconv.uint64pow10", laid_internal_strconv_uint64pow10), ("strconv.ErrRange", laid_strconv_ErrRange), ("strconv.ErrSyntax", laid_strconv_ErrSyntax), ("straggle/lex.ops", laid_straggle_lex_ops)] }
def LexBadSaid : Prop := lexBadRow.holds Tryd.pinned (OpenSpec.ofChange lexBadSpec)

/-- ITS FALSE NEIGHBOUR: 'it returns false'. Refute it at one input. -/
def lexBadWrong : ChangeSpec := { name := "lexBad", fn := fun _ => fun
  | [d1, d2] => { results := [.lit (.bool false)], args := [d1, d2] }
  | _ => none }
def LexBadWrongFalsely : Prop := lexBadRow.holds Tryd.pinned (OpenSpec.ofChange lexBadWrong)

/-- 'stragglelaw09.ParseMay': WHATEVER THE INPUT: true; the input reads as it did. -/
def parseMaySpec : ChangeSpec := { name := "parseMay", fn := fun _ => fun
  | [d] => { results := [.lit (.bool true)], args := [d] }
  | _ => none }
def parseMayRow : OpenClaim := { program := "ytafgincpoahefaadoor", sum := "77fea39c95c981a404096325ec965943dec656aedc2f965acf414993ff7c993d", func := "straggle/stragglelaw09.ParseMay", spec := "parseMay", inPlace := ["internal/reflectlite.TypeOf", "internal/bytealg.IndexByteString"], unfollowed := true, recurses := true, named := ["straggle/lex.ops", "strconv.ErrRange", "strconv.ErrSyntax", "internal/strconv.uint64pow10", "math/bits.deBruijn32tab", "math/bits.deBruijn64tab"], apart := false, laid := [("math/bits.deBruijn32tab", laid_math_bits_deBruijn32tab), ("math/bits.deBruijn64tab", laid_math_bits_deBruijn64tab), ("internal/strconv.uint64pow10", laid_internal_strconv_uint64pow10), ("strconv.ErrRange", laid_strconv_ErrRange), ("strconv.ErrSyntax", laid_strconv_ErrSyntax), ("straggle/lex.ops", laid_straggle_lex_ops)] }
def ParseMaySaid : Prop := parseMayRow.holds Tryd.pinned (OpenSpec.ofChange parseMaySpec)

/-- ITS FALSE NEIGHBOUR: 'it returns false'. Refute it at one input. -/
def parseMayWrong : ChangeSpec := { name := "parseMay", fn := fun _ => fun
  | [d] => { results := [.lit (.bool false)], args := [d] }
  | _ => none }
def ParseMayWrongFalsely : Prop := parseMayRow.holds Tryd.pinned (OpenSpec.ofChange parseMayWrong)

/-- 'stragglelaw09.ParseBlanks': WHATEVER THE INPUT: true; the input reads as it did. -/
def parseBlanksSpec : ChangeSpec := { name := "parseBlanks", fn := fun _ => fun
  | [d1, d2] => { results := [.lit (.bool true)], args := [d1, d2] }
  | _ => none }
def parseBlanksRow : OpenClaim := { program := "ytafgincpoahefaadoor", sum := "77fea39c95c981a404096325ec965943dec656aedc2f965acf414993ff7c993d", func := "straggle/stragglelaw09.ParseBlanks", spec := "parseBlanks", inPlace := ["internal/reflectlite.TypeOf", "internal/bytealg.IndexByteString"], unfollowed := true, recurses := true, named := ["straggle/lex.ops", "strconv.ErrRange", "strconv.ErrSyntax", "internal/strconv.uint64pow10", "math/bits.deBruijn32tab", "math/bits.deBruijn64tab"], apart := false, laid := [("math/bits.deBruijn32tab", laid_math_bits_deBruijn32tab), ("math/bits.deBruijn64tab", laid_math_bits_deBruijn64tab), ("internal/strconv.uint64pow10", laid_internal_strconv_uint64pow10), ("strconv.ErrRange", laid_strconv_ErrRange), ("strconv.ErrSyntax", laid_strconv_ErrSyntax), ("straggle/lex.ops", laid_straggle_lex_ops)] }
def ParseBlanksSaid : Prop := parseBlanksRow.holds Tryd.pinned (OpenSpec.ofChange parseBlanksSpec)

/-- ITS FALSE NEIGHBOUR: 'it returns false'. Refute it at one input. -/
def parseBlanksWrong : ChangeSpec := { name := "parseBlanks", fn := fun _ => fun
  | [d1, d2] => { results := [.lit (.bool false)], args := [d1, d2] }
  | _ => none }
def ParseBlanksWrongFalsely : Prop := parseBlanksRow.holds Tryd.pinned (OpenSpec.ofChange parseBlanksWrong)

/-- 'stragglelaw09.ParseCut': WHATEVER THE INPUT: true; the input reads as it did. -/
def parseCutSpec : ChangeSpec := { name := "parseCut", fn := fun _ => fun
  | [d] => { results := [.lit (.bool true)], args := [d] }
  | _ => none }
def parseCutRow : OpenClaim := { program := "ytafgincpoahefaadoor", sum := "77fea39c95c981a404096325ec965943dec656aedc2f965acf414993ff7c993d", func := "straggle/stragglelaw09.ParseCut", spec := "parseCut", inPlace := ["internal/reflectlite.TypeOf", "internal/bytealg.IndexByteString"], unfollowed := true, recurses := true, named := ["straggle/lex.ops", "strconv.ErrRange", "strconv.ErrSyntax", "internal/strconv.uint64pow10", "math/bits.deBruijn32tab", "math/bits.deBruijn64tab"], apart := false, laid := [("math/bits.deBruijn32tab", laid_math_bits_deBruijn32tab), ("math/bits.deBruijn64tab", laid_math_bits_deBruijn64tab), ("internal/strconv.uint64pow10", laid_internal_strconv_uint64pow10), ("strconv.ErrRange", laid_strconv_ErrRange), ("strconv.ErrSyntax", laid_strconv_ErrSyntax), ("straggle/lex.ops", laid_straggle_lex_ops)] }
def ParseCutSaid : Prop := parseCutRow.holds Tryd.pinned (OpenSpec.ofChange parseCutSpec)

/-- ITS FALSE NEIGHBOUR: 'it returns false'. Refute it at one input. -/
def parseCutWrong : ChangeSpec := { name := "parseCut", fn := fun _ => fun
  | [d] => { results := [.lit (.bool false)], args := [d] }
  | _ => none }
def ParseCutWrongFalsely : Prop := parseCutRow.holds Tryd.pinned (OpenSpec.ofChange parseCutWrong)

/-- 'stragglelaw09.ParseMore': WHATEVER THE INPUT: true; the input reads as it did. -/
def parseMoreSpec : ChangeSpec := { name := "parseMore", fn := fun _ => fun
  | [d1, d2, d3, d4] => { results := [.lit (.bool true)], args := [d1, d2, d3, d4] }
  | _ => none }
def parseMoreRow : OpenClaim := { program := "ytafgincpoahefaadoor", sum := "77fea39c95c981a404096325ec965943dec656aedc2f965acf414993ff7c993d", func := "straggle/stragglelaw09.ParseMore", spec := "parseMore", inPlace := ["internal/reflectlite.TypeOf", "internal/bytealg.IndexByteString"], unfollowed := true, recurses := true, named := ["straggle/lex.ops", "strconv.ErrRange", "strconv.ErrSyntax", "internal/strconv.uint64pow10", "math/bits.deBruijn32tab", "math/bits.deBruijn64tab"], apart := false, laid := [("math/bits.deBruijn32tab", laid_math_bits_deBruijn32tab), ("math/bits.deBruijn64tab", laid_math_bits_deBruijn64tab), ("internal/strconv.uint64pow10", laid_internal_strconv_uint64pow10), ("strconv.ErrRange", laid_strconv_ErrRange), ("strconv.ErrSyntax", laid_strconv_ErrSyntax), ("straggle/lex.ops", laid_straggle_lex_ops)] }
def ParseMoreSaid : Prop := parseMoreRow.holds Tryd.pinned (OpenSpec.ofChange parseMoreSpec)

/-- ITS FALSE NEIGHBOUR: 'it returns false'. Refute it at one input. -/
def parseMoreWrong : ChangeSpec := { name := "parseMore", fn := fun _ => fun
  | [d1, d2, d3, d4] => { results := [.lit (.bool false)], args := [d1, d2, d3, d4] }
  | _ => none }
def ParseMoreWrongFalsely : Prop := parseMoreRow.holds Tryd.pinned (OpenSpec.ofChange parseMoreWrong)

/- THE SECOND FORM. 'bulk': how many values and letters a reading holds, each counted each time it is reached (what is shared counts as often as it is met; a slice's spare places count too). A statement '..UptoSaid' is the law's where the arguments, and the package variables that the reading takes, are together of bulk at most 1048576: NARROWER than '..Said'. Prove '..Said' where nothing that the law and all that it calls make is longer than what came in: it says more and counts as full. Else prove '..UptoSaid'. A law counts once. -/
mutual
def uptoBulk {H : Type} : DataW H → Nat
  | .lit (.string bytes) => bytes.length + 1
  | .lit _ => 1
  | .nil => 1
  | .ptr d => uptoBulk d + 1
  | .slice elems spare => uptoBulkAll elems + uptoBulkAll spare + 1
  | .agg parts => uptoBulkAll parts + 1
  | .iface _ d => uptoBulk d + 1
  | .map entries => uptoBulkEntries entries + 1
  | .held _ => 1
def uptoBulkAll {H : Type} : List (DataW H) → Nat
  | [] => 0
  | d :: r => uptoBulk d + uptoBulkAll r
def uptoBulkEntries {H : Type} : List (Lit × DataW H) → Nat
  | [] => 0
  | x :: r => uptoBulkEntry x + uptoBulkEntries r
def uptoBulkEntry {H : Type} : Lit × DataW H → Nat
  | (.string bytes, d) => bytes.length + uptoBulk d + 1
  | (_, d) => uptoBulk d + 1
 end
def uptoSmall : (H : Type) → List (DataW H) → Bool := fun _ ds => decide (uptoBulkAll ds ≤ 1048576)
def OpenSpec.upto (s : _root_.Go.ChangeSpec) : _root_.Go.OpenSpec := { _root_.Go.OpenSpec.ofChange s with cond := some uptoSmall }

/-- 'stragglelaw10.PrintTells', WHERE WHAT IT READS IS OF BULK AT MOST 1048576: true; the input reads as it did. -/
def printTellsUptoRow : OpenClaim := { program := "ytafgincpoahefaadoor", sum := "77fea39c95c981a404096325ec965943dec656aedc2f965acf414993ff7c993d", func := "straggle/stragglelaw10.PrintTells", spec := "printTells", inPlace := ["internal/abi.NoEscape", "internal/bytealg.MakeNoZero"], unfollowed := true, recurses := true, named := ["internal/strconv.uint64pow10", "math/bits.deBruijn32tab", "math/bits.deBruijn64tab", "straggle/print.heads", "straggle/print.ops"], apart := false, laid := [("math/bits.deBruijn32tab", laid_math_bits_deBruijn32tab), ("math/bits.deBruijn64tab", laid_math_bits_deBruijn64tab), ("internal/strconv.uint64pow10", laid_internal_strconv_uint64pow10), ("straggle/print.ops", laid_straggle_print_ops), ("straggle/print.heads", laid_straggle_print_heads)], narrowed := true }
def PrintTellsUptoSaid : Prop := printTellsUptoRow.holds Tryd.pinned (OpenSpec.upto printTellsSpec)

/-- 'stragglelaw10.PrintBack', WHERE WHAT IT READS IS OF BULK AT MOST 1048576: true; the input reads as it did. -/
def printBackUptoRow : OpenClaim := { program := "ytafgincpoahefaadoor", sum := "77fea39c95c981a404096325ec965943dec656aedc2f965acf414993ff7c993d", func := "straggle/stragglelaw10.PrintBack", spec := "printBack", inPlace := ["internal/abi.NoEscape", "internal/bytealg.MakeNoZero"], unfollowed := true, recurses := true, named := ["internal/strconv.uint64pow10", "math/bits.deBruijn32tab", "math/bits.deBruijn64tab", "straggle/print.heads", "straggle/print.ops"], apart := false, laid := [("math/bits.deBruijn32tab", laid_math_bits_deBruijn32tab), ("math/bits.deBruijn64tab", laid_math_bits_deBruijn64tab), ("internal/strconv.uint64pow10", laid_internal_strconv_uint64pow10), ("straggle/print.ops", laid_straggle_print_ops), ("straggle/print.heads", laid_straggle_print_heads)], narrowed := true }
def PrintBackUptoSaid : Prop := printBackUptoRow.holds Tryd.pinned (OpenSpec.upto printBackSpec)

/-- 'stragglelaw10.PrintBlanks', WHERE WHAT IT READS IS OF BULK AT MOST 1048576: true; the input reads as it did. -/
def printBlanksUptoRow : OpenClaim := { program := "ytafgincpoahefaadoor", sum := "77fea39c95c981a404096325ec965943dec656aedc2f965acf414993ff7c993d", func := "straggle/stragglelaw10.PrintBlanks", spec := "printBlanks", inPlace := ["internal/abi.NoEscape", "internal/bytealg.MakeNoZero"], unfollowed := true, recurses := true, named := ["internal/strconv.uint64pow10", "math/bits.deBruijn32tab", "math/bits.deBruijn64tab", "straggle/print.heads", "straggle/print.ops"], apart := false, laid := [("math/bits.deBruijn32tab", laid_math_bits_deBruijn32tab), ("math/bits.deBruijn64tab", laid_math_bits_deBruijn64tab), ("internal/strconv.uint64pow10", laid_internal_strconv_uint64pow10), ("straggle/print.ops", laid_straggle_print_ops), ("straggle/print.heads", laid_straggle_print_heads)], narrowed := true }
def PrintBlanksUptoSaid : Prop := printBlanksUptoRow.holds Tryd.pinned (OpenSpec.upto printBlanksSpec)

/-- 'stragglelaw10.PrintParts', WHERE WHAT IT READS IS OF BULK AT MOST 1048576: true; the input reads as it did. -/
def printPartsUptoRow : OpenClaim := { program := "ytafgincpoahefaadoor", sum := "77fea39c95c981a404096325ec965943dec656aedc2f965acf414993ff7c993d", func := "straggle/stragglelaw10.PrintParts", spec := "printParts", inPlace := ["internal/abi.NoEscape", "internal/bytealg.MakeNoZero"], unfollowed := true, recurses := true, named := ["internal/strconv.uint64pow10", "math/bits.deBruijn32tab", "math/bits.deBruijn64tab", "straggle/print.heads", "straggle/print.ops"], apart := false, laid := [("math/bits.deBruijn32tab", laid_math_bits_deBruijn32tab), ("math/bits.deBruijn64tab", laid_math_bits_deBruijn64tab), ("internal/strconv.uint64pow10", laid_internal_strconv_uint64pow10), ("straggle/print.ops", laid_straggle_print_ops), ("straggle/print.heads", laid_straggle_print_heads)], narrowed := true }
def PrintPartsUptoSaid : Prop := printPartsUptoRow.holds Tryd.pinned (OpenSpec.upto printPartsSpec)

/-- 'stragglelaw10.PrintApart', WHERE WHAT IT READS IS OF BULK AT MOST 1048576: true; the input reads as it did. -/
def printApartUptoRow : OpenClaim := { program := "ytafgincpoahefaadoor", sum := "77fea39c95c981a404096325ec965943dec656aedc2f965acf414993ff7c993d", func := "straggle/stragglelaw10.PrintApart", spec := "printApart", inPlace := ["internal/abi.NoEscape", "internal/bytealg.MakeNoZero"], unfollowed := true, recurses := true, named := ["internal/strconv.uint64pow10", "math/bits.deBruijn32tab", "math/bits.deBruijn64tab", "straggle/print.heads", "straggle/print.ops"], apart := false, laid := [("math/bits.deBruijn32tab", laid_math_bits_deBruijn32tab), ("math/bits.deBruijn64tab", laid_math_bits_deBruijn64tab), ("internal/strconv.uint64pow10", laid_internal_strconv_uint64pow10), ("straggle/print.ops", laid_straggle_print_ops), ("straggle/print.heads", laid_straggle_print_heads)], narrowed := true }
def PrintApartUptoSaid : Prop := printApartUptoRow.holds Tryd.pinned (OpenSpec.upto printApartSpec)

/-- 'stragglelaw01.NumBack', WHERE WHAT IT READS IS OF BULK AT MOST 1048576: true; the input reads as it did. -/
def numBackUptoRow : OpenClaim := { program := "ytafgincpoahefaadoor", sum := "77fea39c95c981a404096325ec965943dec656aedc2f965acf414993ff7c993d", func := "straggle/stragglelaw01.NumBack", spec := "numBack", inPlace := ["internal/reflectlite.TypeOf"], unfollowed := true, recurses := true, named := ["strconv.ErrRange", "strconv.ErrSyntax", "internal/strconv.uint64pow10", "math/bits.deBruijn32tab", "math/bits.deBruijn64tab"], apart := false, laid := [("math/bits.deBruijn32tab", laid_math_bits_deBruijn32tab), ("math/bits.deBruijn64tab", laid_math_bits_deBruijn64tab), ("internal/strconv.uint64pow10", laid_internal_strconv_uint64pow10), ("strconv.ErrRange", laid_strconv_ErrRange), ("strconv.ErrSyntax", laid_strconv_ErrSyntax)], narrowed := true }
def NumBackUptoSaid : Prop := numBackUptoRow.holds Tryd.pinned (OpenSpec.upto numBackSpec)

/-- 'stragglelaw01.NumOver', WHERE WHAT IT READS IS OF BULK AT MOST 1048576: true; the input reads as it did. -/
def numOverUptoRow : OpenClaim := { program := "ytafgincpoahefaadoor", sum := "77fea39c95c981a404096325ec965943dec656aedc2f965acf414993ff7c993d", func := "straggle/stragglelaw01.NumOver", spec := "numOver", inPlace := ["internal/reflectlite.TypeOf"], unfollowed := true, recurses := true, named := ["strconv.ErrRange", "strconv.ErrSyntax", "internal/strconv.uint64pow10", "math/bits.deBruijn32tab", "math/bits.deBruijn64tab"], apart := false, laid := [("math/bits.deBruijn32tab", laid_math_bits_deBruijn32tab), ("math/bits.deBruijn64tab", laid_math_bits_deBruijn64tab), ("internal/strconv.uint64pow10", laid_internal_strconv_uint64pow10), ("strconv.ErrRange", laid_strconv_ErrRange), ("strconv.ErrSyntax", laid_strconv_ErrSyntax)], narrowed := true }
def NumOverUptoSaid : Prop := numOverUptoRow.holds Tryd.pinned (OpenSpec.upto numOverSpec)

/-- 'stragglelaw01.NumSums', WHERE WHAT IT READS IS OF BULK AT MOST 1048576: true; the input reads as it did. -/
def numSumsUptoRow : OpenClaim := { program := "ytafgincpoahefaadoor", sum := "77fea39c95c981a404096325ec965943dec656aedc2f965acf414993ff7c993d", func := "straggle/stragglelaw01.NumSums", spec := "numSums", inPlace := ["internal/reflectlite.TypeOf"], unfollowed := true, recurses := true, named := ["strconv.ErrRange", "strconv.ErrSyntax", "internal/strconv.uint64pow10", "math/bits.deBruijn32tab", "math/bits.deBruijn64tab"], apart := false, laid := [("math/bits.deBruijn32tab", laid_math_bits_deBruijn32tab), ("math/bits.deBruijn64tab", laid_math_bits_deBruijn64tab), ("internal/strconv.uint64pow10", laid_internal_strconv_uint64pow10), ("strconv.ErrRange", laid_strconv_ErrRange), ("strconv.ErrSyntax", laid_strconv_ErrSyntax)], narrowed := true }
def NumSumsUptoSaid : Prop := numSumsUptoRow.holds Tryd.pinned (OpenSpec.upto numSumsSpec)

/-- 'stragglelaw01.NumTexts', WHERE WHAT IT READS IS OF BULK AT MOST 1048576: true; the input reads as it did. -/
def numTextsUptoRow : OpenClaim := { program := "ytafgincpoahefaadoor", sum := "77fea39c95c981a404096325ec965943dec656aedc2f965acf414993ff7c993d", func := "straggle/stragglelaw01.NumTexts", spec := "numTexts", inPlace := ["internal/reflectlite.TypeOf"], unfollowed := true, recurses := true, named := ["strconv.ErrRange", "strconv.ErrSyntax", "internal/strconv.uint64pow10", "math/bits.deBruijn32tab", "math/bits.deBruijn64tab"], apart := false, laid := [("math/bits.deBruijn32tab", laid_math_bits_deBruijn32tab), ("math/bits.deBruijn64tab", laid_math_bits_deBruijn64tab), ("internal/strconv.uint64pow10", laid_internal_strconv_uint64pow10), ("strconv.ErrRange", laid_strconv_ErrRange), ("strconv.ErrSyntax", laid_strconv_ErrSyntax)], narrowed := true }
def NumTextsUptoSaid : Prop := numTextsUptoRow.holds Tryd.pinned (OpenSpec.upto numTextsSpec)

/-- 'stragglelaw07.LexTells', WHERE WHAT IT READS IS OF BULK AT MOST 1048576: true; the input reads as it did. -/
def lexTellsUptoRow : OpenClaim := { program := "ytafgincpoahefaadoor", sum := "77fea39c95c981a404096325ec965943dec656aedc2f965acf414993ff7c993d", func := "straggle/stragglelaw07.LexTells", spec := "lexTells", inPlace := ["internal/reflectlite.TypeOf", "internal/bytealg.IndexByteString"], unfollowed := true, recurses := true, named := ["straggle/lex.ops", "strconv.ErrRange", "strconv.ErrSyntax", "internal/strconv.uint64pow10", "math/bits.deBruijn32tab", "math/bits.deBruijn64tab"], apart := false, laid := [("math/bits.deBruijn32tab", laid_math_bits_deBruijn32tab), ("math/bits.deBruijn64tab", laid_math_bits_deBruijn64tab), ("internal/strconv.uint64pow10", laid_internal_strconv_uint64pow10), ("strconv.ErrRange", laid_strconv_ErrRange), ("strconv.ErrSyntax", laid_strconv_ErrSyntax), ("straggle/lex.ops", laid_straggle_lex_ops)], narrowed := true }
def LexTellsUptoSaid : Prop := lexTellsUptoRow.holds Tryd.pinned (OpenSpec.upto lexTellsSpec)

/-- 'stragglelaw07.LexBack', WHERE WHAT IT READS IS OF BULK AT MOST 1048576: true; the input reads as it did. -/
def lexBackUptoRow : OpenClaim := { program := "ytafgincpoahefaadoor", sum := "77fea39c95c981a404096325ec965943dec656aedc2f965acf414993ff7c993d", func := "straggle/stragglelaw07.LexBack", spec := "lexBack", inPlace := ["internal/reflectlite.TypeOf", "internal/bytealg.IndexByteString"], unfollowed := true, recurses := true, named := ["straggle/lex.ops", "strconv.ErrRange", "strconv.ErrSyntax", "internal/strconv.uint64pow10", "math/bits.deBruijn32tab", "math/bits.deBruijn64tab"], apart := false, laid := [("math/bits.deBruijn32tab", laid_math_bits_deBruijn32tab), ("math/bits.deBruijn64tab", laid_math_bits_deBruijn64tab), ("internal/strconv.uint64pow10", laid_internal_strconv_uint64pow10), ("strconv.ErrRange", laid_strconv_ErrRange), ("strconv.ErrSyntax", laid_strconv_ErrSyntax), ("straggle/lex.ops", laid_straggle_lex_ops)], narrowed := true }
def LexBackUptoSaid : Prop := lexBackUptoRow.holds Tryd.pinned (OpenSpec.upto lexBackSpec)

/-- 'stragglelaw07.LexParts', WHERE WHAT IT READS IS OF BULK AT MOST 1048576: true; the input reads as it did. -/
def lexPartsUptoRow : OpenClaim := { program := "ytafgincpoahefaadoor", sum := "77fea39c95c981a404096325ec965943dec656aedc2f965acf414993ff7c993d", func := "straggle/stragglelaw07.LexParts", spec := "lexParts", inPlace := ["internal/reflectlite.TypeOf", "internal/bytealg.IndexByteString"], unfollowed := true, recurses := true, named := ["straggle/lex.ops", "strconv.ErrRange", "strconv.ErrSyntax", "internal/strconv.uint64pow10", "math/bits.deBruijn32tab", "math/bits.deBruijn64tab"], apart := false, laid := [("math/bits.deBruijn32tab", laid_math_bits_deBruijn32tab), ("math/bits.deBruijn64tab", laid_math_bits_deBruijn64tab), ("internal/strconv.uint64pow10", laid_internal_strconv_uint64pow10), ("strconv.ErrRange", laid_strconv_ErrRange), ("strconv.ErrSyntax", laid_strconv_ErrSyntax), ("straggle/lex.ops", laid_straggle_lex_ops)], narrowed := true }
def LexPartsUptoSaid : Prop := lexPartsUptoRow.holds Tryd.pinned (OpenSpec.upto lexPartsSpec)

/-- 'stragglelaw07.LexOne', WHERE WHAT IT READS IS OF BULK AT MOST 1048576: true; the input reads as it did. -/
def lexOneUptoRow : OpenClaim := { program := "ytafgincpoahefaadoor", sum := "77fea39c95c981a404096325ec965943dec656aedc2f965acf414993ff7c993d", func := "straggle/stragglelaw07.LexOne", spec := "lexOne", inPlace := ["internal/bytealg.IndexByteString", "internal/reflectlite.TypeOf"], unfollowed := true, recurses := true, named := ["straggle/lex.ops", "internal/strconv.uint64pow10", "math/bits.deBruijn32tab", "math/bits.deBruijn64tab", "strconv.ErrRange", "strconv.ErrSyntax"], apart := false, laid := [("math/bits.deBruijn32tab", laid_math_bits_deBruijn32tab), ("math/bits.deBruijn64tab", laid_math_bits_deBruijn64tab), ("internal/strconv.uint64pow10", laid_internal_strconv_uint64pow10), ("strconv.ErrRange", laid_strconv_ErrRange), ("strconv.ErrSyntax", laid_strconv_ErrSyntax), ("straggle/lex.ops", laid_straggle_lex_ops)], narrowed := true }
def LexOneUptoSaid : Prop := lexOneUptoRow.holds Tryd.pinned (OpenSpec.upto lexOneSpec)

/-- 'stragglelaw07.LexBad', WHERE WHAT IT READS IS OF BULK AT MOST 1048576: true; the input reads as it did. -/
def lexBadUptoRow : OpenClaim := { program := "ytafgincpoahefaadoor", sum := "77fea39c95c981a404096325ec965943dec656aedc2f965acf414993ff7c993d", func := "straggle/stragglelaw07.LexBad", spec := "lexBad", inPlace := ["internal/reflectlite.TypeOf", "internal/bytealg.IndexByteString"], unfollowed := true, recurses := true, named := ["straggle/lex.ops", "strconv.ErrRange", "strconv.ErrSyntax", "internal/strconv.uint64pow10", "math/bits.deBruijn32tab", "math/bits.deBruijn64tab"], apart := false, laid := [("math/bits.deBruijn32tab", laid_math_bits_deBruijn32tab), ("math/bits.deBruijn64tab", laid_math_bits_deBruijn64tab), ("internal/strconv.uint64pow10", laid_internal_strconv_uint64pow10), ("strconv.ErrRange", laid_strconv_ErrRange), ("strconv.ErrSyntax", laid_strconv_ErrSyntax), ("straggle/lex.ops", laid_straggle_lex_ops)], narrowed := true }
def LexBadUptoSaid : Prop := lexBadUptoRow.holds Tryd.pinned (OpenSpec.upto lexBadSpec)

/-- 'stragglelaw09.ParseMay', WHERE WHAT IT READS IS OF BULK AT MOST 1048576: true; the input reads as it did. -/
def parseMayUptoRow : OpenClaim := { program := "ytafgincpoahefaadoor", sum := "77fea39c95c981a404096325ec965943dec656aedc2f965acf414993ff7c993d", func := "straggle/stragglelaw09.ParseMay", spec := "parseMay", inPlace := ["internal/reflectlite.TypeOf", "internal/bytealg.IndexByteString"], unfollowed := true, recurses := true, named := ["straggle/lex.ops", "strconv.ErrRange", "strconv.ErrSyntax", "internal/strconv.uint64pow10", "math/bits.deBruijn32tab", "math/bits.deBruijn64tab"], apart := false, laid := [("math/bits.deBruijn32tab", laid_math_bits_deBruijn32tab), ("math/bits.deBruijn64tab", laid_math_bits_deBruijn64tab), ("internal/strconv.uint64pow10", laid_internal_strconv_uint64pow10), ("strconv.ErrRange", laid_strconv_ErrRange), ("strconv.ErrSyntax", laid_strconv_ErrSyntax), ("straggle/lex.ops", laid_straggle_lex_ops)], narrowed := true }
def ParseMayUptoSaid : Prop := parseMayUptoRow.holds Tryd.pinned (OpenSpec.upto parseMaySpec)

/-- 'stragglelaw09.ParseBlanks', WHERE WHAT IT READS IS OF BULK AT MOST 1048576: true; the input reads as it did. -/
def parseBlanksUptoRow : OpenClaim := { program := "ytafgincpoahefaadoor", sum := "77fea39c95c981a404096325ec965943dec656aedc2f965acf414993ff7c993d", func := "straggle/stragglelaw09.ParseBlanks", spec := "parseBlanks", inPlace := ["internal/reflectlite.TypeOf", "internal/bytealg.IndexByteString"], unfollowed := true, recurses := true, named := ["straggle/lex.ops", "strconv.ErrRange", "strconv.ErrSyntax", "internal/strconv.uint64pow10", "math/bits.deBruijn32tab", "math/bits.deBruijn64tab"], apart := false, laid := [("math/bits.deBruijn32tab", laid_math_bits_deBruijn32tab), ("math/bits.deBruijn64tab", laid_math_bits_deBruijn64tab), ("internal/strconv.uint64pow10", laid_internal_strconv_uint64pow10), ("strconv.ErrRange", laid_strconv_ErrRange), ("strconv.ErrSyntax", laid_strconv_ErrSyntax), ("straggle/lex.ops", laid_straggle_lex_ops)], narrowed := true }
def ParseBlanksUptoSaid : Prop := parseBlanksUptoRow.holds Tryd.pinned (OpenSpec.upto parseBlanksSpec)

/-- 'stragglelaw09.ParseCut', WHERE WHAT IT READS IS OF BULK AT MOST 1048576: true; the input reads as it did. -/
def parseCutUptoRow : OpenClaim := { program := "ytafgincpoahefaadoor", sum := "77fea39c95c981a404096325ec965943dec656aedc2f965acf414993ff7c993d", func := "straggle/stragglelaw09.ParseCut", spec := "parseCut", inPlace := ["internal/reflectlite.TypeOf", "internal/bytealg.IndexByteString"], unfollowed := true, recurses := true, named := ["straggle/lex.ops", "strconv.ErrRange", "strconv.ErrSyntax", "internal/strconv.uint64pow10", "math/bits.deBruijn32tab", "math/bits.deBruijn64tab"], apart := false, laid := [("math/bits.deBruijn32tab", laid_math_bits_deBruijn32tab), ("math/bits.deBruijn64tab", laid_math_bits_deBruijn64tab), ("internal/strconv.uint64pow10", laid_internal_strconv_uint64pow10), ("strconv.ErrRange", laid_strconv_ErrRange), ("strconv.ErrSyntax", laid_strconv_ErrSyntax), ("straggle/lex.ops", laid_straggle_lex_ops)], narrowed := true }
def ParseCutUptoSaid : Prop := parseCutUptoRow.holds Tryd.pinned (OpenSpec.upto parseCutSpec)

/-- 'stragglelaw09.ParseMore', WHERE WHAT IT READS IS OF BULK AT MOST 1048576: true; the input reads as it did. -/
def parseMoreUptoRow : OpenClaim := { program := "ytafgincpoahefaadoor", sum := "77fea39c95c981a404096325ec965943dec656aedc2f965acf414993ff7c993d", func := "straggle/stragglelaw09.ParseMore", spec := "parseMore", inPlace := ["internal/reflectlite.TypeOf", "internal/bytealg.IndexByteString"], unfollowed := true, recurses := true, named := ["straggle/lex.ops", "strconv.ErrRange", "strconv.ErrSyntax", "internal/strconv.uint64pow10", "math/bits.deBruijn32tab", "math/bits.deBruijn64tab"], apart := false, laid := [("math/bits.deBruijn32tab", laid_math_bits_deBruijn32tab), ("math/bits.deBruijn64tab", laid_math_bits_deBruijn64tab), ("internal/strconv.uint64pow10", laid_internal_strconv_uint64pow10), ("strconv.ErrRange", laid_strconv_ErrRange), ("strconv.ErrSyntax", laid_strconv_ErrSyntax), ("straggle/lex.ops", laid_straggle_lex_ops)], narrowed := true }
def ParseMoreUptoSaid : Prop := parseMoreUptoRow.holds Tryd.pinned (OpenSpec.upto parseMoreSpec)

end Rows
end Go.Proofs.YtafgincpoahefaaDoor
