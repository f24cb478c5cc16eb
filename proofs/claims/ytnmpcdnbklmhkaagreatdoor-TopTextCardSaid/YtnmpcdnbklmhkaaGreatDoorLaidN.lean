/-
 What the rows of layer 1 list: a world that holds it; what a walk has of it.
-/
import Derived.Test.YtnmpcdnbklmhkaaGreatDoorCards
import Derived.Test.YtnmpcdnbklmhkaaGreatDoorTie
import Derived.Test.YtnmpcdnbklmhkaaGreatDoorQAa
import Derived.ProofKit
import Derived.Deep.DeepHandedRow
import Derived.Deep.DeepWitnessRowRef
import Derived.Stop.LaidTwo
namespace Go.Proofs.YtnmpcdnbklmhkaaGreatDoor
set_option maxRecDepth 100000
open Go.ChangeShapes Go.WideShapes Go.ChangeAt Go.RowKit
theorem own:ownKnob Tryz.prog.godebug=none:=by kernel_rfl
noncomputable def low:Nat:=(World.holding Tryz.prog default ⟨#[],#[],[]⟩).heap.size
def setRow (h:Array Obj) (b:Nat) (cs:Array Value):Array Obj:=h.modify b fun
 |.cells _ t frozen=>.cells cs t frozen
 |o=>o
def u8s (l:List Int):Array Value:=(l.map (Value.int .u8)).toArray
def tab32:List Int:=[0,1,28,2,29,14,24,3,30,22,20,15,25,17,4,8,31,27,13,23,21,19,16,7,26,12,18,6,11,5,10,9]
def tab64:List Int:=[0,1,56,2,57,49,28,3,61,58,42,50,38,29,17,4,62,47,59,36,45,43,51,22,53,39,33,30,24,18,12,5,63,55,48,27,60,41,37,16,46,35,44,21,52,32,23,11,54,26,40,15,34,20,31,10,25,14,19,9,13,8,7,6]
noncomputable def J5 (os:Os):World:=
 let w0:=World.holding Tryz.prog os ⟨#[.cells #[.string ⟨#[118,97,108,117,101,32,111,117,116,32,111,102,32,114,97,110,103,101]⟩] 362,.cells #[.string ⟨#[105,110,118,97,108,105,100,32,115,121,110,116,97,120]⟩] 362],#[],[]⟩
 {w0 with heap:=setRow (setRow (setRow (setRow (setRow w0.heap 8 (u8s tab32)) 9 (u8s tab64)) 5 (Lib.pow10Tab.map (Value.int .u64)).toArray)
   3 #[.iface 360 (.pointer (some ⟨low,0,none⟩))]) 7 #[.iface 360 (.pointer (some ⟨low+1,0,none⟩))]}
theorem UO:(Tryz.prog.globals[5]?).map (·.type)=some 250:=by kernel_rfl
end Go.Proofs.YtnmpcdnbklmhkaaGreatDoor
