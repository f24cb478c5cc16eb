/-
  What all contracts lean on: slices of integers and bytes in memory, the package-level variables of the library.
-/
import Derived.Test.YtafgincpoahefaaDoorRange
import Derived.Test.YtafgincpoahefaaDoorShelf
import Derived.Test.YtafgincpoahefaaDoorProg
import Derived.BigQuiet
import Derived.Deep.QuietTactic
import Derived.Lib.SmallJoins
import Derived.Lib.LaidTab
namespace Go.Proofs.YtafgincpoahefaaDoor
open Go.RowKit


/-- a slice of integers of kind k at a, that holds l -/
def IntsAt (w : World) (k : IntKind) (a : Option Addr) (l : List Int) : Prop :=
  l.length ≤ 140737488351232 ∧ (l = [] ∨ ∃ b off, a = some ⟨b, off, none⟩ ∧ ∀ i, i < l.length → w.cell? ⟨b, off + i, none⟩ = some (.int k (l.getD i 0)))

theorem cell_lt {w : World} {a : Addr} {v : Value} (h : w.cell? a = some v) : a.block < w.heap.size := by
  unfold World.cell? at h
  cases ho : w.heap[a.block]? with
  | none => simp [ho] at h
  | some o => exact (Array.getElem?_eq_some_iff.1 ho).1
theorem cell_mono {w w' : World} {B : Nat} (hb : Below B w w') (hB : w.heap.size ≤ B) {a : Addr} {v : Value} (h : w.cell? a = some v) : w'.cell? a = some v :=
  (hb.cell (Nat.lt_of_lt_of_le (cell_lt h) hB)).trans h
theorem IntsAt.mono {w w' : World} {k : IntKind} {a : Option Addr} {l : List Int} (hb : Below w.heap.size w w') (h : IntsAt w k a l) : IntsAt w' k a l := by
  obtain ⟨h1, h2 | ⟨b, off, ha, hc⟩⟩ := h
  · exact ⟨h1, .inl h2⟩
  · exact ⟨h1, .inr ⟨b, off, ha, fun i hi => cell_mono hb (Nat.le_refl _) (hc i hi)⟩⟩

theorem bcell {W w1 : World} (hb : Below W.heap.size W w1) : (∀ b o, b < W.heap.size → w1.cell? ⟨b, o, none⟩ = W.cell? ⟨b, o, none⟩) ∧ (∀ b o, b < W.heap.size → w1.frozen? ⟨b, o, none⟩ = W.frozen? ⟨b, o, none⟩) :=
  ⟨fun b o h => hb.cell (p := ⟨b, o, none⟩) h, fun b o h => hb.frozen (p := ⟨b, o, none⟩) h⟩

theorem below_grow (w : World) (k : Nat) (os : Array Obj) : Below w.heap.size w (Sort.grow (w.drewN k) os) := by
  refine ⟨rfl, rfl, rfl, by show w.heap.size ≤ (w.heap ++ os).size; simp, fun i hi => ?_⟩
  show (w.heap ++ os)[i]? = _
  rw [Array.getElem?_append_left hi]
theorem below_drewN (B : Nat) (w : World) (k : Nat) : Below B w (w.drewN k) := ⟨rfl, rfl, rfl, Nat.le_refl _, fun _ _ => rfl⟩

theorem gRange : Tryd.prog.globalNamed "strconv.ErrRange" = some 1 := by kernel_rfl
theorem gSyntax : Tryd.prog.globalNamed "strconv.ErrSyntax" = some 4 := by kernel_rfl
theorem gPow : Tryd.prog.globalNamed "internal/strconv.uint64pow10" = some 5 := by kernel_rfl

/-- the library's variables, as the program's text lays them -/
structure G (w : World) : Prop where
  pow : Lib.TabIs Tryd.prog w "internal/strconv.uint64pow10" .u64 Lib.pow10Tab
  err : ∃ (a b : Addr) (ca cb : Array Value) (ta tb : TypeId), w.var? Tryd.prog "strconv.ErrRange" = some #[.iface 199 (.pointer (some a))] ∧ w.var? Tryd.prog "strconv.ErrSyntax" = some #[.iface 199 (.pointer (some b))] ∧
    b ≠ a ∧ w.heap[a.block]? = some (.cells ca ta (0, 0)) ∧ w.heap[b.block]? = some (.cells cb tb (0, 0))

theorem block_mono {w w' : World} {B : Nat} (hb : Below B w w') (hB : w.heap.size ≤ B) {b : Nat} {o : Obj} (h : w.heap[b]? = some o) : w'.heap[b]? = some o :=
  (hb.block b (Nat.lt_of_lt_of_le (Array.getElem?_eq_some_iff.1 h).1 hB)).trans h
theorem G.mono' {w w' : World} {B : Nat} (hb : Below B w w') (hB : w.heap.size ≤ B) (h : G w) : G w' := by
  obtain ⟨h1, a, b, ca, cb, ta, tb, h2, h3, h4, h5, h6⟩ := h
  exact ⟨Joins.tab_stays gPow h1 hb hB, a, b, ca, cb, ta, tb, Joins.var_stays gRange h2 hb hB, Joins.var_stays gSyntax h3 hb hB, h4, block_mono hb hB h5, block_mono hb hB h6⟩
theorem G.mono {w w' : World} (hb : Below w.heap.size w w') (h : G w) : G w' := h.mono' hb (Nat.le_refl _)
theorem G.alloc {w : World} (h : G w) (o : Obj) : G (w.alloc o) := h.mono ((Below.refl _ _).alloc (Nat.le_refl _) o)

end Go.Proofs.YtafgincpoahefaaDoor
