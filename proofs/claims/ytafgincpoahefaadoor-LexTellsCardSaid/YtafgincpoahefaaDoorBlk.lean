/-
  A block of cells that nothing freezes: what it holds, and that it stays.
-/
import Derived.Test.YtafgincpoahefaaDoorBase
import Derived.Laws.Rows
namespace Go.Proofs.YtafgincpoahefaaDoor
open Go.RowKit

/-- block b holds just cs, cells of type t, none of them frozen -/
def Holds (w : World) (b : Nat) (t : TypeId) (cs : Array Value) : Prop := w.heap[b]? = some (.cells cs t (0, 0))

section
variable {w w' : World} {b : Nat} {t : TypeId} {cs : Array Value}
theorem Holds.size (h : Holds w b t cs) : b < w.heap.size := (Array.getElem?_eq_some_iff.1 h).1
theorem Holds.cell (h : Holds w b t cs) (i : Nat) : w.cell? ⟨b, i, none⟩ = cs[i]? := cell_of_row w b i cs t (0, 0) h
theorem Holds.cell0 (h : Holds w b t cs) : w.cell? ⟨b, 0, none⟩ = cs[0]? := h.cell 0
theorem Holds.free (h : Holds w b t cs) (i : Nat) : w.frozen? ⟨b, i, none⟩ = false := by
  have h' : w.heap[b]? = some (.cells cs t (0, 0)) := h
  simp [World.frozen?, h']
theorem Holds.fresh (w : World) (t : TypeId) (cs : Array Value) : Holds (w.alloc (.cells cs t)) w.heap.size t cs := World.alloc_heap_new w _
theorem Holds.fresh' {w : World} {b : Nat} (h : w.heap.size = b) (t : TypeId) (cs : Array Value) : Holds (w.alloc (.cells cs t)) b t cs := h ▸ Holds.fresh w t cs
theorem Holds.below {B : Nat} (h : Holds w b t cs) (hb : Below B w w') (hB : b < B) : Holds w' b t cs := (hb.block b hB).trans h
theorem Holds.later (h : Holds w b t cs) (hb : Below w.heap.size w w') : Holds w' b t cs := h.below hb h.size
theorem Holds.drew (h : Holds w b t cs) : Holds w.drew b t cs := h
theorem Holds.drewN (h : Holds w b t cs) (k : Nat) : Holds (w.drewN k) b t cs := h
theorem Holds.alloc (h : Holds w b t cs) (o : Obj) : Holds (w.alloc o) b t cs := (Below.heap_alloc w o b h.size).trans h
theorem Holds.set (h : Holds w b t cs) (i : Nat) (v : Value) : Holds (w.setCell ⟨b, i, none⟩ v) b t (cs.setIfInBounds i v) := by
  have h' : w.heap[b]? = some (.cells cs t (0, 0)) := h
  show (w.setCell ⟨b, i, none⟩ v).heap[b]? = _
  simp [World.setCell, Array.getElem?_modify, h']
theorem Holds.far (h : Holds w b t cs) {p : Addr} (hp : b ≠ p.block) (v : Value) : Holds (w.setCell p v) b t cs := (Below.heap_setCell w p v b hp).trans h
theorem Holds.grown {row : Option Nat} (h : Holds w b t cs) (hg : w.grownBy w' row) (hr : some b ≠ row) : Holds w' b t cs := (hg.block b h.size hr).trans h
theorem Holds.boxed {v : Value} (h : Holds w b t #[v]) : Boxed w b t v := h
end

/-- the results of a function whose first one lies in a cell -/
theorem results_first {P : Program} {fn : Func} {p q : Tmp} {ty : TypeId} (h : fn.results = #[.cell p ty, .tmp q]) (tmps : Array Value) (w : World) (b : Nat) (t : TypeId) (cs : Array Value) (d : TypeDesc)
    (hp : tmps.getD p undef = .pointer (some ⟨b, 0, none⟩)) (hb : Holds w b t cs) (hu : P.underlying ty = some d) (hd : (match d with | .struct _ | .array _ _ => true | _ => false) = true) (hi : (P.info? ty).map (·.size) = some cs.size) :
    (results fn tmps).run P w = .ok (.tuple #[.agg cs, tmps.getD q undef]) w := by
  have hp' : tmps[p]?.getD undef = .pointer (some ⟨b, 0, none⟩) := by simpa using hp
  simp [results, h, hp', asAddr, run_loadVar_row w b t ty cs (0, 0) d hb hu hd hi]
end Go.Proofs.YtafgincpoahefaaDoor
