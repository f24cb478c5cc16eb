/-
  A package-level array of strings that a row lists; lex's ways of comparing.
-/
import Derived.Test.YtafgincpoahefaaDoorLexP
import Derived.Laws.Rows
namespace Go.Proofs.YtafgincpoahefaaDoor
open Go.ChangeShapes Go.WideShapes Go.ChangeAt Go.RowKit

theorem ba_of_list {s : ByteArray} {l : List UInt8} (h : s.data.toList = l) : s = ⟨l.toArray⟩ := by rw [← h, Lib.mk_data]

def strs (ls : List (List UInt8)) : Array Value := (ls.map fun l => Value.string ⟨l.toArray⟩).toArray
def strsData {H : Type} (ls : List (List UInt8)) : DataW H := .agg (ls.map fun l => .lit (.string l))

theorem cells_of_strs {H : Type} {enc : TypeId × Value → H} {P : Program} {w : World} {base : Nat} {sp : Nat → Bool} {held : Bool} {fuel : Nat} {t e : TypeId} {n : Nat} {cs : List Value} {ls : List (List UInt8)} {p : List MemPlace}
    (ht : P.underlying t = some (.array n e)) (he : P.underlying e = some .string) (hce : P.cellsOf e = 1) (hct : P.cellsOf t = n)
    (h : DataW.trod enc P w base sp held fuel t cs = some (strsData ls, p)) : cs = ls.map fun l => Value.string ⟨l.toArray⟩ := by
  cases fuel with
  | zero => simp [DataW.trod] at h
  | succ fuel =>
    simp only [DataW.trod, ht, hce, hct, Nat.mul_one] at h
    split at h
    · rename_i hl
      obtain ⟨xs, hm, hx⟩ := Option.map_eq_some_iff.1 h
      have hxs : xs.map (·.1) = ls.map fun l => (DataW.lit (.string l) : DataW H) := by
        have := congrArg Prod.fst hx
        simpa [strsData] using this
      have hxl : xs.length = n := by simpa using Lib.mapM_length hm
      have hzl : ls.length = n := by
        have := congrArg List.length hxs
        simp at this
        omega
      apply List.ext_getElem?
      intro i
      by_cases hi : i < n
      · obtain ⟨b, hb, hf⟩ := Lib.mapM_at hm i i (by simp [hi])
        obtain ⟨z, hc, rfl, _⟩ := DataW.trod_string he hf
        have h1 : cs[i]? = some (.string z) := by
          have := congrArg (·[0]?) hc
          simpa [List.getElem?_take, List.getElem?_drop] using this
        have h2 : (xs.map (·.1))[i]? = some (DataW.lit (.string z.data.toList) : DataW H) := by simp [hb]
        rw [hxs] at h2
        simp only [List.getElem?_map, Option.map_eq_some_iff, DataW.lit.injEq, Lit.string.injEq] at h2
        obtain ⟨z', hz', hz2⟩ := h2
        rw [h1, List.getElem?_map, hz', Option.map_some, ba_of_list hz2.symm]
      · rw [List.getElem?_eq_none (by omega), List.getElem?_eq_none (by simp; omega)]
    · cases h

theorem strs_of_head {P : Program} {W : World} {name : String} {ls : List (List UInt8)} {rest : List (String × DataW Unit)} {g : Nat} {t e : TypeId} {n : Nat}
    (hg : P.globalNamed name = some g) (hty : (P.globals[g]?).map (·.type) = some t) (ht : P.underlying t = some (.array n e)) (he : P.underlying e = some .string) (hce : P.cellsOf e = 1) (hct : P.cellsOf t = n)
    (h : laidMet P ((name, strsData ls) :: rest) W) : W.var? P name = some (strs ls) := by
  obtain ⟨ps, ⟨g', t', cs, fuel, p, q, hg', ht', hvar, hd, _, _⟩, _⟩ := h
  obtain rfl := Option.some.inj (hg.symm.trans hg')
  obtain rfl := Option.some.inj (hty.symm.trans ht')
  rw [hvar]
  have := cells_of_strs ht he hce hct hd
  congr 1
  unfold strs
  rw [← this]

theorem var_block {P : Program} {W : World} {name : String} {g : Nat} {cs : Array Value} (hg : P.globalNamed name = some g) (h : W.var? P name = some cs) : ∃ t fr, W.heap[g]? = some (.cells cs t fr) := by
  simp only [World.var?, hg, Option.bind_some] at h
  split at h
  · rename_i hh
    obtain rfl := Option.some.inj h
    exact ⟨_, _, hh⟩
  · cases h

theorem gOps : Tryd.prog.globalNamed "straggle/lex.ops" = some 2 := by kernel_rfl
theorem gOpsType : (Tryd.prog.globals[2]?).map (·.type) = some 95 := by kernel_rfl

/-- the library's variables, and lex's ways of comparing -/
structure GL (w : World) : Prop where
  g : G w
  ops : w.var? Tryd.prog "straggle/lex.ops" = some (strs ((List.range 7).map opText))
theorem GL.mono' {w w' : World} {B : Nat} (hb : Below B w w') (hB : w.heap.size ≤ B) (h : GL w) : GL w' := ⟨h.g.mono' hb hB, Joins.var_stays gOps h.ops hb hB⟩
theorem GL.mono {w w' : World} (hb : Below w.heap.size w w') (h : GL w) : GL w' := h.mono' hb (Nat.le_refl _)
theorem GL.alloc {w : World} (h : GL w) (o : Obj) : GL (w.alloc o) := h.mono ((Below.refl _ _).alloc (Nat.le_refl _) o)

def opS (k : Nat) : ByteArray := ⟨(opText k).toArray⟩
theorem GL.cell {w : World} (h : GL w) (k : Nat) (hk : k < 7) : w.cell? ⟨2, k, none⟩ = some (.string (opS k)) := by
  rw [World.var?_cell gOps h.ops]
  have : k = 0 ∨ k = 1 ∨ k = 2 ∨ k = 3 ∨ k = 4 ∨ k = 5 ∨ k = 6 := by omega
  rcases this with rfl | rfl | rfl | rfl | rfl | rfl | rfl <;> rfl
end Go.Proofs.YtafgincpoahefaaDoor
