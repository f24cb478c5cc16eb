/-
  tree: number, two, term, cmp.
  tree: cmp, Right; slices.ContainsFunc, IndexFunc over comparisons, steps.
-/
import Derived.Test.YtafgincpoahefaaGreatDoorOpenP
import Derived.Outline
namespace Go.Proofs.YtafgincpoahefaaGreatDoor
open Go.RowKit

/-- values of terms, comparisons, steps -/
def tmA (t : Tm) : Value := .agg #[.int .u8 t.kind, .int .i64 t.n, .int .i64 t.s, .int .i64 t.r]
def cmA (c : Cm) : Value := .agg #[.int .u8 c.op, .int .u8 c.l.kind, .int .i64 c.l.n, .int .i64 c.l.s, .int .i64 c.l.r, .int .u8 c.r.kind, .int .i64 c.r.n, .int .i64 c.r.s, .int .i64 c.r.r]
def stA (s : St) (v : Value) : Value := .agg #[.bool s.neg, .int .i64 s.kind, .int .i64 s.min, .int .i64 s.max, .bool s.strict, v]
theorem ret_bool {a b : Bool} (h : a = b) : Ending.returned (.bool a) = .returned (.bool b) := by rw [h]

theorem tmB_iff (t : Tm) : tmB t = true ↔ (-1099511627776 ≤ t.n ∧ t.n ≤ 1099511627776 ∧ t.kind < 7 ∧ 0 ≤ t.s ∧ t.s < 26 ∧ 0 ≤ t.r ∧ t.r < 26 ∧ (t.kind ≠ 0 ∨ t.s = 0) ∧ (t.kind = 5 ∨ t.kind = 6 ∨ t.r = 0)) := by
  simp only [tmB, twoB, Bool.and_eq_true, decide_eq_true_eq, Bool.or_eq_true, bne_iff_ne, ne_eq, beq_iff_eq]
  constructor
  · rintro ⟨⟨⟨⟨⟨⟨⟨⟨h1, h2⟩, h3⟩, h4⟩, h5⟩, h6⟩, h7⟩, h8⟩, h9⟩
    exact ⟨h1, h2, h3, h4, h5, h6, h7, h8, by omega⟩
  · rintro ⟨h1, h2, h3, h4, h5, h6, h7, h8, h9⟩
    exact ⟨⟨⟨⟨⟨⟨⟨⟨h1, h2⟩, h3⟩, h4⟩, h5⟩, h6⟩, h7⟩, h8⟩, by omega⟩
theorem tmB_no (t : Tm) (h : ¬ (-1099511627776 ≤ t.n ∧ t.n ≤ 1099511627776 ∧ t.kind < 7 ∧ 0 ≤ t.s ∧ t.s < 26 ∧ 0 ≤ t.r ∧ t.r < 26 ∧ (t.kind ≠ 0 ∨ t.s = 0) ∧ (t.kind = 5 ∨ t.kind = 6 ∨ t.r = 0))) : tmB t = false :=
  Bool.eq_false_iff.2 fun g => h ((tmB_iff t).1 g)

end Go.Proofs.YtafgincpoahefaaGreatDoor

namespace Go.Proofs.YtafgincpoahefaaGreatDoor
open Go.RowKit

/-- the place of the first that is so; -1: none is -/
def firstI {α : Type} (p : α → Bool) (l : List α) : Int := if l.any p = true then (l.findIdx p : Int) else -1
theorem firstI_at {α : Type} (p : α → Bool) (l : List α) (k : Nat) (x : α) (hx : l[k]? = some x) (hp : p x = true) (hno : ∀ (j : Nat) (y : α), j < k → l[j]? = some y → p y = false) : firstI p l = k := by
  obtain ⟨hk, rfl⟩ := List.getElem?_eq_some_iff.1 hx
  unfold firstI
  rw [if_pos (List.any_eq_true.2 ⟨_, List.getElem_mem hk, hp⟩)]
  congr 1
  rw [List.findIdx_eq hk]
  exact ⟨hp, fun j hj => hno j _ hj (List.getElem?_eq_getElem (by omega))⟩
theorem firstI_none {α : Type} (p : α → Bool) (l : List α) (hno : ∀ (j : Nat) (y : α), j < l.length → l[j]? = some y → p y = false) : firstI p l = -1 := by
  unfold firstI
  rw [if_neg]
  intro h
  obtain ⟨y, hy, hp⟩ := List.any_eq_true.1 h
  obtain ⟨j, hj, rfl⟩ := List.getElem_of_mem hy
  rw [hno j _ hj (List.getElem?_eq_getElem hj)] at hp
  cases hp
theorem firstI_pos {α : Type} (p : α → Bool) (l : List α) : decide (0 ≤ firstI p l) = l.any p := by
  unfold firstI
  split
  · rename_i h; rw [h]; simp
  · rename_i h; simp only [Bool.not_eq_true] at h; rw [h]; rfl

/-- what a pattern reads as -/
def PatV (w : World) (v : Value) (p : Pt) : Prop := ∃ u, v = .agg #[u, .int .i64 p.window] ∧ StepsV w u p.steps
end Go.Proofs.YtafgincpoahefaaGreatDoor
