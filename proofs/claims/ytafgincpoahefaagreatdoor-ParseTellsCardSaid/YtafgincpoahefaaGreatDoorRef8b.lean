/-
  straggleref08: number, term, Right, Great.
  straggleref08: Right, Great.
-/
import Derived.Test.YtafgincpoahefaaGreatDoorTree2
import Derived.Test.YtafgincpoahefaaGreatDoorGround
namespace Go.Proofs.YtafgincpoahefaaGreatDoor
open Go.RowKit

end Go.Proofs.YtafgincpoahefaaGreatDoor

namespace Go.Proofs.YtafgincpoahefaaGreatDoor
open Go.RowKit

theorem stB_no {s : St} {j : Nat} {c : Cm} (hj : s.cmps[j]? = some c) (hc : cmB c = false) : stB s = false := by
  cases h : stB s with
  | false => rfl
  | true =>
    simp only [stB, Bool.and_eq_true, List.all_eq_true] at h
    rw [h.2 c (List.mem_of_getElem? hj)] at hc
    cases hc
theorem stB_yes {s : St} (h1 : numB s.kind = true) (h2 : numB s.min = true) (h3 : numB s.max = true) (h : ∀ (j : Nat) (c : Cm), j < s.cmps.length → s.cmps[j]? = some c → cmB c = true) : stB s = true := by
  simp only [stB, Bool.and_eq_true, List.all_eq_true]
  refine ⟨⟨⟨h1, h2⟩, h3⟩, fun c hc => ?_⟩
  obtain ⟨j, hj, rfl⟩ := List.getElem_of_mem hc
  exact h j _ hj (List.getElem?_eq_getElem hj)
theorem ptB_no {p : Pt} {j : Nat} {s : St} (hj : p.steps[j]? = some s) (hs : stB s = false) : ptB p = false := by
  cases h : ptB p with
  | false => rfl
  | true =>
    simp only [ptB, Bool.and_eq_true, List.all_eq_true] at h
    rw [h.2 s (List.mem_of_getElem? hj)] at hs
    cases hs
theorem ptB_yes {p : Pt} (h1 : 0 < p.steps.length) (h2 : p.steps.length ≤ 26) (h3 : numB p.window = true) (h : ∀ (j : Nat) (s : St), j < p.steps.length → p.steps[j]? = some s → stB s = true) : ptB p = true := by
  simp only [ptB, Bool.and_eq_true, List.all_eq_true, decide_eq_true_eq]
  refine ⟨⟨⟨h1, h2⟩, h3⟩, fun c hc => ?_⟩
  obtain ⟨j, hj, rfl⟩ := List.getElem_of_mem hc
  exact h j _ hj (List.getElem?_eq_getElem hj)
theorem upto_next {α : Type} {l : List α} {p : α → Bool} {k : Nat} {x : α} (h : ∀ (j : Nat) (y : α), j < k → l[j]? = some y → p y = true) (hx : l[k]? = some x) (hp : p x = true) : ∀ (j : Nat) (y : α), j < k + 1 → l[j]? = some y → p y = true := fun j y hj hy => by
  rcases Nat.lt_or_ge j k with hjk | hjk
  · exact h j y hjk hy
  · obtain rfl : j = k := by omega
    rw [hx] at hy
    obtain rfl := Option.some.inj hy
    exact hp

theorem great_yes {p : Pt} {j : Nat} {s : St} (hj : p.steps[j]? = some s) (hj40 : j ≤ 40) (h : 20 < s.cmps.length) : greatB p = true := by
  unfold greatB
  rw [Bool.or_eq_true]
  left
  rw [List.any_eq_true]
  refine ⟨s, ?_, by simpa using h⟩
  have : (p.steps.take 41)[j]? = some s := by rw [List.getElem?_take, if_pos (by omega)]; exact hj
  exact List.mem_of_getElem? this
theorem great_no {p : Pt} (k : Nat) (hk : k = p.steps.length ∨ k = 41) (h : ∀ (j : Nat) (s : St), j < k → p.steps[j]? = some s → decide (s.cmps.length ≤ 20) = true) : greatB p = decide (40 < p.steps.length) := by
  unfold greatB
  have : (p.steps.take 41).any (fun s => decide (20 < s.cmps.length)) = false := by
    rw [List.any_eq_false]
    intro s hs
    obtain ⟨j, hj, rfl⟩ := List.getElem_of_mem hs
    rw [List.length_take] at hj
    have := h j _ (by omega) (List.getElem?_eq_getElem (by omega))
    rw [List.getElem_take]
    simp only [decide_eq_true_eq] at this ⊢
    omega
  rw [this, Bool.false_or]

end Go.Proofs.YtafgincpoahefaaGreatDoor
