/-
  straggleref07, plain: the ways of comparing, the longer ones first; leads taken.
-/
import Derived.Test.YtafgincpoahefaaDoorLex6
namespace Go.Proofs.YtafgincpoahefaaDoor
open Go.RowKit

/-- the ways of comparing, the longer ones first -/
def opR : Nat → List UInt8
  | 0 => [60, 61] | 1 => [33, 61] | 2 => [62, 61] | 3 => [60] | 4 => [61] | 5 => [62] | _ => []
/-- their codes -/
def opC : Nat → Nat
  | 0 => 2 | 1 => 4 | 2 => 6 | 3 => 1 | 4 => 3 | 5 => 5 | _ => 0
/-- is it ahead? -/
def opB (k : Nat) (l : List UInt8) : Bool := decide (l.take (opR k).length = opR k)

theorem op_first (c : UInt8) (r : List UInt8) : ∃ K, K ≤ 6 ∧ (∀ j, j < K → opB j (c :: r) = false) ∧ (K < 6 → opB K (c :: r) = true ∧ opOf (c :: r) = opC K) ∧ (K = 6 → opOf (c :: r) = 0) := by
  have two : ∀ x : UInt8, ((c :: r).take 2 = [x, 61]) ↔ (c = x ∧ r.head? = some 61) := by
    intro x
    cases r with
    | nil => simp
    | cons y r => simp
  have one : ∀ x : UInt8, ((c :: r).take 1 = [x]) ↔ c = x := by intro x; simp
  have b0 : opB 0 (c :: r) = decide (c = 60 ∧ r.head? = some 61) := by unfold opB; exact decide_eq_decide.2 (two 60)
  have b1 : opB 1 (c :: r) = decide (c = 33 ∧ r.head? = some 61) := by unfold opB; exact decide_eq_decide.2 (two 33)
  have b2 : opB 2 (c :: r) = decide (c = 62 ∧ r.head? = some 61) := by unfold opB; exact decide_eq_decide.2 (two 62)
  have b3 : opB 3 (c :: r) = decide (c = 60) := by unfold opB; exact decide_eq_decide.2 (one 60)
  have b4 : opB 4 (c :: r) = decide (c = 61) := by unfold opB; exact decide_eq_decide.2 (one 61)
  have b5 : opB 5 (c :: r) = decide (c = 62) := by unfold opB; exact decide_eq_decide.2 (one 62)
  have hop : opOf (c :: r) = if c = 60 then (if r.head? = some 61 then 2 else 1) else if c = 61 then 3 else if c = 33 then (if r.head? = some 61 then 4 else 0) else if c = 62 then (if r.head? = some 61 then 6 else 5) else 0 := rfl
  have lt : ∀ (p : Nat → Prop) (n : Nat), n ≤ 6 → (0 < n → p 0) → (1 < n → p 1) → (2 < n → p 2) → (3 < n → p 3) → (4 < n → p 4) → (5 < n → p 5) → ∀ j, j < n → p j := by
    intro p n hn p0 p1 p2 p3 p4 p5 j hj
    have : j = 0 ∨ j = 1 ∨ j = 2 ∨ j = 3 ∨ j = 4 ∨ j = 5 := by omega
    rcases this with rfl | rfl | rfl | rfl | rfl | rfl
    · exact p0 hj
    · exact p1 hj
    · exact p2 hj
    · exact p3 hj
    · exact p4 hj
    · exact p5 hj
  have mk : ∀ K, K ≤ 6 → ((0 < K → opB 0 (c :: r) = false) ∧ (1 < K → opB 1 (c :: r) = false) ∧ (2 < K → opB 2 (c :: r) = false) ∧ (3 < K → opB 3 (c :: r) = false) ∧ (4 < K → opB 4 (c :: r) = false) ∧ (5 < K → opB 5 (c :: r) = false)) →
      (K < 6 → opB K (c :: r) = true ∧ opOf (c :: r) = opC K) → (K = 6 → opOf (c :: r) = 0) → ∃ K, K ≤ 6 ∧ (∀ j, j < K → opB j (c :: r) = false) ∧ (K < 6 → opB K (c :: r) = true ∧ opOf (c :: r) = opC K) ∧ (K = 6 → opOf (c :: r) = 0) :=
    fun K h1 ⟨p0, p1, p2, p3, p4, p5⟩ h3 h4 => ⟨K, h1, lt _ K h1 p0 p1 p2 p3 p4 p5, h3, h4⟩
  rw [b0, b1, b2, b3, b4, b5, hop] at mk
  clear lt two one
  by_cases h61 : r.head? = some 61
  · by_cases e0 : c = 60
    · exact mk 0 (by omega) (by simp) (fun _ => ⟨by rw [b0]; simp [e0, h61], by simp [e0, h61, opC]⟩) (by omega)
    by_cases e1 : c = 33
    · exact mk 1 (by omega) (by simp [e0]) (fun _ => ⟨by rw [b1]; simp [e1, h61], by simp [e1, h61, opC]⟩) (by omega)
    by_cases e2 : c = 62
    · exact mk 2 (by omega) (by simp [e0, e1]) (fun _ => ⟨by rw [b2]; simp [e2, h61], by simp [e2, h61, opC]⟩) (by omega)
    by_cases e3 : c = 61
    · exact mk 4 (by omega) (by simp [e0, e1, e2]) (fun _ => ⟨by rw [b4]; simp [e3], by simp [e3, opC]⟩) (by omega)
    exact mk 6 (by omega) (by simp [e0, e1, e2, e3]) (by omega) (fun _ => by simp [e0, e1, e2, e3])
  · by_cases e0 : c = 60
    · exact mk 3 (by omega) (by simp [h61]) (fun _ => ⟨by rw [b3]; simp [e0], by simp [e0, h61, opC]⟩) (by omega)
    by_cases e2 : c = 62
    · exact mk 5 (by omega) (by simp [h61, e2]) (fun _ => ⟨by rw [b5]; simp [e2], by simp [e2, h61, opC]⟩) (by omega)
    by_cases e3 : c = 61
    · exact mk 4 (by omega) (by simp [e0, h61]) (fun _ => ⟨by rw [b4]; simp [e3], by simp [e3, opC]⟩) (by omega)
    exact mk 6 (by omega) (by simp [e0, h61, e2, e3]) (by omega) (fun _ => by simp [e0, e2, e3, h61])
theorem opText_C (k : Nat) (h : k < 6) : opText (opC k) = opR k ∧ 0 < opC k ∧ opC k < 7 ∧ 1 ≤ (opR k).length ∧ (opR k).length ≤ 2 := by
  have : k = 0 ∨ k = 1 ∨ k = 2 ∨ k = 3 ∨ k = 4 ∨ k = 5 := by omega
  rcases this with rfl | rfl | rfl | rfl | rfl | rfl <;> decide

theorem take_lead (p : UInt8 → Bool) (l : List UInt8) : l.take (lead p l) = l.takeWhile p := by
  unfold lead
  exact (List.prefix_iff_eq_take.1 (List.takeWhile_prefix p)).symm
theorem all_take_lead (p : UInt8 → Bool) (l : List UInt8) : (l.take (lead p l)).all p = true := by
  rw [take_lead]; exact List.all_takeWhile

/-- where the loop over a text stands: its tokens up to a place -/
def RInv (l : List UInt8) (a : Nat) (ts : List Tok) : Prop := ∃ done, yields 0 l = done ++ yields a (l.drop a) ∧ good done ∧ ts = done.map (·.t) ∧ done.length ≤ a ∧ a ≤ l.length
theorem rinv_start (l : List UInt8) : RInv l 0 [] := ⟨[], by simp, fun y hy => by simp at hy, rfl, Nat.le_refl _, Nat.zero_le _⟩
theorem RInv.le {l : List UInt8} {a : Nat} {ts : List Tok} (h : RInv l a ts) : ts.length ≤ a ∧ a ≤ l.length := by
  obtain ⟨d, _, _, rfl, h1, h2⟩ := h
  exact ⟨by simpa using h1, h2⟩
theorem RInv.blank {l : List UInt8} {a : Nat} {ts : List Tok} (h : RInv l a ts) (ha : a < l.length) (hb : l[a] = 32) : RInv l (a + 1) ts := by
  obtain ⟨d, h1, h2, h3, h4, h5⟩ := h
  refine ⟨d, ?_, h2, h3, by omega, by omega⟩
  rw [h1, List.drop_eq_getElem_cons ha, hb, yields_blank]
theorem lead_bl_zero {l : List UInt8} {a : Nat} (ha : a < l.length) (hb : blB l[a] = false) : lead blB (l.drop a) = 0 := by
  rw [List.drop_eq_getElem_cons ha, lead_zero _ _ _ hb]
theorem RInv.tok {l : List UInt8} {a : Nat} {ts : List Tok} (h : RInv l a ts) (ha : a < l.length) (hb : blB l[a] = false) {k n : Int} {m : Nat} (ht : tokOf (l.drop a) = (k, n, m)) (hm : m ≠ 0) : RInv l (a + m) (ts ++ [⟨k, n, a⟩]) := by
  obtain ⟨d, h1, h2, h3, h4, h5⟩ := h
  have hz := lead_bl_zero ha hb
  have hne : (l.drop a).drop (lead blB (l.drop a)) ≠ [] := by
    rw [hz, List.drop_zero, List.drop_eq_getElem_cons ha]; exact List.cons_ne_nil _ _
  have hle := tokOf_le (l.drop a)
  have hy := yields_more a (l.drop a) hne (by rw [hz, List.drop_zero, ht]; exact hm)
  rw [hz, List.drop_zero, ht] at hy
  rw [ht] at hle
  simp only [List.length_drop] at hle
  refine ⟨d ++ [⟨⟨k, n, a⟩, m⟩], ?_, ?_, ?_, ?_, by omega⟩
  · rw [h1, hy]
    simp [List.drop_drop]
  · intro y hy
    rcases List.mem_append.1 hy with hy | hy
    · exact h2 y hy
    · obtain rfl := List.mem_singleton.1 hy
      exact hm
  · rw [h3]; simp
  · simp; omega
theorem RInv.bad {l : List UInt8} {a : Nat} {ts : List Tok} (h : RInv l a ts) (hs : l.length ≤ 2000) (ha : a < l.length) (hb : blB l[a] = false) (ht : (tokOf (l.drop a)).2.2 = 0) : allOf l = ([], (a : Int), 70) := by
  obtain ⟨d, h1, h2, h3, h4, h5⟩ := h
  have hz := lead_bl_zero ha hb
  have hne : (l.drop a).drop (lead blB (l.drop a)) ≠ [] := by
    rw [hz, List.drop_zero, List.drop_eq_getElem_cons ha]; exact List.cons_ne_nil _ _
  have hy := yields_none a (l.drop a) hne (by rw [hz, List.drop_zero]; exact ht)
  rw [hz, List.drop_zero] at hy
  have hd : d.find? (fun y => y.m == 0) = none := List.find?_eq_none.2 fun y hy => by simpa using h2 y hy
  unfold allOf
  rw [if_neg (by omega), h1, hy, List.find?_append, hd]
  simp
theorem RInv.done {l : List UInt8} {a : Nat} {ts : List Tok} (h : RInv l a ts) (hs : l.length ≤ 2000) (ha : a = l.length) : allOf l = (ts ++ [⟨0, 0, l.length⟩], 0, 0) := by
  obtain ⟨d, h1, h2, h3, h4, h5⟩ := h
  have hy : yields a (l.drop a) = [] := yields_end _ _ (by rw [ha]; simp)
  rw [hy, List.append_nil] at h1
  have hd : d.find? (fun y => y.m == 0) = none := List.find?_eq_none.2 fun y hy => by simpa using h2 y hy
  unfold allOf
  rw [if_neg (by omega), h1, hd, h3]
end Go.Proofs.YtafgincpoahefaaDoor
