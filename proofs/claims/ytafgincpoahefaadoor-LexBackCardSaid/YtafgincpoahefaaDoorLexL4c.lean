/-
  stragglelaw07.LexBack: true of any text; the cases joined.
-/
import Derived.Test.YtafgincpoahefaaDoorLexL4a
import Derived.Test.YtafgincpoahefaaDoorLexL4b
namespace Go.Proofs.YtafgincpoahefaaDoor
open Go.RowKit

theorem alike_get {α : Type} {R : α → α → Prop} : ∀ {l r : List α}, Alike R l r → l.length = r.length ∧ ∀ (i : Nat) (x : α), l[i]? = some x → ∃ y, r[i]? = some y ∧ R x y
  | _, _, .nil => ⟨rfl, fun i x h => by simp at h⟩
  | _, _, .cons h t => by
    obtain ⟨h1, h2⟩ := alike_get t
    refine ⟨by simp [h1], fun i x hx => ?_⟩
    cases i with
    | zero => simp at hx; subst hx; exact ⟨_, rfl, h⟩
    | succ i => simpa using h2 i x (by simpa using hx)

/-- a text told again of its tokens' bytes -/
theorem again_all (l : List UInt8) (hg : good (yields 0 l)) (J : List UInt8) (hJ : J = joinT ((yields 0 l).map fun y => textOf y.t.kind y.t.n)) (hs : J.length ≤ 2000) :
    ∃ us : List Tok, allOf J = (us, 0, 0) ∧ us.length = (toksOf l).length ∧ ∀ (i : Nat) (t : Tok), (toksOf l)[i]? = some t → ∃ x, us[i]? = some ⟨t.kind, t.n, x⟩ := by
  have ha := yields_again _ 0 l (Nat.le_refl _) hg 0
  rw [← hJ] at ha
  obtain ⟨h1, h2⟩ := alike_get ha
  have hgJ : good (yields 0 J) := by
    intro y hy
    obtain ⟨i, hi, rfl⟩ := List.getElem_of_mem hy
    obtain ⟨z, hz, hr⟩ := h2 i _ (List.getElem?_eq_getElem (by omega))
    rw [List.getElem?_eq_getElem hi] at hz
    obtain rfl := Option.some.inj hz
    exact hr.2.2
  refine ⟨toksOf J, all_good J hs hgJ, by rw [toksOf_len, toksOf_len, h1], fun i t ht => ?_⟩
  unfold toksOf at ht ⊢
  by_cases hi : i < (yields 0 l).length
  · rw [List.getElem?_append_left (by simpa using hi), List.getElem?_map] at ht
    rw [List.getElem?_append_left (by simp; omega), List.getElem?_map]
    rw [List.getElem?_eq_getElem hi] at ht
    obtain rfl := Option.some.inj ht
    obtain ⟨z, hz, hr⟩ := h2 i _ (List.getElem?_eq_getElem hi)
    rw [hz]
    refine ⟨z.t.at', ?_⟩
    simp only [Option.map_some, Option.some.injEq]
    rw [hr.1, hr.2.1]
  · rw [List.getElem?_append_right (by simp; omega)] at ht
    have hi2 : i = (yields 0 l).length := by
      rcases Nat.lt_or_ge (i - ((yields 0 l).map Y.t).length) 1 with h | h
      · simp at h; omega
      · rw [List.getElem?_eq_none (by simpa using h)] at ht; cases ht
    subst hi2
    simp only [List.length_map, Nat.sub_self, List.getElem?_cons_zero, Option.some.injEq] at ht
    subst ht
    refine ⟨J.length, ?_⟩
    rw [List.getElem?_append_right (by simp; omega)]
    simp [h1]

theorem ag_len (ws : List (List UInt8)) (F : Nat → Nat) (hF : ∀ (i : Nat) (w : List UInt8), ws[i]? = some w → F i + w.length ≤ F (i + 1)) : ∀ i, i ≤ ws.length → (agA ws i).length ≤ F i + i
  | 0, _ => by cases ws <;> simp [agA]
  | i + 1, h => by
    have hw : ws[i]? = some (ws[i]'(by omega)) := List.getElem?_eq_getElem _
    have h1 := ag_len ws F hF i (by omega)
    have h2 := hF i _ hw
    rw [agA_step ws i _ hw]
    simp only [List.length_append]
    split <;> simp <;> omega

theorem fr_zero (a : Nat) (ys : List Y) : fr a ys 0 = a := by cases ys <;> rfl
theorem byte_of (s : ByteArray) (i : Nat) (h : i < s.size) (c : UInt8) (hc : s.data.toList[i]? = some c) : s[i] = c := by
  rw [List.getElem?_eq_getElem (by simpa using h)] at hc
  rw [← bytes_at s i h]
  exact Option.some.inj hc

theorem lexBack_walk (s : ByteArray) (w : World) (_hs0 : s.size ≤ 140737488351232) (hG : GL w) : Calls Tryd.prog 13 #[.string s] w fun e w' => e = .returned (.bool true) ∧ Below w.heap.size w w' := by
  by_cases h1 : 3000 < s.size
  · exact lexBack_long s h1 w hG
  by_cases h2 : 2000 < s.size
  · exact lexBack_over s h2 (by omega) w hG
  have hs : s.size ≤ 2000 := by omega
  have hl : s.data.toList.length = s.size := by simp
  cases hf : (yields 0 s.data.toList).find? (fun y => y.m == 0) with
  | some y =>
    obtain ⟨p, hp1, hp2, c, hp3, hp4⟩ := bad_place _ 0 s.data.toList (Nat.le_refl _) y hf
    have hps : p < s.size := by omega
    refine lexBack_err s hs p hps ?_ ?_ w hG
    · rw [byte_of s p hps c hp3]
      intro h
      simp [blB, h] at hp4
    · unfold allOf
      rw [if_neg (by omega), hf]
      simp only [hp1]
      simp
  | none =>
    have hg : good (yields 0 s.data.toList) := fun y hy => by
      have := List.find?_eq_none.1 hf y hy
      simpa using this
    have hall := all_good s.data.toList (by omega) hg
    have hyl := yields_len _ 0 s.data.toList (Nat.le_refl _)
    obtain ⟨sp1, sp2, sp3⟩ := spans _ 0 s.data.toList (Nat.le_refl _) (Nat.zero_le _) (by simpa using hg)
    rw [List.drop_zero] at sp1 sp2 sp3
    have hag := again_all s.data.toList hg
    have hto : ∀ (j : Nat) (y : Y), (yields 0 s.data.toList)[j]? = some y → (toksOf s.data.toList)[j]? = some y.t := fun j y hy => by
      unfold toksOf
      have hj : j < (yields 0 s.data.toList).length := (List.getElem?_eq_some_iff.1 hy).1
      rw [List.getElem?_append_left (by simpa using hj), List.getElem?_map, hy]; rfl
    have hte : (toksOf s.data.toList)[(yields 0 s.data.toList).length]? = some ⟨0, 0, s.size⟩ := by
      unfold toksOf
      rw [List.getElem?_append_right (by simp)]
      simp
    have htl := toksOf_len s.data.toList
    generalize hys : yields 0 s.data.toList = ys at *
    have hfr : ∀ j, j ≤ ys.length → fr 0 ys j ≤ s.size := by
      intro j hj
      cases j with
      | zero => rw [fr_zero]; omega
      | succ j =>
        obtain ⟨p, _, _, h3, _, _, _, _, h8⟩ := sp1 j _ (List.getElem?_eq_getElem (show j < ys.length by omega))
        rw [h8]; omega
    have hws : (ys.map fun y => textOf y.t.kind y.t.n).length = ys.length := by simp
    have hal : ∀ j, j ≤ ys.length → (agA (ys.map fun y => textOf y.t.kind y.t.n) j).length ≤ 5000 := by
      intro j hj
      have := ag_len (ys.map fun y => textOf y.t.kind y.t.n) (fr 0 ys) (fun i w hw => by
        rw [List.getElem?_map] at hw
        cases hy : ys[i]? with
        | none => rw [hy] at hw; cases hw
        | some y =>
          rw [hy] at hw
          obtain rfl := Option.some.inj hw
          obtain ⟨p, _, h2, h3, h4, _, _, _, h8⟩ := sp1 i y hy
          rw [h8]
          have e : (textOf y.t.kind y.t.n).length ≤ y.m := by rw [h4, List.length_take]; omega
          simp only
          omega) j (by omega)
      have := hfr j hj
      omega
    refine lexBack_good s hs (toksOf s.data.toList) (fun j => if j ≤ ys.length then fr 0 ys j else s.size) (fun j => agA (ys.map fun y => textOf y.t.kind y.t.n) (min j ys.length)) ys.length (by omega) htl hall
      (by simp only [Nat.zero_le, if_true]; exact fr_zero _ _) (by simp only [Nat.zero_min]; cases ys <;> rfl) ?_ hte (by simp only [Nat.le_refl, if_true]; exact hfr _ (Nat.le_refl _)) ?_ (if_neg (by omega)) (by simp only [Nat.min_self, Nat.min_eq_right (Nat.le_succ ys.length)]) (by simp only [Nat.min_self]; exact hal _ (Nat.le_refl _)) ?_ w hG
    · intro j hj
      obtain ⟨p, q1, q2, q3, q4, q5, q6, q7, q8⟩ := sp1 j _ (List.getElem?_eq_getElem hj)
      have htok := hto j _ (List.getElem?_eq_getElem hj)
      generalize hyj : ys[j] = y at *
      have hlen : ((s.data.toList.drop p).take y.m).length = y.m := by rw [List.length_take, List.length_drop]; omega
      refine ⟨y.t.kind, y.t.n, p, (s.data.toList.drop p).take y.m, ⟨?_, q4, ?_, q6, ?_, by rw [hlen]; omega, ?_, ?_, ?_, ?_, ?_⟩⟩
      · rw [htok, ← q1]
      · intro e; rw [e] at hlen; exact q7 hlen.symm
      · simp only [show j ≤ ys.length from by omega, if_true]; exact q2
      · rw [hlen, ByteArray.toList_eq, Lib.extract_data, show p + y.m - p = y.m from by omega]
      · intro i hi hi2 hip
        simp only [show j ≤ ys.length from by omega, if_true] at hi
        rw [byte_of s i hi2 32 (q5 i hi hip)]; rfl
      · simp only [show j + 1 ≤ ys.length from by omega, if_true]; rw [hlen]; exact q8
      · simp only [Nat.min_eq_left (show j ≤ ys.length from by omega), Nat.min_eq_left (show j + 1 ≤ ys.length from by omega)]
        rw [agA_step _ j ((s.data.toList.drop p).take y.m) (by rw [List.getElem?_map, List.getElem?_eq_getElem hj, Option.map_some, hyj, q4]), hws]
      · exact ⟨hal _ (Nat.min_le_right _ _), hal _ (Nat.min_le_right _ _)⟩
    · intro i hi hi2
      simp only [Nat.le_refl, if_true] at hi
      rw [byte_of s i hi2 32 (sp3 i hi (by omega))]; rfl
    · intro J hJ hJs
      simp only [Nat.min_eq_right (Nat.le_succ ys.length)] at hJ
      have hJl : J.data.toList = joinT (ys.map fun y => textOf y.t.kind y.t.n) := by
        rw [← hJ, ← agA_all, hws]; simp [strOf]
      have hJz : J.data.toList.length = J.size := by simp
      obtain ⟨us, u1, u2, u3⟩ := hag J.data.toList hJl (by omega)
      exact ⟨us, u1, by rw [u2, htl], u3⟩
end Go.Proofs.YtafgincpoahefaaDoor
