/-
  straggleref09: what a pattern is made of, plain; the tokens of a text.
-/
import Derived.Test.YtafgincpoahefaaDoorRef9q
namespace Go.Proofs.YtafgincpoahefaaDoor
open Go.RowKit

def pTail (f i : Nat) (l : List Tok) : Res (List St) := if isS 59 l = true then pSteps f i false l.tail else if isS 44 l = true then pSteps f i true l.tail else .ok ([], l)
theorem pSteps_eq (f i : Nat) (strict : Bool) (l : List Tok) : pSteps (f + 1) i strict l = thenR (pStep i strict l) fun s l => thenR (pTail f (i + 1) l) fun ss l => .ok (s :: ss, l) := by
  show thenR (pStep i strict l) _ = _
  congr 1
  funext s l
  unfold pTail
  split
  · cases pSteps f (i + 1) false l.tail <;> rfl
  · split
    · cases pSteps f (i + 1) true l.tail <;> rfl
    · rfl
def ContS (ts : List Tok) (f i at' : Nat) (bad : Bool) (acc : List St) : Prop :=
  ∀ ys a2 d2, Out9 ts at' bad (pTail f i (ts.drop at')) ys a2 d2 → Out9 ts 0 false (pSteps (ts.length + 1) 0 false (ts.drop 0)) (acc ++ ys) a2 d2
section
variable {ts : List Tok} {at0 a2 : Nat} {bad b2 : Bool}
theorem steps_one {s : St} (k : Out9 ts 0 false (pStep 0 false (ts.drop 0)) s a2 b2) : ContS ts ts.length 1 a2 b2 [s] := fun ys a3 d3 g => by
  rw [pSteps_eq]
  exact k.seq (f := fun s l => thenR (pTail ts.length 1 l) fun ss l => .ok (s :: ss, l)) (g.step (fun ss => s :: ss))
theorem isS_at {t : Tok} (ht : ts[at0]? = some t) (c : Int) : isS c (ts.drop at0) = ((t.kind == 5) && (t.n == c)) := by rw [drop_at ht]; rfl
theorem cont_step {f i : Nat} {acc : List St} {s : St} {t : Tok} {strict : Bool} (H : ContS ts (f + 1) i at0 false acc) (ht : ts[at0]? = some t) (h1 : (((t.kind == 5) && (t.n == 59)) || ((t.kind == 5) && (t.n == 44))) = true) (hs : strict = ((t.kind == 5) && (t.n == 44)))
    (k : Out9 ts (at0 + 1) false (pStep i strict (ts.drop (at0 + 1))) s a2 b2) : ContS ts f (i + 1) a2 b2 (acc ++ [s]) := fun ys a3 d3 g => by
  rw [List.append_assoc]
  refine H (s :: ys) a3 d3 ?_
  have e : pTail (f + 1) i (ts.drop at0) = pSteps (f + 1) i strict (ts.drop (at0 + 1)) := by
    unfold pTail
    rw [isS_at ht, isS_at ht, List.tail_drop]
    cases h5 : ((t.kind == 5) && (t.n == 59))
    · rw [h5, Bool.false_or] at h1
      rw [hs, h1]
      simp
    · have : ((t.kind == 5) && (t.n == 44)) = false := by
        simp only [Bool.and_eq_true, beq_iff_eq] at h5
        simp [h5.2]
      rw [hs, this]
      simp
  rw [e, pSteps_eq]
  have q := k.seq (f := fun s l => thenR (pTail f (i + 1) l) fun ss l => .ok (s :: ss, l)) (g.step (fun ss => s :: ss))
  exact ⟨⟨q.lt, Nat.le_trans (Nat.le_succ _) q.le⟩, (fun hb => nomatch hb), fun _ => q.2.2 rfl⟩
theorem steps_end {f i : Nat} {acc : List St} {t : Tok} (H : ContS ts f i at0 bad acc) (ht : ts[at0]? = some t) (h1 : (!bad && ((t.kind == 5) && (t.n == 59))) = false) (h2 : (!bad && ((t.kind == 5) && (t.n == 44))) = false) :
    Out9 ts 0 false (pSteps (ts.length + 1) 0 false (ts.drop 0)) acc at0 bad := by
  have hi := (List.getElem?_eq_some_iff.1 ht).1
  have := H [] at0 bad (by
    cases bad
    · simp only [Bool.not_false, Bool.true_and] at h1 h2
      unfold pTail
      rw [isS_at ht, isS_at ht, h1, h2]
      simpa using Out9.stay (bad := false) hi ([] : List St)
    · exact Out9.never hi _ _)
  rwa [List.append_nil] at this
theorem pat_out {ss : List St} {x y z : Int} {a1 a3 a4 : Nat} {b1 b3 b4 : Bool} (h1 : Out9 ts 0 false (pSteps (ts.length + 1) 0 false (ts.drop 0)) ss a1 b1) (h2 : Out9 ts a1 b1 (pTake 3 (ts.drop a1)) x a2 b2) (h3 : Out9 ts a2 b2 (pTake 1 (ts.drop a2)) y a3 b3)
    (h4 : Out9 ts a3 b3 (pTake 0 (ts.drop a3)) z a4 b4) : Out9 ts 0 false (pPat ts) ⟨ss, y⟩ a4 b4 := by
  have e : pPat ts = thenR (pSteps (ts.length + 1) 0 false (ts.drop 0)) fun ss l => thenR (pTake 3 l) fun _ l => thenR (pTake 1 l) fun w l => thenR (pTake 0 l) fun _ l => .ok ((⟨ss, w⟩ : Pt), l) := rfl
  rw [e]
  exact h1.seq (f := fun ss l => thenR (pTake 3 l) fun _ l => thenR (pTake 1 l) fun w l => thenR (pTake 0 l) fun _ l => .ok ((⟨ss, w⟩ : Pt), l))
    (h2.seq (f := fun _ l => thenR (pTake 1 l) fun w l => thenR (pTake 0 l) fun _ l => .ok ((⟨ss, w⟩ : Pt), l))
    (h3.seq (f := fun w l => thenR (pTake 0 l) fun _ l => .ok ((⟨ss, w⟩ : Pt), l)) (h4.step (fun _ => (⟨ss, y⟩ : Pt)))))
theorem parse_bad {l : List UInt8} {ts : List Tok} {x : Pt} {a : Nat} {t : Tok} (h : allOf l = (ts, 0, 0)) (o : Out9 ts 0 false (pPat ts) x a true) (ht : ts[a]? = some t) : parseOf l = (⟨[], 0⟩, t.at', 90) := by
  unfold parseOf
  rw [h]
  have := o.2.2 rfl
  match hr : pPat ts, this with
  | .ok (v, r), this => exact absurd this.2.1 (by simp)
  | .error p, this =>
    have h2 : headAt (ts.drop a) = p := this.2
    rw [drop_at ht] at h2
    rw [if_pos rfl, ← h2]; rfl
theorem parse_good {l : List UInt8} {ts : List Tok} {x : Pt} {a : Nat} (h : allOf l = (ts, 0, 0)) (o : Out9 ts 0 false (pPat ts) x a false) : parseOf l = (x, 0, 0) := by
  unfold parseOf
  rw [h]
  have := o.2.2 rfl
  match hr : pPat ts, this with
  | .ok (v, r), this =>
    have e : x = v := this.1
    rw [if_pos rfl, e]
  | .error p, this => exact absurd this.1 (by simp)
theorem parse_none {l : List UInt8} (h : (allOf l).2.2 ≠ 0) : parseOf l = (⟨[], 0⟩, (allOf l).2.1, (allOf l).2.2) := by
  unfold parseOf
  rw [if_neg h]
end
/-! the tokens of a text -/
theorem tokOf_ok (l : List UInt8) (h : (tokOf l).2.2 ≠ 0) : (1 ≤ (tokOf l).1 ∧ (tokOf l).1 ≤ 5) ∧ (0 ≤ (tokOf l).2.1 ∧ (tokOf l).2.1 ≤ 1099511627776) ∧ ((tokOf l).1 = 4 → (tokOf l).2.1 < 7) ∧ ((tokOf l).1 = 2 → (tokOf l).2.1 < 26) := by
  unfold tokOf at h ⊢
  split at h
  · rename_i h1
    rw [if_pos h1]
    split at h
    · rename_i h2
      rw [if_pos h2]
      refine ⟨⟨by simp, by simp⟩, ⟨?_, h2.2⟩, by simp, by simp⟩
      exact readOf_nonneg _ (by rw [(lead_take digB l).1, (lead_take digB l).2]) h2.1
    · simp at h
  · rename_i h1
    rw [if_neg h1]
    split at h
    · rename_i h2
      rw [if_pos h2]
      split at h
      · rename_i h3
        rw [if_pos h3]
        have : letB (l.headD 0) = true := by
          rcases l with _ | ⟨c, r⟩
          · simp [lead_nil] at h2
          · rw [lead_cons] at h2
            by_cases hc : letB c = true
            · exact hc
            · rw [if_neg hc] at h2; omega
        have hb : 97 ≤ (l.headD 0).toNat ∧ (l.headD 0).toNat ≤ 122 := by
          simpa [letB] using this
        refine ⟨⟨by simp, by simp⟩, ⟨by simp only; omega, by simp only; omega⟩, by simp, fun _ => by simp only; omega⟩
      · split at h
        · rename_i h3 h4
          rw [if_neg h3, if_pos h4]
          simp
        · simp at h
    · rename_i h2
      rw [if_neg h2]
      split at h
      · rename_i h3
        rw [if_pos h3]
        have : opOf l ≤ 6 := by
          rcases l with _ | ⟨c, r⟩
          · simp [opOf]
          · unfold opOf; repeat' split
            all_goals omega
        refine ⟨⟨by simp, by simp⟩, ⟨by simp only; omega, by simp only; omega⟩, fun _ => by simp only; omega, by simp⟩
      · rename_i h3
        rw [if_neg h3]
        split at h
        · rename_i h4
          rw [if_pos h4]
          have := (l.headD 0).toNat_lt
          refine ⟨⟨by simp, by simp⟩, ⟨by simp only; omega, by simp only; omega⟩, by simp, by simp⟩
        · simp at h
theorem yieldsF_ok : ∀ (f a : Nat) (l : List UInt8), ∀ y ∈ yieldsF f a l, y.m ≠ 0 → (1 ≤ y.t.kind ∧ y.t.kind ≤ 5) ∧ (0 ≤ y.t.n ∧ y.t.n ≤ 1099511627776) ∧ (y.t.kind = 4 → y.t.n < 7) ∧ (y.t.kind = 2 → y.t.n < 26)
  | 0, _, _ => fun y h => by simp [yieldsF] at h
  | f + 1, a, l => fun y h hm => by
    unfold yieldsF at h
    split at h
    · simp at h
    · rcases List.mem_cons.1 h with rfl | h
      · exact tokOf_ok _ hm
      · split at h
        · simp at h
        · exact yieldsF_ok f _ _ y h hm
theorem allOf_toks {l : List UInt8} {ts : List Tok} {p : Int} (h : allOf l = (ts, p, 0)) : p = 0 ∧ (∀ t ∈ ts, tokOk t) ∧ endsT ts ∧ 0 < ts.length := by
  unfold allOf at h
  split at h
  · simp at h
  · rename_i hl
    split at h
    · simp at h
    · rename_i hn
      simp only [Prod.mk.injEq] at h
      obtain ⟨rfl, rfl, _⟩ := h
      have hg : ∀ y ∈ yields 0 l, y.m ≠ 0 := fun y hy e => by
        have := List.find?_eq_none.1 hn y hy
        simp [e] at this
      refine ⟨rfl, fun t ht => ?_, fun i t hi => ?_, by simp⟩
      · rcases List.mem_append.1 ht with ht | ht
        · obtain ⟨y, hy, rfl⟩ := List.mem_map.1 ht
          obtain ⟨h1, h2, h3, h4⟩ := yieldsF_ok _ _ _ y hy (hg y hy)
          have hr := yields_range l.length 0 l (Nat.le_refl _) y hy
          exact ⟨⟨by omega, h1.2⟩, h2, ⟨by omega, by omega⟩, h3, h4⟩
        · obtain rfl := List.mem_singleton.1 ht
          exact ⟨by simp, by simp, ⟨by simp, by simp only; omega⟩, by simp, by simp⟩
      · rw [List.length_append, List.length_map, List.length_singleton]
        rcases Nat.lt_or_ge i (yields 0 l).length with hlt | hge
        · rw [List.getElem?_append_left (by simpa using hlt), List.getElem?_map] at hi
          obtain ⟨y, hy, rfl⟩ := Option.map_eq_some_iff.1 hi
          have hm := List.mem_of_getElem? hy
          obtain ⟨h1, _⟩ := yieldsF_ok _ _ _ y hm (hg y hm)
          constructor <;> intro e <;> omega
        · rw [List.getElem?_append_right (by simpa using hge), List.length_map] at hi
          have hz : i - (yields 0 l).length = 0 := by
            have := (List.getElem?_eq_some_iff.1 hi).1
            simp at this; omega
          rw [hz] at hi
          obtain rfl : (⟨0, 0, l.length⟩ : Tok) = t := by simpa using hi
          constructor
          · intro _; omega
          · intro _; rfl
end Go.Proofs.YtafgincpoahefaaDoor
