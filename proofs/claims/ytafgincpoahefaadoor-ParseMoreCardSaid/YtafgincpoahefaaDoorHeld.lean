/-
  In a round of a range over a function: a region that draws its order of evaluation and holds no 'defer', by what the kit proves of it outside a round.
  A region that draws its order: heads that read (in every world that meets S they yield the same), then a tail in one forced order, whose last operation waits for all heads. After the kit's Derived/OrdersHeld.lean and StillTail.lean.
-/
import Derived.Test.YtafgincpoahefaaDoorGround
import Derived.StillTailTactics
import Derived.BigQuiet
import Derived.Deep.QuietTactic
import Derived.TacticsInMore
import Derived.LoopIn
import Derived.LoopNIn
import Derived.OwnWalkIn
import Derived.Maps.AppendAt
import Derived.Outline
import Derived.OwnWalk
import Derived.OrdersHeld
namespace Go.Proofs.YtafgincpoahefaaDoor
open Go.RowKit

def noDefer (ops : Array Oper) : Bool := ops.all fun o => match o.op with | .defer _ => false | _ => true
theorem noDefer_spec {ops : Array Oper} (h : noDefer ops = true) {i : Nat} {o : Oper} (ho : ops[i]? = some o) : ∀ c, o.op ≠ .defer c := by
  intro c hc
  obtain ⟨hi, rfl⟩ := Array.getElem?_eq_some_iff.1 ho
  have := (Array.all_eq_true.1 h) i hi
  rw [hc] at this
  cases this

section
variable {P : Program} {Q : Exit → Act → World → Prop}
theorem operIn_of_oper {o : Oper} {a : Act} {w : World} {K : Act → World → Prop} (l : Nat) (hd : ∀ c, o.op ≠ .defer c) (h : o.wp P a w K Q) : o.wpIn (Fence.wide.inRound l) 0 P a w K Q := by
  unfold Oper.wp at h
  unfold Oper.wpIn
  refine ⟨fun _ _ => trivial, ?_⟩
  rw [Fence.inRound_round, Oper.semAt_some l _ o hd]
  generalize (execOp a.eval o).run P w = r at *
  cases r with
  | ok x w' =>
    cases x with
    | value v => exact h
    | skip => exact h
    | defer d => exact h
    | enter f args => exact ⟨fun hh => by simp [Fence.wide] at hh, CallsIn.inRound l (callsIn_wide.2 h)⟩
    | row row args =>
      refine ⟨fun hh => by simp [Fence.wide] at hh, ?_⟩
      intro c cs _
      obtain ⟨v, w'', r, s⟩ := h c cs
      exact ⟨v, w'', r, stepsIn_wide.2 s⟩
    | _ => exact h.elim
  | halt x w' => cases x <;> first | exact h | exact h.elim

theorem opIn_of_op {ops : Array Oper} {i : Nat} {a : Act} {w : World} {K : Act → World → Prop} (l : Nat) (hd : noDefer ops = true) (hno : ¬ LetsOut Q) (h : wpOp P ops Q i K a w) : wpOpIn (Fence.wide.inRound l) 0 P ops Q i K a w := by
  unfold wpOp at h
  unfold wpOpIn
  cases ho : ops[i]? with
  | none => simpa [ho] using h
  | some o =>
    simp only [ho] at h ⊢
    split at h
    · rename_i hw
      rw [if_pos hw]
      rcases h with h | h
      · exact operIn_of_oper l (noDefer_spec hd ho) h
      · exact absurd h.2 hno
    · rename_i hw
      rw [if_neg hw]
      exact ⟨fun _ _ => trivial, h⟩

theorem anyIn_of_any {ops : Array Oper} {md : Region.Mode} (l : Nat) (hd : noDefer ops = true) (hno : ¬ LetsOut Q) : ∀ (fuel : Nat) (listed : Array Bool) (a : Act) (w : World),
    wpAny P md ops Q fuel listed a w → wpAnyIn (Fence.wide.inRound l) 0 P md ops Q fuel listed a w
  | 0, _, _, _, h => h
  | fuel + 1, _, _, _, h => ⟨h.1, fun i hi => opIn_of_op l hd hno (wpOp_mono (fun a w => anyIn_of_any l hd hno fuel _ a w) (h.2 i hi))⟩

/-- the whole region, out of all its orders -/
theorem wpIn_round_any {id : Nat} {ops : Array Oper} {a : Act} {w : World} (l : Nat) (hm : P.follows .mixedOrders = true) (hd : noDefer ops = true) (hno : ¬ LetsOut Q)
    (h : wpAny P .any ops Q ops.size (Array.replicate ops.size false) a { w with drawn := w.drawn + 1 }) : (Code.region id ops true).wpIn (Fence.wide.inRound l) 0 P Q a w :=
  wpIn_region_any hm (anyIn_of_any l hd hno _ _ _ _ h)

/-- after the kit's 'wp_region_still_tail' -/
theorem wpIn_round_still_tail {id : Nat} {a : Act} {w : World} {ls : List Oper} (l : Nat) (n : Nat) (hm : P.follows .mixedOrders = true) (hd : noDefer ls.toArray = true) (hno : ¬ LetsOut Q) (hB : Region.lexTailB .any ls.toArray n = true)
    (h : wpStill P ls.toArray { w with drawn := w.drawn + 1 } (fun a' => wpList P ls.toArray Q (ls.drop n) a' { w with drawn := w.drawn + 1 }) (ls.take n) a) : (Code.region id ls.toArray true).wpIn (Fence.wide.inRound l) 0 P Q a w := by
  simp only [Region.lexTailB, Bool.and_eq_true, decide_eq_true_eq] at hB
  obtain ⟨⟨⟨⟨hsel, hn⟩, hs⟩, hc⟩, hlex⟩ := hB
  have hn' : n < ls.length := by simpa using hn
  have htl : (ls.take n).length = n := by simp; omega
  have hdl : (ls.drop n).length = ls.toArray.size - n := by simp
  have inv0 : HeadInv .any ls.toArray n (Array.replicate ls.toArray.size false) :=
    ⟨by simp, fun j oj _ hl => (by rw [getD_replicate_false] at hl; cases hl), fun t _ ht => getD_in (by simpa using ht) (getD_replicate_false _ _)⟩
  have H := wpAnyL_lex (md := .any) (g := ls.toArray.size - n) hsel hs hc hn (ls.take n) 0 _ a (fun j hj => by
    have hj' : j < n := by rw [htl] at hj; exact hj
    simp [hj']) (by simpa using htl) inv0 (by rw [htl]; exact hlex) h
  refine wpIn_round_any l hm hd hno ?_
  have := wpAny_of_head (Q' := Q) (g := ls.toArray.size - n) (fun listed a' hL => by
    have := wpAny_of_seq (md := .any) (Q' := Q) (ls.drop n) n listed a' { w with drawn := w.drawn + 1 } (fun j => by simp [List.getElem?_drop]) (by rw [hdl]; exact hL.1) hL.2
    rwa [hdl] at this) _ _ _ H
  rw [htl, show n + (ls.toArray.size - n) = ls.toArray.size by omega] at this
  exact this

/-- after the kit's 'wp_region_quiet_lit' -/
theorem wpIn_round_quiet {id : Nat} {a : Act} {w : World} {ls : List Oper} (l : Nat) (hm : P.follows .mixedOrders = true) (hd : noDefer ls.toArray = true) (hno : ¬ LetsOut Q) (hB : Region.lexB .any ls.toArray = true)
    (h : wpQuiet P ls.toArray (fun w' => ∃ n, w' = w.drewN n) (fun a' => ∀ w', (∃ n, w' = w.drewN n) → Q .normal a' w') ls a) : (Code.region id ls.toArray true).wpIn (Fence.wide.inRound l) 0 P Q a w := by
  simp only [Region.lexB, Bool.and_eq_true] at hB
  refine wpIn_round_any l hm hd hno (wpAny_of_quiet (C := fun w' => ∃ n, w' = w.drewN n) (Q := fun a' => ∀ w', (∃ n, w' = w.drewN n) → Q .normal a' w') (fun _ w' hw' h => h w' hw') _ _ _ _ ⟨1, rfl⟩ ?_)
  have := wpAnyQ_lex (C := fun w' => ∃ n, w' = w.drewN n) (md := .any) hB.1 ls.toArray.toList 0 (Array.replicate ls.toArray.size false) a (by simp) (by simpa using hB.2) (by simpa using h)
  simpa using this
end
end Go.Proofs.YtafgincpoahefaaDoor

namespace Go.Proofs.YtafgincpoahefaaDoor
open Go.RowKit

section
variable {P : Program} {ops : Array Oper} {Q : Exit → Act → World → Prop} {md : Region.Mode} {S : World → Prop} {last : Nat}

/-- whatever order is picked; S holds behind every operation but the last one's -/
def wpAnyT (P : Program) (md : Region.Mode) (ops : Array Oper) (Q : Exit → Act → World → Prop) (S : World → Prop) (last : Nat) : Nat → Array Bool → Act → World → Prop
  | 0, listed, a, w => Region.ready md ops listed = [] ∧ Q .normal a w
  | fuel + 1, listed, a, w =>
    (Region.ready md ops listed = [] → Q .normal a w) ∧
    ∀ i ∈ Region.ready md ops listed, wpOp P ops Q i (fun a' w' => (i ≠ last → S w') ∧ wpAnyT P md ops Q S last fuel (listed.setIfInBounds i true) a' w') a w

theorem any_of_T : ∀ (fuel : Nat) (listed : Array Bool) (a : Act) (w : World), wpAnyT P md ops Q S last fuel listed a w → wpAny P md ops Q fuel listed a w
  | 0, _, _, _, h => h
  | fuel + 1, _, _, _, h => ⟨h.1, fun i hi => wpOp_mono (fun a' w' h' => any_of_T fuel _ a' w' h'.2) (h.2 i hi)⟩

theorem anyT_first {i : Nat} {oi : Oper} {v : Value} (hi : ops[i]? = some oi) (hsel : ∀ (j : Nat) (o : Oper) cs b, ops[j]? = some o → o.op ≠ .select cs b)
    (hQ : ∀ c a w, Q (.panic c) (a.put oi.dst v) w → Q (.panic c) a w)
    (hlast : ∀ ol, ops[last]? = some ol → ∃ e ∈ ol.after, Region.binds md e = true ∧ e.on = i) (hil : i ≠ last) :
    ∀ (fuel : Nat) (listed : Array Bool) (a : Act) (w : World),
      (∀ j oj, ops[j]? = some oj → j ≠ i → listed.getD j true = false → (∀ e ∈ oj.after, Region.binds md e = true → e.on ≠ i) → oi.apart ops oj = true) →
      i ∈ Region.ready md ops listed → YieldsIf P ops S oi v a → S w →
      wpAnyT P md ops Q S last fuel (listed.setIfInBounds i true) (a.put oi.dst v) w → wpAnyT P md ops Q S last (fuel + 1) listed a w := by
  intro fuel
  induction fuel with
  | zero =>
    intro listed a w _ hr hy hS H
    refine ⟨fun h => (by rw [h] at hr; cases hr), fun j hj => ?_⟩
    by_cases hji : j = i
    · subst hji; exact hy.wpOp hi hS ⟨fun _ => hS, H⟩
    · have := ready_mono hj hji
      rw [H.1] at this
      cases this
  | succ fuel ih =>
    intro listed a w hfree hr hy hS H
    refine ⟨fun h => (by rw [h] at hr; cases hr), fun j hj => ?_⟩
    by_cases hji : j = i
    · subst hji; exact hy.wpOp hi hS ⟨fun _ => hS, H⟩
    · have h1 := H.2 j (ready_mono hj hji)
      obtain ⟨hjun, oj, hoj, hall⟩ := mem_ready.1 hj
      have hnot : ∀ e ∈ oj.after, Region.binds md e = true → e.on ≠ i := fun e he hb heq => by
        have h1 := hall e he hb
        have h0 := (mem_ready.1 hr).1
        rw [heq] at h1
        rcases Nat.lt_or_ge i listed.size with h' | h'
        · simp [h'] at h0 h1; rw [h0] at h1; cases h1
        · simp [Array.getElem?_eq_none h'] at h1
      have hjl : j ≠ last := by
        rintro rfl
        obtain ⟨e, he, hb, heq⟩ := hlast oj hoj
        exact hnot e he hb heq
      have h2 := wpOp_putIf hoj (hfree j oj hoj hji hjun hnot) (fun cs b => hsel i oi cs b hi) (fun cs b => hsel j oj cs b hoj) hQ hy h1
      have hfree' : ∀ k ok, ops[k]? = some ok → k ≠ i → (listed.setIfInBounds j true).getD k true = false →
          (∀ e ∈ ok.after, Region.binds md e = true → e.on ≠ i) → oi.apart ops ok = true := fun k ok hk hki hun hno => by
        refine hfree k ok hk hki ?_ hno
        by_cases hjk : j = k
        · subst hjk; exact hjun
        · rw [getD_set_ne true hjk] at hun; exact hun
      refine wpOp_mono (fun a' w' h3 => ⟨fun _ => h3.2.1 hjl, ih (listed.setIfInBounds j true) a' w' hfree' (ready_mono hr (Ne.symm hji)) h3.1 (h3.2.1 hjl) ?_⟩) h2
      rw [Array.setIfInBounds_comm _ _ hji]
      exact h3.2.2

/-- the heads, in the order of the text: each yields the same in every world that meets S -/
def heads (P : Program) (ops : Array Oper) (S : World → Prop) (L : Act → Prop) : List Oper → Act → Prop
  | [], a => L a
  | o :: l, a => ∃ v, YieldsIf P ops S o v a ∧ heads P ops S L l (a.put o.dst v)

theorem heads_cons {L : Act → Prop} {o : Oper} {l : List Oper} {a : Act} {v : Value} (hw : Region.wanted o (yielded ops a.tmps) = true) (h : ∀ w, S w → (execOp a.eval o).run P w = .ok (.value v) w)
    (k : heads P ops S L l (a.put o.dst v)) : heads P ops S L (o :: l) a := ⟨v, .inl ⟨hw, h⟩, k⟩
theorem heads_skip {L : Act → Prop} {o : Oper} {l : List Oper} {a : Act} (hw : Region.wanted o (yielded ops a.tmps) = false)
    (k : heads P ops S L l (a.put o.dst undef)) : heads P ops S L (o :: l) a := ⟨undef, .inr ⟨hw, rfl⟩, k⟩

theorem heads_nil {L : Act → Prop} {a : Act} (h : L a) : heads P ops S L [] a := h

/-- the last operation waits for number k -/
def waitsB (md : Region.Mode) (ops : Array Oper) (last k : Nat) : Bool := (ops[last]?).all fun o => o.after.any fun e => Region.binds md e && (e.on == k)
theorem waitsB_spec {k : Nat} (h : waitsB md ops last k = true) : ∀ ol, ops[last]? = some ol → ∃ e ∈ ol.after, Region.binds md e = true ∧ e.on = k := by
  intro ol ho
  unfold waitsB at h
  rw [ho] at h
  simp only [Option.all_some] at h
  obtain ⟨i, hi, hb⟩ := Array.any_eq_true.1 h
  simp only [Bool.and_eq_true, beq_iff_eq] at hb
  exact ⟨_, Array.getElem_mem hi, hb.1, hb.2⟩

theorem anyT_heads {n g : Nat} {L : Act → Prop} {w : World} (hsel : Region.noSelect ops = true) (hwait : (List.range n).all (waitsB md ops last) = true) (hnl : n ≤ last) (hS : S w)
    (hQ : ∀ c a d v w, Q (.panic c) (Act.put a d v) w → Q (.panic c) a w)
    (tail : ∀ listed' a', Region.seqB md ops g n listed' = true → L a' → wpAnyT P md ops Q S last g listed' a' w) :
    ∀ (l : List Oper) (k : Nat) (listed : Array Bool) (a : Act), (∀ j, j < l.length → l[j]? = ops[k + j]?) → k + l.length = n →
    Region.lexHead md ops g l.length k listed = true → heads P ops S L l a → wpAnyT P md ops Q S last (g + l.length) listed a w
  | [], k, listed, a, _, hk, hB, h => by
    have : k = n := by simpa using hk
    subst this
    exact tail listed a (by simpa [Region.lexHead] using hB) h
  | o :: l, k, listed, a, hl, hk, hB, h => by
    have h0 : ops[k]? = some o := by simpa using (hl 0 (by simp)).symm
    simp only [List.length_cons, Region.lexHead, Bool.and_eq_true] at hB
    obtain ⟨⟨hr, hf⟩, hB'⟩ := hB
    simp only [List.length_cons] at hk
    obtain ⟨v, hy, hK⟩ := h
    have hwk : waitsB md ops last k = true := (List.all_eq_true.1 hwait) k (by simp; omega)
    exact anyT_first h0 (Region.noSelect_spec hsel) (fun c a w => hQ c a _ _ w) (waitsB_spec hwk) (by omega) _ listed a w (Region.free_spec h0 hf) (by simpa using hr) hy hS
      (anyT_heads hsel hwait hnl hS hQ tail l (k + 1) _ _ (fun j hj => by have := hl (j + 1) (by simp; omega); simpa [Nat.add_assoc, Nat.add_comm 1 j] using this) (by omega) hB' hK)

/-- one operation, its guard asked -/
def opL (P : Program) (ops : Array Oper) (Q : Exit → Act → World → Prop) (o : Oper) (K : Act → World → Prop) (a : Act) (w : World) : Prop :=
  if Region.wanted o (yielded ops a.tmps) then o.wp P a w K Q ∨ (o.asks P a w ∧ LetsOut Q) else K (a.put o.dst undef) w
theorem opL_do {o : Oper} {K : Act → World → Prop} {a : Act} {w : World} (hg : o.guard = none) (h : o.wp P a w K Q) : opL P ops Q o K a w := by
  unfold opL Region.wanted
  simp only [hg, if_true]
  exact .inl h

/-- the tail, in its forced order -/
def tails (P : Program) (ops : Array Oper) (Q : Exit → Act → World → Prop) (S : World → Prop) : List Oper → Act → World → Prop
  | [], a, w => Q .normal a w
  | [o], a, w => opL P ops Q o (Q .normal) a w
  | o :: o' :: l, a, w => opL P ops Q o (fun a' w' => S w' ∧ tails P ops Q S (o' :: l) a' w') a w

theorem anyT_tail : ∀ (l : List Oper) (k : Nat) (listed : Array Bool) (a : Act) (w : World), (∀ j, l[j]? = ops[k + j]?) → k + l.length = last + 1 →
    Region.seqB md ops l.length k listed = true → tails P ops Q S l a w → wpAnyT P md ops Q S last l.length listed a w
  | [], _, _, _, _, _, _, hB, h => ⟨by simpa [Region.seqB] using hB, h⟩
  | [o], k, listed, a, w, hl, hk, hB, h => by
    have h0 : ops[k]? = some o := by simpa using (hl 0).symm
    simp only [List.length_cons, List.length_nil, Region.seqB, Bool.and_eq_true, decide_eq_true_eq] at hB
    refine ⟨fun h1 => (by rw [hB.1] at h1; cases h1), fun i hi => ?_⟩
    rw [hB.1] at hi
    have hik : i = k := by simpa using hi
    subst hik
    have hkl : i = last := by simp at hk; omega
    have hw : wpOp P ops Q i (Q .normal) a w := by unfold wpOp; simp only [h0]; exact h
    exact wpOp_mono (fun a' w' h' => ⟨fun hne => absurd hkl hne, by simpa using hB.2, h'⟩) hw
  | o :: o' :: l, k, listed, a, w, hl, hk, hB, h => by
    have h0 : ops[k]? = some o := by simpa using (hl 0).symm
    rw [List.length_cons, Region.seqB, Bool.and_eq_true, decide_eq_true_eq] at hB
    refine ⟨fun h1 => (by rw [hB.1] at h1; cases h1), fun i hi => ?_⟩
    rw [hB.1] at hi
    have hik : i = k := by simpa using hi
    subst hik
    have hw : wpOp P ops Q i (fun a' w' => S w' ∧ tails P ops Q S (o' :: l) a' w') a w := by unfold wpOp; simp only [h0]; exact h
    exact wpOp_mono (fun a' w' h' => ⟨fun _ => h'.1, anyT_tail (o' :: l) (i + 1) _ a' w' (fun j => by have := hl (j + 1); simpa [Nat.add_assoc, Nat.add_comm 1 j] using this) (by simp at hk ⊢; omega) hB.2 h'.2⟩) hw

/-- the Bool that the region is asked: heads up to n, a forced tail, the last of which waits for all heads -/
def heldB (ops : Array Oper) (n : Nat) : Bool :=
  Region.noSelect ops && decide (n < ops.size) && (List.range n).all (waitsB .any ops (ops.size - 1)) && Region.lexHead .any ops (ops.size - n) n 0 (Array.replicate ops.size false)

theorem any_held {ls : List Oper} {a : Act} {w : World} (n : Nat) (hB : heldB ls.toArray n = true) (S : World → Prop) (hS : S w)
    (hQ : ∀ c a d v w, Q (.panic c) (Act.put a d v) w → Q (.panic c) a w)
    (h : heads P ls.toArray S (fun a' => tails P ls.toArray Q S (ls.drop n) a' w) (ls.take n) a) :
    wpAny P .any ls.toArray Q ls.toArray.size (Array.replicate ls.toArray.size false) a w := by
  simp only [heldB, Bool.and_eq_true, decide_eq_true_eq] at hB
  obtain ⟨⟨⟨hsel, hn⟩, hwait⟩, hlex⟩ := hB
  have hn' : n < ls.length := by simpa using hn
  have htl : (ls.take n).length = n := by simp; omega
  have hdl : (ls.drop n).length = ls.toArray.size - n := by simp
  refine any_of_T (S := S) (last := ls.toArray.size - 1) _ _ _ _ ?_
  have := anyT_heads (md := .any) (n := n) (g := ls.toArray.size - n) (Q := Q) (L := fun a' => tails P ls.toArray Q S (ls.drop n) a' w) (w := w) (S := S) hsel hwait (by omega) hS hQ
    (fun listed' a' hs ht => by
      have := anyT_tail (md := .any) (P := P) (Q := Q) (S := S) (last := ls.toArray.size - 1) (ops := ls.toArray) (ls.drop n) n listed' a' w (fun j => by simp [List.getElem?_drop]) (by rw [hdl]; omega) (by rw [hdl]; exact hs) ht
      rwa [hdl] at this)
    (ls.take n) 0 _ a (fun j hj => by
      have hj' : j < n := by rw [htl] at hj; exact hj
      simp [hj']) (by simpa using htl) (by rw [htl]; exact hlex) h
  rw [htl, show ls.toArray.size - n + n = ls.toArray.size by omega] at this
  exact this

theorem wpIn_round_held {id : Nat} {a : Act} {w : World} {ls : List Oper} (l : Nat) (n : Nat) (hm : P.follows .mixedOrders = true) (hd : noDefer ls.toArray = true) (hno : ¬ LetsOut Q) (hB : heldB ls.toArray n = true)
    (S : World → Prop) (hS : S w.drew) (hQ : ∀ c a d v w, Q (.panic c) (Act.put a d v) w → Q (.panic c) a w)
    (h : heads P ls.toArray S (fun a' => tails P ls.toArray Q S (ls.drop n) a' w.drew) (ls.take n) a) : (Code.region id ls.toArray true).wpIn (Fence.wide.inRound l) 0 P Q a w :=
  wpIn_round_any l hm hd hno (any_held n hB S hS hQ h)
theorem wp_region_held_tail {id : Nat} {a : Act} {w : World} {ls : List Oper} (n : Nat) (hm : P.follows .mixedOrders = true) (hB : heldB ls.toArray n = true)
    (S : World → Prop) (hS : S w.drew) (hQ : ∀ c a d v w, Q (.panic c) (Act.put a d v) w → Q (.panic c) a w)
    (h : heads P ls.toArray S (fun a' => tails P ls.toArray Q S (ls.drop n) a' w.drew) (ls.take n) a) : (Code.region id ls.toArray true).wp P Q a w :=
  wp_region_any hm (any_held n hB S hS hQ h)

/-- the tail of 'b = append(b, x)', b a boxed variable: a block for x, the append, the store -/
theorem tails_append {o1 o2 o3 : Oper} {a : Act} {W : World} {B n₀ k T E size bytes d1 d2 : Nat} {sx sb pb : Operand} {x v : Value} {xs : List Value} {i0 : TypeInfo} {z : Value}
    (h1 : o1.op = .buildSlice T 1 #[(0, sx)]) (h2 : o2.op = .call { callee := .builtin .append, args := #[sb, .tmp d1], argTypes := #[T, T] }) (h3 : o3.op = .store T pb (.tmp d2))
    (g1 : o1.guard = none) (g2 : o2.guard = none) (g3 : o3.guard = none) (ds1 : o1.dst = some d1) (ds2 : o2.dst = some d2) (ds3 : o3.dst = none)
    (hrun : ∀ w, (Instr.buildSlice T 1 #[(0, x)]).run P w = .ok (.slice (some ⟨w.heap.size, 0, none⟩) 1 1) (w.alloc (.cells x.cells E)))
    (hsT : ∀ w, Sem.run P (sizeOf T) w = .ok 1 w) (hT : P.underlying T = some (.slice E)) (hi : P.info? E = some i0) (hz0 : i0.zero = some z) (hz1 : i0.size = size) (hz2 : i0.bytes = bytes) (hzs : z.cells.size = size) (hsz : 0 < size) (hTE : T ≠ E)
    (hx : a.eval sx = x) (hxs : x.cells.size = size) (hx1 : ∀ u ∈ x.cells, u.oneCell' = true)
    (hlt1 : d1 < a.tmps.size) (hlt2 : d2 < a.tmps.size)
    (hsb : (a.put (some d1) (.slice (some ⟨W.heap.size, 0, none⟩) 1 1)).eval sb = v)
    (hpb : ∀ u, ((a.put (some d1) (.slice (some ⟨W.heap.size, 0, none⟩) 1 1)).put (some d2) u).eval pb = .pointer (some ⟨B, 0, none⟩))
    (hbox : Boxed W B T v) (hrow : W.ownsRow n₀ E size v k xs) (hn : n₀ ≤ W.heap.size) (hB : n₀ ≤ B) (h63 : k + 1 ≤ maxLen) (hby : (k + 1) * bytes ≤ 140737488355328)
    (hS : ∀ w', Boxed w' B T v → KeepsOthers W w' → (∀ r o, r ≠ B → W.heap[r]? = some o → v.ownBlock ≠ some r → w'.heap[r]? = some o) → S w')
    (hK : ∀ v' w', Boxed w' B T v' → w'.ownsRow n₀ E size v' (k + 1) (xs ++ x.cells.toList) → KeepsOthers W w' → Below n₀ W w' → (∀ r o, r ≠ B → W.heap[r]? = some o → v.ownBlock ≠ some r → w'.heap[r]? = some o) →
      Q .normal ((a.put (some d1) (.slice (some ⟨W.heap.size, 0, none⟩) 1 1)).put (some d2) v') w') :
    tails P ops Q S [o1, o2, o3] a W := by
  have hbr : some B ≠ v.ownBlock := hbox.not_row hTE hrow
  refine opL_do g1 ?_
  unfold Oper.wp execOp
  simp only [h1, List.map_toArray, List.map_cons, List.map_nil, hx, Sem.run_bind, Sem.run_pure, hrun, Result.andThen_ok, Oper.upon, ds1]
  refine ⟨hS _ (hbox.alloc _) (KeepsOthers.alloc W _) (fun r o _ hr _ => (Below.heap_alloc W _ r (Array.getElem?_eq_some_iff.1 hr).1).trans hr), ?_⟩
  refine opL_do g2 ?_
  refine wp_append_own _ sb (.tmp d1) T h2 n₀ E i0 z size bytes hT hi hz0 hz1 hz2 hzs hsz v k xs hsb (hrow.alloc _) ⟨W.heap.size, 0, none⟩ 1 1 x.cells.toList ?_ (by simpa using hxs) ?_ (by simpa using hx1) h63 hby (by simp; omega) ?_
  · show (a.tmps.setIfInBounds d1 _).getD d1 undef = _
    simp [hlt1]
  · intro j u hj
    have hb : (W.alloc (.cells x.cells E)).heap[W.heap.size]? = some (.cells x.cells E) := World.alloc_heap_new W _
    have hj' : x.cells[j]? = some u := by rw [← Array.getElem?_toList]; exact hj
    by_cases h0 : j = 0
    · subst h0
      show (match (W.alloc (.cells x.cells E)).heap[W.heap.size]? with | some (.cells c _ _) => c[0]? | _ => none) = _
      rw [hb]; exact hj'
    · rw [Addr.add, if_neg h0]
      show (match (W.alloc (.cells x.cells E)).heap[W.heap.size]? with | some (.cells c _ _) => c[0 + j]? | _ => none) = _
      rw [hb, Nat.zero_add]; exact hj'
  · intro v' w1 hown' hgrow _
    obtain ⟨g', cap', rfl⟩ := ownsRow_succ hown'
    obtain ⟨hv1, hv2, hr2, hk2, hb2⟩ := hbox.appended hTE hrow hn hB hown' hgrow
    have far : ∀ r o, r ≠ B → W.heap[r]? = some o → v.ownBlock ≠ some r → w1.heap[r]? = some o := fun r o _ hr hne =>
      (hgrow.block r (by have := (Array.getElem?_eq_some_iff.1 hr).1; simp; omega) (fun e => hne e.symm)).trans ((Below.heap_alloc W _ r (Array.getElem?_eq_some_iff.1 hr).1).trans hr)
    rw [ds2]
    refine ⟨hS _ hv1 ?_ far, ?_⟩
    · refine (KeepsOthers.alloc W _).trans (KeepsOthers.of_grownBy hgrow fun j o ej hj => ?_)
      rcases (hrow.alloc (.cells x.cells E)).2 with ⟨rfl, _⟩ | ⟨g, cap, cur, rfl, _, hgb, _⟩
      · simp [Value.ownBlock] at ej
      · obtain rfl : g = j := by simpa [Value.ownBlock] using ej
        rw [hgb] at hj; cases hj; rfl
    · refine opL_do g3 ?_
      have hc := hv1.cell
      have hf := hv1.frozen
      have hK' := hK _ _ hv2 hr2 hk2 hb2 (fun r o hrB hr hne => (Below.heap_setCell w1 ⟨B, 0, none⟩ _ r hrB).trans (far r o hrB hr hne))
      have hval : ((a.put (some d1) (.slice (some ⟨W.heap.size, 0, none⟩) 1 1)).put (some d2) (.slice (some ⟨g', 0, none⟩) (k + 1) cap')).eval (.tmp d2) = .slice (some ⟨g', 0, none⟩) (k + 1) cap' := by
        show ((a.tmps.setIfInBounds d1 _).setIfInBounds d2 _).getD d2 undef = _
        simp [hlt2]
      unfold Oper.wp execOp
      simp only [h3, hpb, hval]
      go_simp
      exact hK'
end
theorem boxed_far {W w' : World} {B r t E n₀ size k : Nat} {u v : Value} {xs : List Value} (hr : Boxed W r t u) (hne : r ≠ B) (hte : t ≠ E) (hrow : W.ownsRow n₀ E size v k xs)
    (hf : ∀ r o, r ≠ B → W.heap[r]? = some o → v.ownBlock ≠ some r → w'.heap[r]? = some o) : Boxed w' r t u :=
  hf r _ hne hr (fun e => (hr.not_row hte hrow) e.symm)
theorem boxed_new {W : World} {b : Nat} (h : W.heap.size = b) (t : TypeId) (v : Value) : Boxed (W.alloc (.cells #[v] t)) b t v := h ▸ Boxed.new W t v
theorem ownsRow_form {W : World} {n₀ E size k : Nat} {v : Value} {xs : List Value} (h : W.ownsRow n₀ E size v k xs) : ∃ a cap, v = .slice a k cap := by
  rcases h.2 with ⟨rfl, rfl⟩ | ⟨g, cap, cur, rfl, _⟩
  · exact ⟨_, _, rfl⟩
  · exact ⟨_, _, rfl⟩
theorem Stable.row {B : Nat} (n₀ b : Nat) (t e : TypeId) (size k : Nat) (xs : List Value) : Stable B (fun W => ∃ v, Boxed W b t v ∧ W.ownsRow n₀ e size v k xs) := by
  rintro W W' row ⟨v, h1, h2⟩ hg hr
  obtain ⟨v', h3, h4, _⟩ := holdsRow_own (β := Unit) n₀ b t e size (fun _ => k) (fun _ => xs) (fun _ _ => True) () W W' row ⟨v, h1, h2, trivial⟩ hg (fun r e => (hr r e).2)
  exact ⟨v', h3, h4⟩
theorem below_drew {B : Nat} {w W W' : World} (h : Below B w W) (k : Below B W.drew W') : Below B w W' := (h.trans ((Below.refl _ W).drew)).trans k
theorem keeps_drew {W W' : World} (k : KeepsOthers W.drew W') : KeepsOthers W W' := ⟨k.size, k.same⟩
end Go.Proofs.YtafgincpoahefaaDoor
