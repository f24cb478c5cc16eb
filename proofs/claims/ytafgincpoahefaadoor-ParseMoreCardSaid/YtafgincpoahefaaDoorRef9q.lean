/-
  straggleref09: what a step is made of, plain; a step that is being made, in memory.
-/
import Derived.Test.YtafgincpoahefaaDoorRef9e
import Derived.Deep.AppendLies
namespace Go.Proofs.YtafgincpoahefaaDoor
open Go.RowKit

def pRest (f : Nat) (l : List Tok) : Res (List Cm) := thenR (pMay 38 l) fun y l => if y = true then pCmps f l else thenR (pSign 93 l) fun _ l => .ok ([], l)
theorem pCmps_eq (f : Nat) (l : List Tok) : pCmps (f + 1) l = thenR (pCmp l) fun c l => thenR (pRest f l) fun cs l => .ok (c :: cs, l) := by
  show thenR (pCmp l) _ = _
  congr 1
  funext c l
  unfold pRest pMay
  cases h : isS 38 l
  · simp only [thenR, Bool.false_eq_true, if_false]
    cases pSign 93 l with
    | error a => rfl
    | ok x => rfl
  · simp only [thenR, if_true]
theorem pTimes_eq (l : List Tok) : pTimes l = thenR (pMay 123 l) fun y l => if y = true then thenR (pTake 1 l) fun a l => thenR (pSign 44 l) fun _ l => thenR (pTake 1 l) fun b l => thenR (pSign 125 l) fun _ l => .ok ((a, b), l) else .ok ((1, 1), l) := by
  unfold pTimes pMay
  cases h : isS 123 l <;> simp [thenR]
theorem pAsks_eq (l : List Tok) : pAsks l = thenR (pMay 91 l) fun y l1 => if y = true then pCmps l.length l1 else .ok ([], l1) := by
  unfold pAsks pMay
  cases h : isS 91 l <;> simp [thenR]
theorem pStep_eq (i : Int) (strict : Bool) (l : List Tok) : pStep i strict l = thenR (pMay 33 l) fun nt l => thenR (pTake 1 l) fun k l1 => thenR (pLetter i l1) fun _ l2 => thenR (pTimes l2) fun ab l3 => thenR (pAsks l3) fun cs l4 => .ok (⟨nt, k, ab.1, ab.2, strict, cs⟩, l4) := rfl

/-- what is left to tell, behind some comparisons -/
def Cont9 (ts : List Tok) (a0 : Nat) (b0 : Bool) (f at' : Nat) (bad : Bool) (acc : List Cm) : Prop :=
  ∀ ys a2 d2, Out9 ts at' bad (pRest f (ts.drop at')) ys a2 d2 → Out9 ts a0 b0 (pAsks (ts.drop a0)) (acc ++ ys) a2 d2
section
variable {ts : List Tok} {a0 a1 a2 : Nat} {b0 b1 b2 : Bool}
theorem asks_none (h : Out9 ts a0 b0 (pMay 91 (ts.drop a0)) false a1 b1) : Out9 ts a0 b0 (pAsks (ts.drop a0)) [] a1 b1 := by
  rw [pAsks_eq]
  refine h.seq (f := fun y l1 => if y = true then pCmps (ts.drop a0).length l1 else .ok ([], l1)) ?_
  simp only [Bool.false_eq_true, if_false]
  exact Out9.stay h.lt []
theorem asks_one {f : Nat} {c : Cm} (h : Out9 ts a0 b0 (pMay 91 (ts.drop a0)) true a1 b1) (hf : (ts.drop a0).length = f + 1) (k : Out9 ts a1 b1 (pCmp (ts.drop a1)) c a2 b2) : Cont9 ts a0 b0 f a2 b2 [c] := fun ys a3 d3 g => by
  rw [pAsks_eq]
  refine h.seq (f := fun y l1 => if y = true then pCmps (ts.drop a0).length l1 else .ok ([], l1)) ?_
  simp only [if_true]
  rw [hf, pCmps_eq]
  exact k.seq (f := fun c l => thenR (pRest f l) fun cs l => .ok (c :: cs, l)) (g.step (fun cs => c :: cs))
theorem cont_one {f at' : Nat} {bad : Bool} {acc : List Cm} {c : Cm} (H : Cont9 ts a0 b0 (f + 1) at' bad acc) (h : Out9 ts at' bad (pMay 38 (ts.drop at')) true a1 b1) (k : Out9 ts a1 b1 (pCmp (ts.drop a1)) c a2 b2) : Cont9 ts a0 b0 f a2 b2 (acc ++ [c]) := fun ys a3 d3 g => by
  rw [List.append_assoc]
  refine H (c :: ys) a3 d3 ?_
  refine h.seq (f := fun y l => if y = true then pCmps (f + 1) l else thenR (pSign 93 l) fun _ l => .ok ([], l)) ?_
  simp only [if_true]
  rw [pCmps_eq]
  exact k.seq (f := fun c l => thenR (pRest f l) fun cs l => .ok (c :: cs, l)) (g.step (fun cs => c :: cs))
theorem cont_end {f at' : Nat} {bad : Bool} {acc : List Cm} (H : Cont9 ts a0 b0 f at' bad acc) (h : Out9 ts at' bad (pMay 38 (ts.drop at')) false a1 b1) (k : Out9 ts a1 b1 (pSign 93 (ts.drop a1)) () a2 b2) : Out9 ts a0 b0 (pAsks (ts.drop a0)) acc a2 b2 := by
  have := H [] a2 b2 (by
    refine h.seq (f := fun y l => if y = true then pCmps f l else thenR (pSign 93 l) fun _ l => .ok ([], l)) ?_
    simp only [Bool.false_eq_true, if_false]
    exact k.seq (f := fun _ l => .ok ([], l)) (Out9.stay k.lt []))
  rwa [List.append_nil] at this
theorem letter_out {bad : Bool} (i : Int) {t : Tok} (he : endsT ts) (ht : ts[a0]? = some t) :
    Out9 ts a0 bad (pLetter i (ts.drop a0)) () (nextAt ts a0 (bad || !((t.kind == 2) && (t.n == i)))) (bad || !((t.kind == 2) && (t.n == i))) := by
  have hi := (List.getElem?_eq_some_iff.1 ht).1
  cases bad
  · have hd := drop_at ht
    have hp : pLetter i (ts.drop a0) = if t.kind = 2 ∧ t.n = i then .ok ((), (ts.drop a0).tail) else .error (headAt (ts.drop a0)) := by rw [hd]; rfl
    rw [hp]
    by_cases h : t.kind = 2 ∧ t.n = i
    · have h1 : (false || !((t.kind == 2) && (t.n == i))) = false := by simp [h.1, h.2]
      have hn := he.next ht (by omega)
      rw [h1, if_pos h, show nextAt ts a0 false = a0 + 1 from if_pos ⟨rfl, hn⟩]
      exact Out9.goes hn ()
    · have h1 : (false || !((t.kind == 2) && (t.n == i))) = true := by
        simp only [Bool.false_or, Bool.not_eq_true', Bool.and_eq_false_iff, beq_eq_false_iff_ne]
        rcases Decidable.em (t.kind = 2) with e | e
        · exact .inr fun e' => h ⟨e, e'⟩
        · exact .inl e
      rw [h1, if_neg h, show nextAt ts a0 true = a0 from if_neg (fun g => nomatch g.1)]
      exact Out9.stop hi ()
  · rw [Bool.true_or, show nextAt ts a0 true = a0 from if_neg (fun g => nomatch g.1)]
    exact Out9.never hi _ _
theorem times_none (h : Out9 ts a0 b0 (pMay 123 (ts.drop a0)) false a1 b1) : Out9 ts a0 b0 (pTimes (ts.drop a0)) (1, 1) a1 b1 := by
  rw [pTimes_eq]
  refine h.seq (f := fun y l => if y = true then thenR (pTake 1 l) fun a l => thenR (pSign 44 l) fun _ l => thenR (pTake 1 l) fun b l => thenR (pSign 125 l) fun _ l => .ok ((a, b), l) else .ok ((1, 1), l)) ?_
  simp only [Bool.false_eq_true, if_false]
  exact Out9.stay h.lt (1, 1)
theorem times_some {x y : Int} {a3 a4 a5 : Nat} {b3 b4 b5 : Bool} (h : Out9 ts a0 b0 (pMay 123 (ts.drop a0)) true a1 b1) (h2 : Out9 ts a1 b1 (pTake 1 (ts.drop a1)) x a2 b2) (h3 : Out9 ts a2 b2 (pSign 44 (ts.drop a2)) () a3 b3)
    (h4 : Out9 ts a3 b3 (pTake 1 (ts.drop a3)) y a4 b4) (h5 : Out9 ts a4 b4 (pSign 125 (ts.drop a4)) () a5 b5) : Out9 ts a0 b0 (pTimes (ts.drop a0)) (x, y) a5 b5 := by
  rw [pTimes_eq]
  refine h.seq (f := fun y l => if y = true then thenR (pTake 1 l) fun a l => thenR (pSign 44 l) fun _ l => thenR (pTake 1 l) fun b l => thenR (pSign 125 l) fun _ l => .ok ((a, b), l) else .ok ((1, 1), l)) ?_
  simp only [if_true]
  exact h2.seq (f := fun a l => thenR (pSign 44 l) fun _ l => thenR (pTake 1 l) fun b l => thenR (pSign 125 l) fun _ l => .ok ((a, b), l)) (h3.seq (f := fun _ l => thenR (pTake 1 l) fun b l => thenR (pSign 125 l) fun _ l => .ok ((x, b), l))
    (h4.seq (f := fun b l => thenR (pSign 125 l) fun _ l => .ok ((x, b), l)) (h5.step (fun _ => (x, y)))))
theorem step_out {i : Int} {strict nt : Bool} {k x y : Int} {cs : List Cm} {a3 a4 a5 : Nat} {b3 b4 b5 : Bool} (h1 : Out9 ts a0 b0 (pMay 33 (ts.drop a0)) nt a1 b1) (h2 : Out9 ts a1 b1 (pTake 1 (ts.drop a1)) k a2 b2)
    (h3 : Out9 ts a2 b2 (pLetter i (ts.drop a2)) () a3 b3) (h4 : Out9 ts a3 b3 (pTimes (ts.drop a3)) (x, y) a4 b4) (h5 : Out9 ts a4 b4 (pAsks (ts.drop a4)) cs a5 b5) : Out9 ts a0 b0 (pStep i strict (ts.drop a0)) ⟨nt, k, x, y, strict, cs⟩ a5 b5 := by
  rw [pStep_eq]
  exact h1.seq (f := fun nt l => thenR (pTake 1 l) fun k l1 => thenR (pLetter i l1) fun _ l2 => thenR (pTimes l2) fun ab l3 => thenR (pAsks l3) fun cs l4 => .ok ((⟨nt, k, ab.1, ab.2, strict, cs⟩ : St), l4))
    (h2.seq (f := fun k l1 => thenR (pLetter i l1) fun _ l2 => thenR (pTimes l2) fun ab l3 => thenR (pAsks l3) fun cs l4 => .ok ((⟨nt, k, ab.1, ab.2, strict, cs⟩ : St), l4))
    (h3.seq (f := fun _ l2 => thenR (pTimes l2) fun ab l3 => thenR (pAsks l3) fun cs l4 => .ok ((⟨nt, k, ab.1, ab.2, strict, cs⟩ : St), l4))
    (h4.seq (f := fun ab l3 => thenR (pAsks l3) fun cs l4 => .ok ((⟨nt, k, ab.1, ab.2, strict, cs⟩ : St), l4)) (h5.step (fun cs => (⟨nt, k, x, y, strict, cs⟩ : St))))))
end

theorem P9.grown {ts : List Tok} {b blk off cap at0 : Nat} {bad : Bool} {w w' : World} {row : Option Nat} (h : P9 ts b blk off cap at0 bad w) (hg : w.grownBy w' row) (h1 : some b ≠ row) (h2 : some blk ≠ row) : P9 ts b blk off cap at0 bad w' :=
  { h with hold := h.hold.grown hg h1, toks := h.toks.grown hg h2 }
/-- a step that is being made, in block sb; its comparisons in a row of the call's own -/
structure T9 (w : World) (ts : List Tok) (b blk off cap sb : Nat) (nt : Bool) (k mn mx : Int) (strict : Bool) (v : Value) (cs : List Cm) (at0 : Nat) (bad : Bool) (W : World) : Prop where
  s : S9 w ts b blk off cap 27 27 w.heap.size sb #[.bool false, .int .i64 0, .int .i64 0, .int .i64 0, .bool false, .slice none 0 0] #[.bool nt, .int .i64 k, .int .i64 mn, .int .i64 mx, .bool strict, v] at0 bad W
  row : W.ownsRow (sb + 1) 31 9 v cs.length (cs.flatMap cmV)
section
variable {w W W' : World} {ts : List Tok} {b blk off cap sb at0 at1 : Nat} {nt : Bool} {k mn mx : Int} {strict : Bool} {v v' : Value} {cs : List Cm} {bad bad1 : Bool}
theorem T9.far (h : T9 w ts b blk off cap sb nt k mn mx strict v cs at0 bad W) : b < sb + 1 ∧ blk < sb + 1 ∧ w.heap.size < sb + 1 := by
  have := h.s.n1; have := h.s.n2; omega
theorem row_off {n : Nat} {xs : List Value} {base : Nat} (h : W.ownsRow base 31 9 v n xs) {j : Nat} (hj : j < base) : some j ≠ v.ownBlock := fun e => by
  have := (h.lt j e.symm).1; omega
theorem T9.move (h : T9 w ts b blk off cap sb nt k mn mx strict v cs at0 bad W) (hp : P9 ts b blk off cap at1 bad1 W') (hg : W.grownBy W' (some b)) : T9 w ts b blk off cap sb nt k mn mx strict v cs at1 bad1 W' :=
  ⟨h.s.move hp hg, h.row.kept hg (.inr (row_off h.row h.far.1).symm)⟩
theorem T9.setK (h : T9 w ts b blk off cap sb nt k mn mx strict v cs at0 bad W) (x : Int) : T9 w ts b blk off cap sb nt x mn mx strict v cs at0 bad (W.setCell ⟨sb, 1, none⟩ (.int .i64 x)) :=
  ⟨h.s.setT 1 _, h.row.kept (Lib.grownBy_setCell W sb 1 _) (.inr (row_off h.row (by omega)).symm)⟩
theorem T9.setN (h : T9 w ts b blk off cap sb nt k mn mx strict v cs at0 bad W) (x : Int) : T9 w ts b blk off cap sb nt k x mx strict v cs at0 bad (W.setCell ⟨sb, 2, none⟩ (.int .i64 x)) :=
  ⟨h.s.setT 2 _, h.row.kept (Lib.grownBy_setCell W sb 2 _) (.inr (row_off h.row (by omega)).symm)⟩
theorem T9.setX (h : T9 w ts b blk off cap sb nt k mn mx strict v cs at0 bad W) (x : Int) : T9 w ts b blk off cap sb nt k mn x strict v cs at0 bad (W.setCell ⟨sb, 3, none⟩ (.int .i64 x)) :=
  ⟨h.s.setT 3 _, h.row.kept (Lib.grownBy_setCell W sb 3 _) (.inr (row_off h.row (by omega)).symm)⟩
theorem T9.app (h : T9 w ts b blk off cap sb nt k mn mx strict v cs at0 bad W) {c : Cm} (hg : W.grownBy W' v.ownBlock) (hr : W'.ownsRow (sb + 1) 31 9 v' (cs.length + 1) (cs.flatMap cmV ++ cmV c)) :
    T9 w ts b blk off cap sb nt k mn mx strict v' (cs ++ [c]) at0 bad (W'.setCell ⟨sb, 5, none⟩ v') := by
  have hn := h.far
  have h1 := h.s.n1
  have h2 := h.s.n2
  have hp := h.s.p.grown hg (row_off h.row hn.1) (row_off h.row hn.2.1)
  have hs : S9 w ts b blk off cap 27 27 w.heap.size sb #[.bool false, .int .i64 0, .int .i64 0, .int .i64 0, .bool false, .slice none 0 0] #[.bool nt, .int .i64 k, .int .i64 mn, .int .i64 mx, .bool strict, v] at0 bad W' :=
    ⟨hp, h.s.r.grown hg (row_off h.row (by omega)), h.s.t.grown hg (row_off h.row (by omega)), h.s.g.andThen hg (fun j e => .inl (Nat.le_trans (by omega) (h.row.lt j e).1)), h1, h2⟩
  refine ⟨hs.setT 5 v', ?_⟩
  rw [List.length_append, List.flatMap_append, List.flatMap_singleton]
  exact hr.kept (Lib.grownBy_setCell W' sb 5 v') (.inr (row_off hr (by omega)).symm)
theorem T9.alloc (h : T9 w ts b blk off cap sb nt k mn mx strict v cs at0 bad W) (o : Obj) : T9 w ts b blk off cap sb nt k mn mx strict v cs at0 bad (W.alloc o) := ⟨h.s.alloc o, h.row.alloc o⟩
theorem T9.drewN (h : T9 w ts b blk off cap sb nt k mn mx strict v cs at0 bad W) (n : Nat) : T9 w ts b blk off cap sb nt k mn mx strict v cs at0 bad (W.drewN n) :=
  h.move (h.s.p.drewN n) (grown_drewN _ _ _)
end
theorem flat_cm_get (cs : List Cm) (i : Nat) (c : Cm) (h : cs[i]? = some c) (j : Nat) (v : Value) (hj : (cmV c)[j]? = some v) : (cs.flatMap cmV)[i * 9 + j]? = some v := by
  induction cs generalizing i with
  | nil => simp at h
  | cons x r ih =>
    have hx : (cmV x).length = 9 := rfl
    cases i with
    | zero =>
      obtain rfl : x = c := by simpa using h
      have hj9 : j < 9 := by have := (List.getElem?_eq_some_iff.1 hj).1; omega
      rw [List.flatMap_cons, List.getElem?_append_left (by omega)]
      simpa using hj
    | succ i =>
      rw [List.flatMap_cons, List.getElem?_append_right (by omega), hx, show (i + 1) * 9 + j - 9 = i * 9 + j by omega]
      exact ih i (by simpa using h)
theorem flat_cm_len (cs : List Cm) : (cs.flatMap cmV).length = cs.length * 9 := by
  induction cs with
  | nil => rfl
  | cons x r ih => rw [List.flatMap_cons, List.length_append, ih, List.length_cons]; show 9 + _ = _; omega
theorem cmps_of_row {w : World} {n₀ : Nat} {v : Value} {cs : List Cm} (h : w.ownsRow n₀ 31 9 v cs.length (cs.flatMap cmV)) : CmpsV w v cs := by
  rcases h.2 with ⟨rfl, he⟩ | ⟨g, cap, cur, rfl, _, hg, hc, hm, _⟩
  · refine ⟨none, 0, by rw [he], by omega, by omega, fun _ => rfl, .inl (List.eq_nil_of_length_eq_zero he)⟩
  · refine ⟨some ⟨g, 0, none⟩, cap, rfl, by omega, by unfold maxLen at *; omega, (fun e => nomatch e), .inr ⟨g, 0, rfl, fun i c hi j u hj => ?_⟩⟩
    have hil := (List.getElem?_eq_some_iff.1 hi).1
    have hj9 : j < 9 := (List.getElem?_eq_some_iff.1 hj).1
    rw [Nat.zero_add, h.cellAt (i * 9 + j) (by omega), flat_cm_get cs i c hi j u hj]
end Go.Proofs.YtafgincpoahefaaDoor
