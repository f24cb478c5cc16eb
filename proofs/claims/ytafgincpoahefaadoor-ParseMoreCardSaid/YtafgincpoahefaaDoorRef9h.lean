/-
  straggleref09: Parse.
-/
import Derived.Test.YtafgincpoahefaaDoorRef9f
import Derived.Test.YtafgincpoahefaaDoorRef9g
import Derived.Test.YtafgincpoahefaaDoorTree2
import Derived.Test.YtafgincpoahefaaDoorRef7c
namespace Go.Proofs.YtafgincpoahefaaDoor
open Go.RowKit
attribute [local go_sem] Oper.semAt_some
attribute [local go_sem ↓] Go.wp_at_zero Go.wp_at_succ

theorem ref9_All (s : ByteArray) (hs : s.size ≤ 140737488351232) (ts : List Tok) (p c : Int) (n : Nat) (hn : ts.length = n) (h : allOf s.data.toList = (ts, p, c)) (w : World) :
    Calls Tryd.prog 38 #[.string s] w fun e w' => ∃ a cap, e = .returned (.tuple #[.slice a n cap, .int .i64 p, .int .i64 c]) ∧ n ≤ cap ∧ ToksAt w' a ts ∧ Below w.heap.size w w' := by
  refine (ref7_All s hs w).mono ?_
  rintro e w' hp
  unfold AllPost at hp
  rw [h] at hp
  obtain ⟨v, rfl, hr, hb⟩ := hp
  obtain ⟨a, cap, rfl, hc, ht⟩ := toks_of_row hr rfl
  subst hn
  exact ⟨a, cap, rfl, hc, ht, hb⟩
theorem results_first3 {P : Program} {fn : Func} {p q r : Tmp} {ty : TypeId} (h : fn.results = #[.cell p ty, .tmp q, .tmp r]) (tmps : Array Value) (w : World) (b : Nat) (t : TypeId) (cs : Array Value) (d : TypeDesc)
    (hp : tmps.getD p undef = .pointer (some ⟨b, 0, none⟩)) (hb : Holds w b t cs) (hu : P.underlying ty = some d) (hd : (match d with | .struct _ | .array _ _ => true | _ => false) = true) (hi : (P.info? ty).map (·.size) = some cs.size) :
    (results fn tmps).run P w = .ok (.tuple #[.agg cs, tmps.getD q undef, tmps.getD r undef]) w := by
  have hp' : tmps[p]?.getD undef = .pointer (some ⟨b, 0, none⟩) := by simpa using hp
  simp [results, h, hp', asAddr, run_loadVar_row w b t ty cs (0, 0) d hb hu hd hi]
theorem row_far {W : World} {e : TypeId} {size n base : Nat} {v : Value} {xs : List Value} (h : W.ownsRow base e size v n xs) {j : Nat} (hj : j < base) : some j ≠ v.ownBlock := fun e => by
  have := (h.lt j e.symm).1; omega
theorem holds_not_row {W : World} {B base size n : Nat} {t e : TypeId} {cs : Array Value} {v : Value} {xs : List Value} (h : Holds W B t cs) (hne : t ≠ e) (hr : W.ownsRow base e size v n xs) : some B ≠ v.ownBlock := by
  rcases hr.2 with ⟨rfl, _⟩ | ⟨g, cap, cur, rfl, _, hg, _⟩
  · intro e; cases e
  · intro e
    obtain rfl : B = g := by simpa [Value.ownBlock] using e
    have h' : W.heap[B]? = some (.cells cs t (0, 0)) := h
    rw [h'] at hg
    simp at hg
    exact hne hg.2
theorem rows_apart {W : World} {base size n base' size' n' : Nat} {e e' : TypeId} {v v' : Value} {xs xs' : List Value} (h : W.ownsRow base e size v n xs) (h' : W.ownsRow base' e' size' v' n' xs') (hne : e ≠ e') : v.ownBlock = none ∨ v.ownBlock ≠ v'.ownBlock := by
  rcases h.2 with ⟨rfl, _⟩ | ⟨g, cap, cur, rfl, _, hg, _⟩
  · exact .inl rfl
  · rcases h'.2 with ⟨rfl, _⟩ | ⟨g', cap', cur', rfl, _, hg', _⟩
    · exact .inr (fun e => by cases e)
    · refine .inr fun e => ?_
      obtain rfl : g = g' := by simpa [Value.ownBlock] using e
      rw [hg] at hg'
      simp at hg'
      exact hne hg'.2

def stCells (L : List (St × Value)) : List Value := L.flatMap fun p => stV p.1 p.2
/-- a pattern that is being made, in block ob -/
structure U9 (w : World) (ts : List Tok) (b blk off cap rb ob : Nat) (L : List (St × Value)) (v : Value) (win : Int) (at0 : Nat) (bad : Bool) (W : World) : Prop where
  p : P9 ts b blk off cap at0 bad W
  r : Holds W rb 24 #[.slice none 0 0, .int .i64 0]
  o : Holds W ob 24 #[v, .int .i64 win]
  row : W.ownsRow (b + 1) 27 6 v L.length (stCells L)
  cm : ∀ p ∈ L, W.ownsRow (b + 1) 31 9 p.2 p.1.cmps.length (p.1.cmps.flatMap cmV)
  g : Below w.heap.size w W
  n : w.heap.size ≤ rb ∧ rb < b ∧ blk < b ∧ b < ob
section
variable {w W W' : World} {ts : List Tok} {b blk off cap rb ob at0 at1 : Nat} {L : List (St × Value)} {v v' : Value} {win : Int} {bad bad1 : Bool}
theorem U9.move (h : U9 w ts b blk off cap rb ob L v win at0 bad W) (hp : P9 ts b blk off cap at1 bad1 W') (hg : W.grownBy W' (some b)) : U9 w ts b blk off cap rb ob L v win at1 bad1 W' :=
  ⟨hp, h.r.grown hg (fun e => by have := Option.some.inj e; have := h.n; omega), h.o.grown hg (fun e => by have := Option.some.inj e; have := h.n; omega),
    h.row.kept hg (.inr (row_far h.row (Nat.lt_succ_self b)).symm), fun p hp => (h.cm p hp).kept hg (.inr (row_far (h.cm p hp) (Nat.lt_succ_self b)).symm),
    h.g.grown hg h.g.size (fun k e => by have := Option.some.inj e; have := h.n; omega), h.n⟩
theorem U9.later (h : U9 w ts b blk off cap rb ob L v win at0 bad W) (hb : Below W.heap.size W W') : U9 w ts b blk off cap rb ob L v win at0 bad W' := h.move (h.p.later hb) (grown_of_below' hb _)
theorem U9.app (h : U9 w ts b blk off cap rb ob L v win at0 bad W) {s : St} {u : Value} (hc : W.ownsRow (b + 1) 31 9 u s.cmps.length (s.cmps.flatMap cmV)) (hg : W.grownBy W' v.ownBlock)
    (hr : W'.ownsRow (b + 1) 27 6 v' (L.length + 1) (stCells L ++ stV s u)) : U9 w ts b blk off cap rb ob (L ++ [(s, u)]) v' win at0 bad (W'.setCell ⟨ob, 0, none⟩ v') := by
  have hn := h.n
  have ho : Holds W' ob 24 #[v, .int .i64 win] := h.o.grown hg (holds_not_row h.o (by decide) h.row)
  have hcm : ∀ p ∈ L ++ [(s, u)], W.ownsRow (b + 1) 31 9 p.2 p.1.cmps.length (p.1.cmps.flatMap cmV) := fun p hp => by
    rcases List.mem_append.1 hp with hp | hp
    · exact h.cm p hp
    · obtain rfl := List.mem_singleton.1 hp; exact hc
  have hcm' : ∀ p ∈ L ++ [(s, u)], W'.ownsRow (b + 1) 31 9 p.2 p.1.cmps.length (p.1.cmps.flatMap cmV) := fun p hp => (hcm p hp).kept hg (rows_apart (hcm p hp) h.row (by decide))
  have hs := Lib.grownBy_setCell W' ob 0 v'
  have hp' := (h.p.grown hg (row_far h.row (Nat.lt_succ_self b)) (row_far h.row (by omega)))
  refine ⟨hp'.grown hs (fun e => by have := Option.some.inj e; omega) (fun e => by have := Option.some.inj e; omega), (h.r.grown hg (row_far h.row (by omega))).grown hs (fun e => by have := Option.some.inj e; omega), ho.set 0 v', ?_, ?_, ?_, hn⟩
  · have e : stCells (L ++ [(s, u)]) = stCells L ++ stV s u := by simp [stCells]
    rw [e, List.length_append]
    exact hr.kept hs (.inr (holds_not_row ho (by decide) hr).symm)
  · exact fun p hp => (hcm' p hp).kept hs (.inr (holds_not_row ho (by decide) (hcm' p hp)).symm)
  · exact (h.g.grown hg h.g.size (fun k e => by have := (h.row.lt k e).1; omega)).grown hs (by have := hg.size; have := h.g.size; omega) (fun k e => by have := Option.some.inj e; omega)
theorem U9.setW (h : U9 w ts b blk off cap rb ob L v win at0 bad W) (x : Int) : U9 w ts b blk off cap rb ob L v x at0 bad (W.setCell ⟨ob, 1, none⟩ (.int .i64 x)) := by
  have hn := h.n
  have hs := Lib.grownBy_setCell W ob 1 (.int .i64 x)
  exact ⟨h.p.grown hs (fun e => by have := Option.some.inj e; omega) (fun e => by have := Option.some.inj e; omega), h.r.grown hs (fun e => by have := Option.some.inj e; omega), h.o.set 1 _,
    h.row.kept hs (.inr (holds_not_row h.o (by decide) h.row).symm), fun p hp => (h.cm p hp).kept hs (.inr (holds_not_row h.o (by decide) (h.cm p hp)).symm),
    h.g.grown hs h.g.size (fun k e => by have := Option.some.inj e; omega), hn⟩
theorem U9.alloc (h : U9 w ts b blk off cap rb ob L v win at0 bad W) (o : Obj) : U9 w ts b blk off cap rb ob L v win at0 bad (W.alloc o) := h.later ((Below.refl _ _).alloc (Nat.le_refl _) o)
theorem U9.drewN (h : U9 w ts b blk off cap rb ob L v win at0 bad W) (n : Nat) : U9 w ts b blk off cap rb ob L v win at0 bad (W.drewN n) := h.later (below_drewN _ _ _)
theorem U9.step (hts : ts.length ≤ 4000) (hlt : at0 < ts.length) (i : Int) (strict : Bool) (h : U9 w ts b blk off cap rb ob L v win at0 bad W) :
    Calls Tryd.prog 72 #[.pointer (some ⟨b, 0, none⟩), .int .i64 i, .bool strict] W fun e w' => ∃ (s : St) (ua : Option Addr) (uc a9 : Nat) (d9 : Bool),
      e = .returned (.agg #[.bool s.neg, .int .i64 s.kind, .int .i64 s.min, .int .i64 s.max, .bool s.strict, .slice ua s.cmps.length uc]) ∧ Out9 ts at0 bad (pStep i strict (ts.drop at0)) s a9 d9 ∧ U9 w ts b blk off cap rb ob L v win a9 d9 w' ∧
      w'.ownsRow (b + 1) 31 9 (.slice ua s.cmps.length uc) s.cmps.length (s.cmps.flatMap cmV) := by
  refine (ref9_step ts hts b blk off cap at0 bad hlt i strict W h.p).mono ?_
  rintro e w' ⟨nt, k, mn, mx, u, cs, a9, d9, rfl, o, p, g, hr⟩
  obtain ⟨ua, uc, rfl, -, -, -, -⟩ := cmps_of_row hr
  exact ⟨⟨nt, k, mn, mx, strict, cs⟩, ua, uc, a9, d9, rfl, o, h.move p g, hr.mono (by have := h.p.hold.size; omega)⟩
theorem U9.is {t : Tok} (ht : ts[at0]? = some t) (c : Int) (hc0 : 0 ≤ c) (hc1 : c ≤ 255) (h : U9 w ts b blk off cap rb ob L v win at0 bad W) :
    Calls Tryd.prog 73 #[.pointer (some ⟨b, 0, none⟩), .int .u8 c] W fun e w' => e = .returned (.bool (!bad && ((t.kind == 5) && (t.n == c)))) ∧ U9 w ts b blk off cap rb ob L v win at0 bad w' := by
  refine (ref9_is ts b blk off cap at0 bad t ht c hc0 hc1 W h.p).mono ?_
  rintro e w' ⟨rfl, hb⟩
  exact ⟨rfl, h.later hb⟩
theorem st_cells_get (L : List (St × Value)) (i : Nat) (q : St × Value) (h : L[i]? = some q) (j : Nat) (v : Value) (hj : (stV q.1 q.2)[j]? = some v) : (stCells L)[i * 6 + j]? = some v := by
  unfold stCells
  induction L generalizing i with
  | nil => simp at h
  | cons x r ih =>
    have hx : (stV x.1 x.2).length = 6 := rfl
    cases i with
    | zero =>
      obtain rfl : x = q := by simpa using h
      have hj6 : j < 6 := by have := (List.getElem?_eq_some_iff.1 hj).1; omega
      rw [List.flatMap_cons, List.getElem?_append_left (by omega)]
      simpa using hj
    | succ i =>
      rw [List.flatMap_cons, List.getElem?_append_right (by omega), hx, show (i + 1) * 6 + j - 6 = i * 6 + j by omega]
      exact ih i (by simpa using h)
theorem steps_of_row {n₀ : Nat} (h : W.ownsRow n₀ 27 6 v L.length (stCells L)) (hc : ∀ p ∈ L, CmpsV W p.2 p.1.cmps) : StepsV W v (L.map Prod.fst) := by
  unfold StepsV
  rw [List.length_map]
  rcases h.2 with ⟨rfl, he⟩ | ⟨g, cap, cur, rfl, _, hg, hcp, hm, _⟩
  · refine ⟨none, 0, by rw [he], by omega, by omega, fun _ => rfl, .inl (by rw [List.eq_nil_of_length_eq_zero he]; rfl)⟩
  · refine ⟨some ⟨g, 0, none⟩, cap, rfl, by omega, by unfold maxLen at *; omega, (fun e => nomatch e), .inr ⟨g, 0, rfl, fun i s hi => ?_⟩⟩
    rw [List.getElem?_map] at hi
    obtain ⟨q, hq, rfl⟩ := Option.map_eq_some_iff.1 hi
    refine ⟨q.2, hc q (List.mem_of_getElem? hq), fun j u hj => ?_⟩
    have hil := (List.getElem?_eq_some_iff.1 hq).1
    have hj6 : j < 6 := (List.getElem?_eq_some_iff.1 hj).1
    rw [Nat.zero_add, h.cellAt (i * 6 + j) (by omega), st_cells_get L i q hq j u hj]
theorem U9.fin (h : U9 w ts b blk off cap rb ob L v win at0 bad W) (x y : Value) : Holds ((W.setCell ⟨rb, 0, none⟩ x).setCell ⟨rb, 1, none⟩ y) rb 24 #[x, y] ∧ Below w.heap.size w ((W.setCell ⟨rb, 0, none⟩ x).setCell ⟨rb, 1, none⟩ y) ∧
    PatV ((W.setCell ⟨rb, 0, none⟩ x).setCell ⟨rb, 1, none⟩ y) (.agg #[v, .int .i64 win]) ⟨L.map Prod.fst, win⟩ := by
  have hn := h.n
  have h1 := Lib.grownBy_setCell W rb 0 x
  have h2 := Lib.grownBy_setCell (W.setCell ⟨rb, 0, none⟩ x) rb 1 y
  have hg : W.grownBy ((W.setCell ⟨rb, 0, none⟩ x).setCell ⟨rb, 1, none⟩ y) (some rb) := h1.trans h2
  refine ⟨(h.r.set 0 x).set 1 y, h.g.grown hg h.g.size (fun k e => by have := Option.some.inj e; omega), _, rfl, steps_of_row (h.row.kept hg (.inr (row_far h.row (by omega)).symm)) fun p hp => ?_⟩
  exact cmps_of_row ((h.cm p hp).kept hg (.inr (row_far (h.cm p hp) (by omega)).symm))
end
end Go.Proofs.YtafgincpoahefaaDoor
