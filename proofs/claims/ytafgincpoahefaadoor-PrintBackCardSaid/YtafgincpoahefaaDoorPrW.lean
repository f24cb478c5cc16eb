/-
  stragglelaw10.known, wakes.
-/
import Derived.Test.YtafgincpoahefaaDoorPr12
namespace Go.Proofs.YtafgincpoahefaaDoor
open Go.RowKit

def kC : Cm := ⟨1, ⟨2, 0, 1, 0⟩, ⟨2, -5, 0, 0⟩⟩
def kS1 (st : Bool) : St := ⟨false, 1, 1, 1, st, []⟩
def kS2 : St := ⟨false, 2, 1, 3, true, [kC]⟩
def kP (st : Bool) : Pt := ⟨[kS1 st, kS2], 60⟩
theorem cmpsV_one (W : World) (g : Nat) (c : Cm) (h : Holds W g 31 (cmV c).toArray) : CmpsV W (.slice (some ⟨g, 0, none⟩) 1 1) [c] := by
  refine ⟨some ⟨g, 0, none⟩, 1, rfl, Nat.le_refl _, by simp, (fun h => nomatch h), .inr ⟨g, 0, rfl, fun i c' hi j v hj => ?_⟩⟩
  have : i = 0 := by have := (List.getElem?_eq_some_iff.1 hi).1; simp at this; omega
  subst this
  simp only [List.getElem?_cons_zero, Option.some.injEq] at hi
  subst hi
  rw [show 0 + 0 * 9 + j = j from by omega, h.cell j]
  simpa using hj
theorem cmpsV_nil (W : World) : CmpsV W (.slice none 0 0) [] := ⟨none, 0, rfl, Nat.le_refl _, by simp, fun _ => rfl, .inl rfl⟩
theorem stepsV_nil (W : World) : StepsV W (.slice none 0 0) [] := ⟨none, 0, rfl, Nat.le_refl _, by simp, fun _ => rfl, .inl rfl⟩
theorem stepsV_two (W : World) (g : Nat) (s1 s2 : St) (v1 v2 : Value) (h : Holds W g 27 (stV s1 v1 ++ stV s2 v2).toArray) (h1 : CmpsV W v1 s1.cmps) (h2 : CmpsV W v2 s2.cmps) : StepsV W (.slice (some ⟨g, 0, none⟩) 2 2) [s1, s2] := by
  refine ⟨some ⟨g, 0, none⟩, 2, rfl, Nat.le_refl _, by simp, (fun h => nomatch h), .inr ⟨g, 0, rfl, fun i s hi => ?_⟩⟩
  have hi2 : i = 0 ∨ i = 1 := by have := (List.getElem?_eq_some_iff.1 hi).1; simp at this; omega
  rcases hi2 with rfl | rfl
  · simp only [List.getElem?_cons_zero, Option.some.injEq] at hi
    subst hi
    refine ⟨v1, h1, fun j u hj => ?_⟩
    have hj6 : j < 6 := by have := (List.getElem?_eq_some_iff.1 hj).1; simpa [stV] using this
    rw [show 0 + 0 * 6 + j = j from by omega, h.cell j]
    simp only [List.getElem?_toArray]
    rw [List.getElem?_append_left (by simpa [stV] using hj6)]; exact hj
  · simp only [List.getElem?_cons_succ, List.getElem?_cons_zero, Option.some.injEq] at hi
    subst hi
    refine ⟨v2, h2, fun j u hj => ?_⟩
    rw [show 0 + 1 * 6 + j = 6 + j from by omega, h.cell (6 + j)]
    simp only [List.getElem?_toArray]
    rw [List.getElem?_append_right (by simp [stV])]
    simpa [stV] using hj
theorem results_pat {P : Program} {fn : Func} {p : Tmp} {ty : TypeId} (h : fn.results = #[.cell p ty]) (tmps : Array Value) (w : World) (b : Nat) (t : TypeId) (cs : Array Value) (d : TypeDesc)
    (hp : tmps.getD p undef = .pointer (some ⟨b, 0, none⟩)) (hb : Holds w b t cs) (hu : P.underlying ty = some d) (hd : (match d with | .struct _ | .array _ _ => true | _ => false) = true) (hi : (P.info? ty).map (·.size) = some cs.size) :
    (results fn tmps).run P w = .ok (.agg cs) w := by
  have hp' : tmps[p]?.getD undef = .pointer (some ⟨b, 0, none⟩) := by simpa using hp
  simp [results, h, hp', asAddr, run_loadVar_row w b t ty cs (0, 0) d hb hu hd hi]

set_option maxRecDepth 100000 in
set_option maxHeartbeats 1000000 in
theorem known10 (w : World) : Calls Tryd.prog 56 #[] w fun e w' => ∃ g c, e = .returned (.agg #[.slice (some ⟨g, 0, none⟩) 2 2, .int .i64 60]) ∧ w.heap.size ≤ g ∧ w.heap.size ≤ c ∧ g ≠ c ∧
    Holds w' g 27 (stV (kS1 false) (.slice none 0 0) ++ stV kS2 (.slice (some ⟨c, 0, none⟩) 1 1)).toArray ∧ Holds w' c 31 (cmV kC).toArray ∧ Below w.heap.size w w' := by
  go_enter Tryd.func56, Tryd.ntmps56
  go_wp2_with fail
  exact bodyPost_ret (results_pat rfl _ _ w.heap.size 24 #[.slice (some ⟨w.heap.size + 1 + 1 + 1, 0, none⟩) 2 2, .int .i64 60] _ rfl
      ((((Holds.fresh w _ _).alloc _).alloc _).alloc _) Tryd.underlying24 rfl (by kernel_rfl)) rfl
    ⟨w.heap.size + 1 + 1 + 1, w.heap.size + 1 + 1, rfl, by omega, by omega, by omega, Holds.fresh' (by simp) _ _, (Holds.fresh' (by simp) _ _).alloc _,
      ((((Below.refl _ _).alloc (Nat.le_refl _) _).alloc (by simp) _).alloc (by simp; omega) _).alloc (by simp; omega) _⟩
theorem kP_wf (st : Bool) : ∀ s ∈ (kP st).steps, stWf s := by
  intro s hs
  simp only [kP, List.mem_cons, List.not_mem_nil, or_false] at hs
  rcases hs with rfl | rfl
  · refine ⟨by simp [kS1, bnd], by simp [kS1, bnd], by simp [kS1, bnd], fun c hc => by simp [kS1] at hc⟩
  · refine ⟨by simp [kS2, bnd], by simp [kS2, bnd], by simp [kS2, bnd], fun c hc => ?_⟩
    simp only [kS2, List.mem_cons, List.not_mem_nil, or_false] at hc
    subst hc
    simp [cmWf, tmWf, kC, bnd8, bnd]
theorem kP_text : printT (kP false) = ([49, 97, 44, 50, 98, 123, 49, 44, 51, 125, 91, 120, 40, 98, 41, 60, 120, 40, 97, 41, 45, 53, 93, 32, 119, 105, 116, 104, 105, 110, 32, 54, 48], 0) := by decide +kernel
theorem kP_bad : printT (kP true) = ([], 2) := by decide +kernel
theorem kP_none : printT ⟨[], 0⟩ = ([], 2) := by decide +kernel
theorem kS2_text : stepT kS2 1 = [50, 98, 123, 49, 44, 51, 125, 91, 120, 40, 98, 41, 60, 120, 40, 97, 41, 45, 53, 93] := by decide +kernel
theorem kC_text : cmpT kC = [120, 40, 98, 41, 60, 120, 40, 97, 41, 45, 53] := by decide +kernel
theorem kT1_text : termT ⟨5, 7, 0, 3⟩ = [100, 40, 97, 44, 100, 41, 43, 55] := by decide +kernel
theorem kT2_text : termT ⟨0, -9, 0, 0⟩ = [45, 57] := by decide +kernel
theorem kT3_text : termT ⟨9, 0, 0, 0⟩ = [] := by decide +kernel

/-- the two patterns as they lie -/
structure KW (w : World) (g1 c1 g2 c2 z : Nat) (W : World) : Prop where
  s1 : Holds W g1 27 #[.bool false, .int .i64 1, .int .i64 1, .int .i64 1, .bool false, .slice none 0 0, .bool false, .int .i64 2, .int .i64 1, .int .i64 3, .bool true, .slice (some ⟨c1, 0, none⟩) 1 1]
  k1 : Holds W c1 31 #[.int .u8 1, .int .u8 2, .int .i64 0, .int .i64 1, .int .i64 0, .int .u8 2, .int .i64 (-5), .int .i64 0, .int .i64 0]
  s2 : Holds W g2 27 #[.bool false, .int .i64 1, .int .i64 1, .int .i64 1, .bool true, .slice none 0 0, .bool false, .int .i64 2, .int .i64 1, .int .i64 3, .bool true, .slice (some ⟨c2, 0, none⟩) 1 1]
  k2 : Holds W c2 31 #[.int .u8 1, .int .u8 2, .int .i64 0, .int .i64 1, .int .i64 0, .int .u8 2, .int .i64 (-5), .int .i64 0, .int .i64 0]
  p1 : Holds W z 24 #[.slice (some ⟨g1, 0, none⟩) 2 2, .int .i64 60]
  p2 : Holds W (z + 1) 24 #[.slice (some ⟨g2, 0, none⟩) 2 2, .int .i64 60]
  below : Below w.heap.size w W
theorem KW.later {w W W' : World} {g1 c1 g2 c2 z : Nat} (h : KW w g1 c1 g2 c2 z W) (hb : Below W.heap.size W W') : KW w g1 c1 g2 c2 z W' :=
  ⟨h.s1.later hb, h.k1.later hb, h.s2.later hb, h.k2.later hb, h.p1.later hb, h.p2.later hb, h.below.trans (hb.mono h.below.size)⟩
theorem KW.cells {w W : World} {g1 c1 g2 c2 z : Nat} (h : KW w g1 c1 g2 c2 z W) :
    (W.cell? ⟨z, 0, none⟩ = some (.slice (some ⟨g1, 0, none⟩) 2 2) ∧ W.cell? ⟨z, 1, none⟩ = some (.int .i64 60) ∧ W.cell? ⟨z + 1, 0, none⟩ = some (.slice (some ⟨g2, 0, none⟩) 2 2) ∧ W.cell? ⟨z + 1, 1, none⟩ = some (.int .i64 60)) ∧
    (W.cell? ⟨g1, 6, none⟩ = some (.bool false) ∧ W.cell? ⟨g1, 7, none⟩ = some (.int .i64 2) ∧ W.cell? ⟨g1, 8, none⟩ = some (.int .i64 1) ∧ W.cell? ⟨g1, 9, none⟩ = some (.int .i64 3) ∧ W.cell? ⟨g1, 10, none⟩ = some (.bool true) ∧ W.cell? ⟨g1, 11, none⟩ = some (.slice (some ⟨c1, 0, none⟩) 1 1)) ∧
    (W.cell? ⟨c1, 0, none⟩ = some (.int .u8 1) ∧ W.cell? ⟨c1, 1, none⟩ = some (.int .u8 2) ∧ W.cell? ⟨c1, 2, none⟩ = some (.int .i64 0) ∧ W.cell? ⟨c1, 3, none⟩ = some (.int .i64 1) ∧ W.cell? ⟨c1, 4, none⟩ = some (.int .i64 0) ∧ W.cell? ⟨c1, 5, none⟩ = some (.int .u8 2) ∧ W.cell? ⟨c1, 6, none⟩ = some (.int .i64 (-5)) ∧ W.cell? ⟨c1, 7, none⟩ = some (.int .i64 0) ∧ W.cell? ⟨c1, 8, none⟩ = some (.int .i64 0)) :=
  ⟨⟨h.p1.cell 0, h.p1.cell 1, h.p2.cell 0, h.p2.cell 1⟩, ⟨h.s1.cell 6, h.s1.cell 7, h.s1.cell 8, h.s1.cell 9, h.s1.cell 10, h.s1.cell 11⟩, h.k1.cell 0, h.k1.cell 1, h.k1.cell 2, h.k1.cell 3, h.k1.cell 4, h.k1.cell 5, h.k1.cell 6, h.k1.cell 7, h.k1.cell 8⟩

set_option maxRecDepth 100000 in
set_option maxHeartbeats 4000000 in
theorem wakes10 (w : World) (hG : GP w) : Calls Tryd.prog 22 #[] w fun e w' => e = .returned (.bool true) ∧ Below w.heap.size w w' := by
  have cp := fun (W : World) (hb : Below w.heap.size w W) (g c : Nat) (h1 : Holds W g 27 (stV (kS1 false) (.slice none 0 0) ++ stV kS2 (.slice (some ⟨c, 0, none⟩) 1 1)).toArray) (h2 : Holds W c 31 (cmV kC).toArray) =>
    print_Print (kP false) (kP_wf false) (by simp [kP, bnd]) (by decide) (.agg #[.slice (some ⟨g, 0, none⟩) 2 2, .int .i64 60]) W ⟨_, rfl, stepsV_two W g _ _ _ _ h1 (cmpsV_nil W) (cmpsV_one W c kC h2)⟩ (hG.mono hb)
  have cq := fun (W : World) (hb : Below w.heap.size w W) (g c : Nat) (h1 : Holds W g 27 (stV (kS1 true) (.slice none 0 0) ++ stV kS2 (.slice (some ⟨c, 0, none⟩) 1 1)).toArray) (h2 : Holds W c 31 (cmV kC).toArray) =>
    print_Print (kP true) (kP_wf true) (by simp [kP, bnd]) (by decide) (.agg #[.slice (some ⟨g, 0, none⟩) 2 2, .int .i64 60]) W ⟨_, rfl, stepsV_two W g _ _ _ _ h1 (cmpsV_nil W) (cmpsV_one W c kC h2)⟩ (hG.mono hb)
  have cz := fun (W : World) (hb : Below w.heap.size w W) => print_Print ⟨[], 0⟩ (fun s hs => by simp at hs) (by simp [bnd]) (by decide) (.agg #[.slice none 0 0, .int .i64 0]) W ⟨_, rfl, stepsV_nil W⟩ (hG.mono hb)
  have cs := fun (W : World) (hb : Below w.heap.size w W) (c : Nat) (h2 : Holds W c 31 (cmV kC).toArray) => print_Step kS2 1 (kP_wf false kS2 (by simp [kP])) (by simp [kS2]) (.slice (some ⟨c, 0, none⟩) 1 1) W (cmpsV_one W c kC h2) (hG.mono hb)
  have cc := fun (W : World) (hb : Below w.heap.size w W) => print_Cmp kC (by simp [cmWf, tmWf, kC, bnd8, bnd]) W (hG.mono hb)
  have ct1 := fun (W : World) (hb : Below w.heap.size w W) => print_Term ⟨5, 7, 0, 3⟩ (by simp [tmWf, bnd8, bnd]) W (hG.mono hb)
  have ct2 := fun (W : World) (hb : Below w.heap.size w W) => print_Term ⟨0, -9, 0, 0⟩ (by simp [tmWf, bnd8, bnd]) W (hG.mono hb)
  have ct3 := fun (W : World) (hb : Below w.heap.size w W) => print_Term ⟨9, 0, 0, 0⟩ (by simp [tmWf, bnd8, bnd]) W (hG.mono hb)
  have co1 := fun (W : World) (hb : Below w.heap.size w W) => print_Op 4 (by simp [bnd8]) W (hG.mono hb)
  have co2 := fun (W : World) (hb : Below w.heap.size w W) => print_Op 0 (by simp [bnd8]) W (hG.mono hb)
  have cl1 := fun (W : World) => print_Letter 25 W
  have cl2 := fun (W : World) => print_Letter 26 W
  rw [kP_text] at cp
  rw [kP_bad] at cq
  rw [kP_none] at cz
  rw [kS2_text] at cs
  rw [kC_text] at cc
  rw [kT1_text] at ct1
  rw [kT2_text] at ct2
  rw [kT3_text] at ct3
  rw [show opT 4 = [33, 61] from by decide] at co1
  rw [show opT 0 = [] from by decide] at co2
  rw [show letterT 25 = [122] from by decide] at cl1
  rw [show letterT 26 = [] from by decide] at cl2
  simp only [stA, cmA, tmA, sV, kS2, kC, kS1, stV, cmV] at cp cq cz cs cc ct1 ct2 ct3 co1 co2 cl1 cl2
  have kn := fun W => known10 W
  simp only [stV, cmV, kS1, kS2, kC] at kn
  have CP := Lib.hid cp; clear cp
  have CQ := Lib.hid cq; clear cq
  have CZ := Lib.hid cz; clear cz
  have CS := Lib.hid cs; clear cs
  have CC := Lib.hid cc; clear cc
  have CT1 := Lib.hid ct1; clear ct1
  have CT2 := Lib.hid ct2; clear ct2
  have CT3 := Lib.hid ct3; clear ct3
  have CO1 := Lib.hid co1; clear co1
  have CO2 := Lib.hid co2; clear co2
  have CL1 := Lib.hid cl1; clear cl1
  have CL2 := Lib.hid cl2; clear cl2
  have KN := Lib.hid kn; clear kn
  go_enter Tryd.func22, Tryd.ntmps22
  go_wp2_with fail
  refine (KN.out _).mono ?_
  rintro e w1 ⟨g1, c1, rfl, l1, m1, n1, hs1, hc1, hb1⟩
  go_wp2_with fail
  refine (KN.out _).mono ?_
  rintro e w2 ⟨g2, c2, rfl, l2, m2, n2, hs2, hc2, hb2⟩
  have hs1' := hs1.later hb2
  have hc1' := hc1.later hb2
  have hB2 := hb1.trans (hb2.mono hb1.size)
  have x1 := hs1.size
  have y1 := hc1.size
  have x2 := hs2.size
  have y2 := hc2.size
  have q4 : w2.cell? ⟨g2, 4, none⟩ = some (.bool false) := hs2.cell 4
  have q4f := hs2.free 4
  have HS1 := Lib.hid hs1'
  have HC1 := Lib.hid hc1'
  have HS2 := Lib.hid hs2
  have HC2 := Lib.hid hc2
  have HB2 := Lib.hid hB2
  have hsz := hB2.size
  clear hs1 hs1' hc1 hc1' hs2 hc2 hB2 hb1 hb2
  go_wp2_with fail
  have kw : KW w g1 c1 g2 c2 w2.heap.size (((w2.setCell ⟨g2, 4, none⟩ (.bool true)).alloc (.cells #[.slice (some ⟨g1, 0, none⟩) 2 2, .int .i64 60] 24)).alloc (.cells #[.slice (some ⟨g2, 0, none⟩) 2 2, .int .i64 60] 24)) := by
    have hn1 : g1 ≠ g2 := by omega
    have hn2 : c1 ≠ g2 := by omega
    refine ⟨((HS1.out.far (p := ⟨g2, 4, none⟩) hn1 _).alloc _).alloc _, ((HC1.out.far (p := ⟨g2, 4, none⟩) hn2 _).alloc _).alloc _, ((HS2.out.set 4 (.bool true)).alloc _).alloc _, ((HC2.out.far (p := ⟨g2, 4, none⟩) n2.symm _).alloc _).alloc _, (Holds.fresh' (by simp) _ _).alloc _, Holds.fresh' (by simp) _ _, ?_⟩
    exact ((HB2.out.setCell (p := ⟨g2, 4, none⟩) (by show w.heap.size ≤ g2; omega) _).alloc (by simp; omega) _).alloc (by simp; omega) _
  generalize (((w2.setCell ⟨g2, 4, none⟩ (.bool true)).alloc (.cells #[.slice (some ⟨g1, 0, none⟩) 2 2, .int .i64 60] 24)).alloc (.cells #[.slice (some ⟨g2, 0, none⟩) 2 2, .int .i64 60] 24)) = W3 at *
  generalize w2.heap.size = z at *
  clear HS1 HC1 HS2 HC2 HB2 q4 q4f x1 y1 x2 y2 hsz l1 m1 n1 l2 m2 n2
  refine (CP.out W3 kw.below g1 c1 kw.s1 kw.k1).mono ?_
  rintro e w4 ⟨rfl, hb4⟩
  replace kw := kw.later hb4
  obtain ⟨⟨d0, d1, d2, d3⟩, _, _⟩ := kw.cells
  have KW4 := Lib.hid kw; clear kw hb4
  go_wp2_with fail
  refine (CQ.out w4 KW4.out.below g2 c2 KW4.out.s2 KW4.out.k2).mono ?_
  rintro e w5 ⟨rfl, hb5⟩
  have kw := KW4.out.later hb5
  clear d0 d1 d2 d3
  have KW5 := Lib.hid kw; clear kw hb5 KW4
  go_wp2_with fail
  refine (CZ.out w5 KW5.out.below).mono ?_
  rintro e w6 ⟨rfl, hb6⟩
  have kw := KW5.out.later hb6
  obtain ⟨⟨d0, d1, d2, d3⟩, ⟨e0, e1, e2, e3, e4, e5⟩, _⟩ := kw.cells
  have KW6 := Lib.hid kw; clear kw hb6 KW5
  go_wp2_with fail
  refine (CS.out w6 KW6.out.below c1 KW6.out.k1).mono ?_
  rintro e w7 ⟨rfl, hb7⟩
  have kw := KW6.out.later hb7
  clear d0 d1 d2 d3 e0 e1 e2 e3 e4 e5
  obtain ⟨⟨d0, d1, d2, d3⟩, ⟨e0, e1, e2, e3, e4, e5⟩, f0, f1, f2, f3, f4, f5, f6, f7, f8⟩ := kw.cells
  have KW7 := Lib.hid kw; clear kw hb7 KW6
  go_wp2_with fail
  refine (CC.out w7 KW7.out.below).mono ?_
  rintro e w8 ⟨rfl, hb8⟩
  clear d0 d1 d2 d3 e0 e1 e2 e3 e4 e5 f0 f1 f2 f3 f4 f5 f6 f7 f8
  have hB := KW7.out.below.trans (hb8.mono KW7.out.below.size)
  have HB8 := Lib.hid hB; clear hB hb8 KW7
  go_wp2_with fail
  refine (CT1.out w8 HB8.out).mono ?_
  rintro e w9 ⟨rfl, hb9⟩
  have hB := HB8.out.trans (hb9.mono HB8.out.size)
  have HB9 := Lib.hid hB; clear hB hb9 HB8
  go_wp2_with fail
  refine (CT2.out w9 HB9.out).mono ?_
  rintro e w10 ⟨rfl, hb10⟩
  have hB := HB9.out.trans (hb10.mono HB9.out.size)
  have HB10 := Lib.hid hB; clear hB hb10 HB9
  go_wp2_with fail
  refine (CT3.out w10 HB10.out).mono ?_
  rintro e w11 ⟨rfl, hb11⟩
  have hB := HB10.out.trans (hb11.mono HB10.out.size)
  have HB11 := Lib.hid hB; clear hB hb11 HB10
  go_wp2_with fail
  refine (CO1.out w11 HB11.out).mono ?_
  rintro e w12 ⟨rfl, rfl⟩
  go_wp2_with fail
  refine (CO2.out w11 HB11.out).mono ?_
  rintro e w12 ⟨rfl, rfl⟩
  go_wp2_with fail
  refine (CL1.out w11).mono ?_
  rintro e w12 ⟨rfl, rfl⟩
  go_wp2_with fail
  refine (CL2.out w11).mono ?_
  rintro e w12 ⟨rfl, rfl⟩
  go_wp2_with fail
  go_ret
  exact ⟨rfl, HB11.out⟩
end Go.Proofs.YtafgincpoahefaaDoor
