/-
  stragglelaw10.PrintBack: true of any pattern.
-/
import Derived.Test.YtafgincpoahefaaDoorPrL3
import Derived.Test.YtafgincpoahefaaDoorRef9i
import Derived.Test.YtafgincpoahefaaDoorRef8t
namespace Go.Proofs.YtafgincpoahefaaDoor
open Go.RowKit

set_option maxRecDepth 100000 in
set_option maxHeartbeats 8000000 in
theorem printBack_great (p : Pt) (u : Value) (w : World) (hp : StepsV w u p.steps) (hG : GP w) (hg : greatB p = true) :
    Calls Tryd.prog 4 #[.agg #[u, .int .i64 p.window]] w fun e w' => e = .returned (.bool true) ∧ Below w.heap.size w w' := by
  have bx := BP.fresh w #[u, .int .i64 p.window]
  have cg := fun W (hb : BP w #[u, .int .i64 p.window] W) => hb.ret (ref8_Great p (.agg #[u, .int .i64 p.window]) W ⟨u, rfl, hp.mono hb.below (Nat.le_refl _)⟩)
  have c6 := fun W (hb : BP w #[u, .int .i64 p.window] W) => hb.ret (wakes10 W (hG.mono hb.below))
  rw [hg] at cg
  obtain ⟨ss, pw⟩ := p
  simp only at *
  have BX0 := Lib.hid bx; clear bx
  have CG := Lib.hid cg; clear cg
  have C6 := Lib.hid c6; clear c6
  clear hp hG hg
  go_enter Tryd.func4, Tryd.ntmps4
  go_wp2_with fail
  refine (CG.out _ BX0.out).mono ?_
  rintro e w1 ⟨rfl, bx1⟩
  have BX1 := Lib.hid bx1; clear bx1 BX0
  go_wp2_with fail
  refine (C6.out _ BX1.out).mono ?_
  rintro e w3 ⟨rfl, bx3⟩
  go_wp2_with fail
  go_ret
  exact ⟨rfl, bx3.below⟩

set_option maxRecDepth 100000 in
set_option maxHeartbeats 8000000 in
theorem printBack_wrong (p : Pt) (u : Value) (w : World) (hp : StepsV w u p.steps) (hpb : bnd p.window) (hpw : ∀ s ∈ p.steps, stWf s) (hG : GP w) (hg : greatB p = false) (hb : ptB p = false) :
    Calls Tryd.prog 4 #[.agg #[u, .int .i64 p.window]] w fun e w' => e = .returned (.bool true) ∧ Below w.heap.size w w' := by
  have bx := BP.fresh w #[u, .int .i64 p.window]
  have cg := fun W (hb : BP w #[u, .int .i64 p.window] W) => hb.ret (ref8_Great p (.agg #[u, .int .i64 p.window]) W ⟨u, rfl, hp.mono hb.below (Nat.le_refl _)⟩)
  have c1 := fun W (hb : BP w #[u, .int .i64 p.window] W) => hb.ret (print_Print p hpw hpb hg (.agg #[u, .int .i64 p.window]) W ⟨u, rfl, hp.mono hb.below (Nat.le_refl _)⟩ (hG.mono hb.below))
  have cr := fun W (hb : BP w #[u, .int .i64 p.window] W) => hb.ret (ref8_Right p (.agg #[u, .int .i64 p.window]) W ⟨u, rfl, hp.mono hb.below (Nat.le_refl _)⟩ hpw)
  have c6 := fun W (hb : BP w #[u, .int .i64 p.window] W) => hb.ret (wakes10 W (hG.mono hb.below))
  rw [printT_no (by simp [hb])] at c1
  rw [show sV [] = .string ⟨#[]⟩ from rfl] at c1
  rw [hg] at cg
  rw [hb] at cr
  obtain ⟨ss, pw⟩ := p
  simp only at *
  have BX0 := Lib.hid bx; clear bx
  have CG := Lib.hid cg; clear cg
  have C1 := Lib.hid c1; clear c1
  have CR := Lib.hid cr; clear cr
  have C6 := Lib.hid c6; clear c6
  clear hp hG hg hb hpw hpb
  go_enter Tryd.func4, Tryd.ntmps4
  go_wp2_with fail
  refine (CG.out _ BX0.out).mono ?_
  rintro e w1 ⟨rfl, bx1⟩
  have d0 : w1.cell? ⟨w.heap.size, 0, none⟩ = some u := bx1.p.cell 0
  have d1 : w1.cell? ⟨w.heap.size, 1, none⟩ = some (.int .i64 pw) := bx1.p.cell 1
  have BX1 := Lib.hid bx1; clear bx1 BX0
  go_wp2_with fail
  refine (C1.out _ BX1.out).mono ?_
  rintro e w2 ⟨rfl, bx2⟩
  clear d0 d1
  have d0 : w2.cell? ⟨w.heap.size, 0, none⟩ = some u := bx2.p.cell 0
  have d1 : w2.cell? ⟨w.heap.size, 1, none⟩ = some (.int .i64 pw) := bx2.p.cell 1
  have BX2 := Lib.hid bx2; clear bx2 BX1
  go_wp2_with fail
  refine (CR.out _ BX2.out).mono ?_
  rintro e w3 ⟨rfl, bx3⟩
  clear d0 d1
  have BX3 := Lib.hid bx3; clear bx3 BX2
  go_wp2_with fail
  refine (C6.out _ BX3.out).mono ?_
  rintro e w4 ⟨rfl, bx4⟩
  go_wp2_with fail
  go_ret
  exact ⟨rfl, bx4.below⟩

/-- the first step's word is strict, where there is a step -/
theorem first_strict {ss : List St} {a : Option Addr} {w : World} (h : StepsAt w a ss) (hpos : 0 < ss.length) (pw : Int) : ∃ b off, a = some ⟨b, off, none⟩ ∧ w.cell? ⟨b, off + 4, none⟩ = some (.bool (strict0 ⟨ss, pw⟩)) := by
  obtain ⟨b, off, ca, cc, e, ⟨_, _, _, _, h4, _⟩, _⟩ := h.get 0 hpos
  refine ⟨b, off, e, ?_⟩
  rw [Nat.zero_mul, Nat.add_zero] at h4
  rw [h4]
  cases ss with
  | nil => simp at hpos
  | cons s r => rfl
set_option maxRecDepth 100000 in
set_option maxHeartbeats 8000000 in
theorem printBack_not (p : Pt) (u : Value) (w : World) (hp : StepsV w u p.steps) (hpb : bnd p.window) (hpw : ∀ s ∈ p.steps, stWf s) (hG : GP w) (hg : greatB p = false) (hb : ptB p = true) (pe : Int) (hpt : printT p = ([], pe)) (hc : strict0 p = true ∧ pe = 2 ∨ strict0 p = false ∧ pe = 91) :
    Calls Tryd.prog 4 #[.agg #[u, .int .i64 p.window]] w fun e w' => e = .returned (.bool true) ∧ Below w.heap.size w w' := by
  have bx := BP.fresh w #[u, .int .i64 p.window]
  have cg := fun W (hb : BP w #[u, .int .i64 p.window] W) => hb.ret (ref8_Great p (.agg #[u, .int .i64 p.window]) W ⟨u, rfl, hp.mono hb.below (Nat.le_refl _)⟩)
  have c1 := fun W (hb : BP w #[u, .int .i64 p.window] W) => hb.ret (print_Print p hpw hpb hg (.agg #[u, .int .i64 p.window]) W ⟨u, rfl, hp.mono hb.below (Nat.le_refl _)⟩ (hG.mono hb.below))
  have cr := fun W (hb : BP w #[u, .int .i64 p.window] W) => hb.ret (ref8_Right p (.agg #[u, .int .i64 p.window]) W ⟨u, rfl, hp.mono hb.below (Nat.le_refl _)⟩ hpw)
  have c6 := fun W (hb : BP w #[u, .int .i64 p.window] W) => hb.ret (wakes10 W (hG.mono hb.below))
  rw [hpt] at c1
  rw [show sV [] = .string ⟨#[]⟩ from rfl] at c1
  rw [hg] at cg
  rw [hb] at cr
  have hpos := (pt_facts hb).1
  obtain ⟨a, cap, rfl, hlc, hlen, _, hat⟩ := hp
  obtain ⟨ss, pw⟩ := p
  simp only at *
  obtain ⟨b, off, rfl, hst⟩ := first_strict hat hpos pw
  have hst' := fun W (hb : BP w #[.slice (some ⟨b, off, none⟩) ss.length cap, .int .i64 pw] W) => cell_mono hb.below (Nat.le_refl _) hst
  generalize strict0 ⟨ss, pw⟩ = st at *
  obtain ⟨m, hm⟩ : ∃ m, ss.length = m := ⟨_, rfl⟩
  simp only [hm] at *
  have BX0 := Lib.hid bx; clear bx
  have CG := Lib.hid cg; clear cg
  have C1 := Lib.hid c1; clear c1
  have CR := Lib.hid cr; clear cr
  have C6 := Lib.hid c6; clear c6
  have HST := Lib.hid hst'
  clear hat hG hg hb hpw hpb hpt hst hst' hm
  rcases hc with ⟨rfl, rfl⟩ | ⟨rfl, rfl⟩
  all_goals
    go_enter Tryd.func4, Tryd.ntmps4
    go_wp2_with fail
    refine (CG.out _ BX0.out).mono ?_
    rintro e w1 ⟨rfl, bx1⟩
    have d0 : w1.cell? ⟨w.heap.size, 0, none⟩ = some (.slice (some ⟨b, off, none⟩) m cap) := bx1.p.cell 0
    have d1 : w1.cell? ⟨w.heap.size, 1, none⟩ = some (.int .i64 pw) := bx1.p.cell 1
    have BX1 := Lib.hid bx1; clear bx1 BX0
    go_wp2_with fail
    refine (C1.out _ BX1.out).mono ?_
    rintro e w2 ⟨rfl, bx2⟩
    clear d0 d1
    have d0 : w2.cell? ⟨w.heap.size, 0, none⟩ = some (.slice (some ⟨b, off, none⟩) m cap) := bx2.p.cell 0
    have d1 : w2.cell? ⟨w.heap.size, 1, none⟩ = some (.int .i64 pw) := bx2.p.cell 1
    have BX2 := Lib.hid bx2; clear bx2 BX1
    go_wp2_with fail
    refine (CR.out _ BX2.out).mono ?_
    rintro e w3 ⟨rfl, bx3⟩
    clear d0 d1
    have d0 : w3.cell? ⟨w.heap.size, 0, none⟩ = some (.slice (some ⟨b, off, none⟩) m cap) := bx3.p.cell 0
    have d1 : w3.cell? ⟨w.heap.size, 1, none⟩ = some (.int .i64 pw) := bx3.p.cell 1
    have d2 := HST.out _ bx3
    have BX3 := Lib.hid bx3; clear bx3 BX2
    go_wp2_with fail
    refine (C6.out _ BX3.out).mono ?_
    rintro e w4 ⟨rfl, bx4⟩
    go_wp2_with fail
    go_ret
    exact ⟨rfl, bx4.below⟩

set_option maxRecDepth 100000 in
set_option maxHeartbeats 8000000 in
theorem printBack_text (p : Pt) (u : Value) (w : World) (hp : StepsV w u p.steps) (hpb : bnd p.window) (hpw : ∀ s ∈ p.steps, stWf s) (hG : GP w) (hg : greatB p = false) (h0 : (printT p).2 = 0) :
    Calls Tryd.prog 4 #[.agg #[u, .int .i64 p.window]] w fun e w' => e = .returned (.bool true) ∧ Below w.heap.size w w' := by
  obtain ⟨a1, a2, a3, a4⟩ := printT_ok h0
  obtain ⟨ts, t1, t2, t3, t4⟩ := pat_words a1 (okP_of hpw) a3
  have hpp := parse_print a1 (okP_of hpw) a2 a3
  have bx := BP.fresh w #[u, .int .i64 p.window]
  have cg := fun W (hb : BP w #[u, .int .i64 p.window] W) => hb.ret (ref8_Great p (.agg #[u, .int .i64 p.window]) W ⟨u, rfl, hp.mono hb.below (Nat.le_refl _)⟩)
  have c1 := fun W (hb : BP w #[u, .int .i64 p.window] W) => hb.ret (print_Print p hpw hpb hg (.agg #[u, .int .i64 p.window]) W ⟨u, rfl, hp.mono hb.below (Nat.le_refl _)⟩ (hG.mono hb.below))
  have cr := fun W (hb : BP w #[u, .int .i64 p.window] W) => hb.ret (ref8_Right p (.agg #[u, .int .i64 p.window]) W ⟨u, rfl, hp.mono hb.below (Nat.le_refl _)⟩ hpw)
  have c6 := fun W (hb : BP w #[u, .int .i64 p.window] W) => hb.ret (wakes10 W (hG.mono hb.below))
  rw [h0, a4] at c1
  rw [hg] at cg
  rw [a1] at cr
  obtain ⟨TX, eT, sT, rT⟩ := sV_gen (patT p) 2000 a3
  rw [eT] at c1
  have hTl : TX.data.toList = patT p := by rw [rT]
  rw [← hTl] at t1 hpp
  have hts : ts.length ≤ 4000 := by
    have := allOf_most TX.data.toList (by rw [show TX.data.toList.length = TX.size from rfl]; omega)
    rw [t1] at this
    simp only at this
    omega
  have cp := fun W => ref9_Parse_some TX (by omega) W ts hts t1
  unfold R9P at cp
  rw [hpp] at cp
  have cs := fun W (hb : BP w #[u, .int .i64 p.window] W) (v : Value) (hv : PatV W v p) => hb.ret (ref8_Same p p v (.agg #[u, .int .i64 p.window]) W hv ⟨u, rfl, hp.mono hb.below (Nat.le_refl _)⟩)
  rw [show decide (p = p) = true by simp] at cs
  have hpos := (pt_facts a1).1
  obtain ⟨a, cap, rfl, hlc, hlen, _, hat⟩ := hp
  obtain ⟨ss, pw⟩ := p
  simp only at *
  obtain ⟨b, off, rfl, hst⟩ := first_strict hat hpos pw
  rw [a2] at hst
  have hst' := fun W (hb : BP w #[.slice (some ⟨b, off, none⟩) ss.length cap, .int .i64 pw] W) => cell_mono hb.below (Nat.le_refl _) hst
  obtain ⟨m, hm⟩ : ∃ m, ss.length = m := ⟨_, rfl⟩
  simp only [hm] at *
  have hzle : TX.size ≤ 2000 := by omega
  have BX0 := Lib.hid bx; clear bx
  have CG := Lib.hid cg; clear cg
  have C1 := Lib.hid c1; clear c1
  have CR := Lib.hid cr; clear cr
  have CP := Lib.hid cp; clear cp
  have CS := Lib.hid cs; clear cs
  have C6 := Lib.hid c6; clear c6
  have HST := Lib.hid hst'
  clear hat hG hg hpw hpb hst hst' hm h0 a1 a2 a3 a4 t1 t2 t3 t4 eT rT hTl hpp
  go_enter Tryd.func4, Tryd.ntmps4
  go_wp2_with fail
  refine (CG.out _ BX0.out).mono ?_
  rintro e w1 ⟨rfl, bx1⟩
  have d0 : w1.cell? ⟨w.heap.size, 0, none⟩ = some (.slice (some ⟨b, off, none⟩) m cap) := bx1.p.cell 0
  have d1 : w1.cell? ⟨w.heap.size, 1, none⟩ = some (.int .i64 pw) := bx1.p.cell 1
  have BX1 := Lib.hid bx1; clear bx1 BX0
  go_wp2_with fail
  refine (C1.out _ BX1.out).mono ?_
  rintro e w2 ⟨rfl, bx2⟩
  clear d0 d1
  have d0 : w2.cell? ⟨w.heap.size, 0, none⟩ = some (.slice (some ⟨b, off, none⟩) m cap) := bx2.p.cell 0
  have d1 : w2.cell? ⟨w.heap.size, 1, none⟩ = some (.int .i64 pw) := bx2.p.cell 1
  have BX2 := Lib.hid bx2; clear bx2 BX1
  go_wp2_with fail
  refine (CR.out _ BX2.out).mono ?_
  rintro e w3 ⟨rfl, bx3⟩
  clear d0 d1
  have d0 : w3.cell? ⟨w.heap.size, 0, none⟩ = some (.slice (some ⟨b, off, none⟩) m cap) := bx3.p.cell 0
  have d1 : w3.cell? ⟨w.heap.size, 1, none⟩ = some (.int .i64 pw) := bx3.p.cell 1
  have d2 := HST.out _ bx3
  have BX3 := Lib.hid bx3; clear bx3 BX2 CG C1 CR HST
  go_wp2_with fail
  refine (CP.out _).mono ?_
  rintro e w4 ⟨v, rfl, hv, hb4⟩
  obtain ⟨x, rfl, hx⟩ := hv
  simp only at *
  have hbA := (Below.refl w4.heap.size w4).alloc (Nat.le_refl _) (.cells #[x, .int .i64 pw] 24)
  have bx4 := (BX3.out.later hb4).later hbA
  have zq := Holds.fresh w4 24 #[x, .int .i64 pw]
  have e0 : (w4.alloc (.cells #[x, .int .i64 pw] 24)).cell? ⟨w.heap.size, 0, none⟩ = some (.slice (some ⟨b, off, none⟩) m cap) := bx4.p.cell 0
  have e1 : (w4.alloc (.cells #[x, .int .i64 pw] 24)).cell? ⟨w.heap.size, 1, none⟩ = some (.int .i64 pw) := bx4.p.cell 1
  have q0 : (w4.alloc (.cells #[x, .int .i64 pw] 24)).cell? ⟨w4.heap.size, 0, none⟩ = some x := zq.cell 0
  have q1 : (w4.alloc (.cells #[x, .int .i64 pw] 24)).cell? ⟨w4.heap.size, 1, none⟩ = some (.int .i64 pw) := zq.cell 1
  have hxv : PatV (w4.alloc (.cells #[x, .int .i64 pw] 24)) (.agg #[x, .int .i64 pw]) ⟨ss, pw⟩ := ⟨x, rfl, hx.mono hbA (Nat.le_refl _)⟩
  have BX4 := Lib.hid bx4
  have HXV := Lib.hid hxv
  obtain ⟨xa, xc, rfl, -, -, -, -⟩ := hx
  clear bx4 hxv zq hbA hb4 BX3 d0 d1 d2 CP
  go_wp2_with fail
  refine (CS.out _ BX4.out _ HXV.out).mono ?_
  rintro e w5 ⟨rfl, bx5⟩
  have BX5 := Lib.hid bx5; clear bx5 BX4 CS HXV
  go_wp2_with fail
  refine (C6.out _ BX5.out).mono ?_
  rintro e w6 ⟨rfl, bx6⟩
  go_wp2_with fail
  go_ret
  exact ⟨rfl, bx6.below⟩

theorem printBack_walk (p : Pt) (u : Value) (w : World) (hp : StepsV w u p.steps) (hpb : bnd p.window) (hpw : ∀ s ∈ p.steps, stWf s) (hG : GP w) :
    Calls Tryd.prog 4 #[.agg #[u, .int .i64 p.window]] w fun e w' => e = .returned (.bool true) ∧ Below w.heap.size w w' := by
  cases hg : greatB p with
  | true => exact printBack_great p u w hp hG hg
  | false =>
    cases hb : ptB p with
    | false => exact printBack_wrong p u w hp hpb hpw hG hg hb
    | true =>
      cases h0 : strict0 p with
      | true => exact printBack_not p u w hp hpb hpw hG hg hb 2 (printT_no (by simp [h0])) (.inl ⟨h0, rfl⟩)
      | false =>
        by_cases hl : (patT p).length ≤ 2000
        · exact printBack_text p u w hp hpb hpw hG hg (by rw [printT_yes hb h0 hl])
        · exact printBack_not p u w hp hpb hpw hG hg hb 91 (printT_long hb h0 hl) (.inr ⟨h0, rfl⟩)
end Go.Proofs.YtafgincpoahefaaDoor
