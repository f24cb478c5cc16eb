/-
  stragglelaw10.PrintTells: true of any pattern, step, comparison, term, numbers.
  stragglelaw10.PrintTells: patterns that are not too great.
  stragglelaw10.PrintTells: the walk, whole.
-/
import Derived.Test.YtafgincpoahefaaDoorPr13
import Derived.Test.YtafgincpoahefaaDoorPrW
import Derived.Deep.RegionHeld3
import Derived.Deep.DrawnRows
namespace Go.Proofs.YtafgincpoahefaaDoor
open Go.RowKit

/-- the arguments in their boxes -/
structure BX (w : World) (vp vs vc vt : Array Value) (W : World) : Prop where
  p : Holds W w.heap.size 24 vp
  s : Holds W (w.heap.size + 1) 27 vs
  c : Holds W (w.heap.size + 1 + 1) 31 vc
  t : Holds W (w.heap.size + 1 + 1 + 1) 29 vt
  below : Below w.heap.size w W
theorem BX.later {w W W' : World} {vp vs vc vt : Array Value} (h : BX w vp vs vc vt W) (hb : Below W.heap.size W W') : BX w vp vs vc vt W' :=
  ⟨h.p.later hb, h.s.later hb, h.c.later hb, h.t.later hb, h.below.trans (hb.mono h.below.size)⟩
theorem BX.fresh (w : World) (vp vs vc vt : Array Value) : BX w vp vs vc vt ((((w.alloc (.cells vp 24)).alloc (.cells vs 27)).alloc (.cells vc 31)).alloc (.cells vt 29)) :=
  ⟨(((Holds.fresh w _ _).alloc _).alloc _).alloc _, ((Holds.fresh' (by simp) _ _).alloc _).alloc _, (Holds.fresh' (by simp) _ _).alloc _, Holds.fresh' (by simp) _ _,
    ((((Below.refl _ _).alloc (Nat.le_refl _) _).alloc (by simp) _).alloc (by simp; omega) _).alloc (by simp; omega) _⟩

set_option maxRecDepth 100000 in
set_option maxHeartbeats 4000000 in
theorem printTells_great (p : Pt) (u : Value) (s : St) (us : Value) (c : Cm) (t : Tm) (op i : Int) (w : World) (hp : StepsV w u p.steps) (hs : CmpsV w us s.cmps) (hG : GP w) (hg : greatB p = true ∨ 20 < s.cmps.length) :
    Calls Tryd.prog 3 #[.agg #[u, .int .i64 p.window], .agg (stV s us).toArray, .agg (cmV c).toArray, .agg (tmV t).toArray, .int .u8 op, .int .i64 i] w fun e w' => e = .returned (.bool true) ∧ Below w.heap.size w w' := by
  have bx := BX.fresh w #[u, .int .i64 p.window] (stV s us).toArray (cmV c).toArray (tmV t).toArray
  have cg := fun W (hb : Below w.heap.size w W) => ref8_Great p (.agg #[u, .int .i64 p.window]) W ⟨u, rfl, hp.mono hb (Nat.le_refl _)⟩
  have cw := fun W (hb : Below w.heap.size w W) => wakes10 W (hG.mono hb)
  obtain ⟨sa, sc, rfl, _, hsl, _, _⟩ := hs
  generalize greatB p = g at *
  obtain ⟨ss, wd⟩ := p
  obtain ⟨neg, kd, mn, mx, st, cs⟩ := s
  obtain ⟨o, ⟨k, n, a, r⟩, ⟨k', n', a', r'⟩⟩ := c
  obtain ⟨tk, tn, ts, tr⟩ := t
  simp only [stV, cmV, tmV] at *
  obtain ⟨m, hm⟩ : ∃ m, cs.length = m := ⟨_, rfl⟩
  rw [hm] at hsl bx hg ⊢
  have BX0 := Lib.hid bx; clear bx
  have CG := Lib.hid cg; clear cg
  have CW := Lib.hid cw; clear cw hp hm
  cases g
  · have h20 : 20 < m := hg.resolve_left (fun h => nomatch h)
    go_enter Tryd.func3, Tryd.ntmps3
    go_wp2_with fail
    refine (CG.out _ BX0.out.below).mono ?_
    rintro e w1 ⟨rfl, hb1⟩
    have bx1 := BX0.out.later hb1
    have c5 : w1.cell? ⟨w.heap.size + 1, 5, none⟩ = some (.slice sa m sc) := bx1.s.cell 5
    have hb := bx1.below
    have HB := Lib.hid hb
    clear bx1 hb hb1 hg
    go_wp2_with fail
    refine (CW.out _ HB.out).mono ?_
    rintro e w2 ⟨rfl, hb2⟩
    go_wp2_with fail
    go_ret
    exact ⟨rfl, HB.out.trans (hb2.mono HB.out.size)⟩
  · clear hg
    go_enter Tryd.func3, Tryd.ntmps3
    go_wp2_with fail
    refine (CG.out _ BX0.out.below).mono ?_
    rintro e w1 ⟨rfl, hb1⟩
    have hb := BX0.out.below.trans (hb1.mono BX0.out.below.size)
    have HB := Lib.hid hb
    clear hb hb1
    go_wp2_with fail
    refine (CW.out _ HB.out).mono ?_
    rintro e w2 ⟨rfl, hb2⟩
    go_wp2_with fail
    go_ret
    exact ⟨rfl, HB.out.trans (hb2.mono HB.out.size)⟩
end Go.Proofs.YtafgincpoahefaaDoor

namespace Go.Proofs.YtafgincpoahefaaDoor
open Go.RowKit
attribute [local go_sem ↓] Go.wp_at_zero Go.wp_at_succ

theorem sV_is (l : List UInt8) : ∃ A : ByteArray, sV l = .string A := ⟨_, rfl⟩
theorem BX.ret {w : World} {vp vs vc vt : Array Value} {f : FuncId} {args : Array Value} {x : Value} {W : World} (hb : BX w vp vs vc vt W) (h : Calls Tryd.prog f args W fun e w' => e = .returned x ∧ Below W.heap.size W w') :
    Calls Tryd.prog f args W fun e w' => e = .returned x ∧ BX w vp vs vc vt w' := h.mono fun _ _ g => ⟨g.1, hb.later g.2⟩
theorem BX.ret0 {w : World} {vp vs vc vt : Array Value} {f : FuncId} {args : Array Value} {x : Value} {W : World} (hb : BX w vp vs vc vt W) (h : Calls Tryd.prog f args W fun e w' => e = .returned x ∧ W = w') :
    Calls Tryd.prog f args W fun e w' => e = .returned x ∧ BX w vp vs vc vt w' := h.mono fun _ _ g => ⟨g.1, g.2 ▸ hb⟩

set_option maxRecDepth 100000 in
set_option maxHeartbeats 16000000 in
theorem printTells_else (p : Pt) (u : Value) (s : St) (us : Value) (c : Cm) (t : Tm) (op i : Int) (w : World) (hp : StepsV w u p.steps) (hwd : bnd p.window) (hpw : ∀ s ∈ p.steps, stWf s) (hsw : stWf s) (hs : CmpsV w us s.cmps) (hcw : cmWf c) (htw : tmWf t) (hop : bnd8 op) (hG : GP w) (hg : greatB p = false) (hm20 : s.cmps.length ≤ 20) :
    Calls Tryd.prog 3 #[.agg #[u, .int .i64 p.window], .agg (stV s us).toArray, .agg (cmV c).toArray, .agg (tmV t).toArray, .int .u8 op, .int .i64 i] w fun e w' => e = .returned (.bool true) ∧ Below w.heap.size w w' := by
  have bx := BX.fresh w #[u, .int .i64 p.window] (stV s us).toArray (cmV c).toArray (tmV t).toArray
  obtain ⟨A1, e1⟩ := sV_is (printT p).1
  obtain ⟨A2, e2⟩ := sV_is (stepT s i)
  obtain ⟨A3, e3⟩ := sV_is (cmpT c)
  obtain ⟨A4, e4⟩ := sV_is (termT t)
  obtain ⟨A5, e5⟩ := sV_is (opT op)
  obtain ⟨A6, e6⟩ := sV_is (letterT i)
  have cg := fun W (hb : BX w #[u, .int .i64 p.window] (stV s us).toArray (cmV c).toArray (tmV t).toArray W) => hb.ret (ref8_Great p (.agg #[u, .int .i64 p.window]) W ⟨u, rfl, hp.mono hb.below (Nat.le_refl _)⟩)
  have c1 := fun W (hb : BX w #[u, .int .i64 p.window] (stV s us).toArray (cmV c).toArray (tmV t).toArray W) => hb.ret (print_Print p hpw hwd hg (.agg #[u, .int .i64 p.window]) W ⟨u, rfl, hp.mono hb.below (Nat.le_refl _)⟩ (hG.mono hb.below))
  have c2 := fun W (hb : BX w #[u, .int .i64 p.window] (stV s us).toArray (cmV c).toArray (tmV t).toArray W) => hb.ret (ref10_Print p hpw hwd hg (.agg #[u, .int .i64 p.window]) W ⟨u, rfl, hp.mono hb.below (Nat.le_refl _)⟩)
  have c3 := fun W (hb : BX w #[u, .int .i64 p.window] (stV s us).toArray (cmV c).toArray (tmV t).toArray W) => hb.ret (print_Step s i hsw hm20 us W (hs.mono hb.below (Nat.le_refl _)) (hG.mono hb.below))
  have c4 := fun W (hb : BX w #[u, .int .i64 p.window] (stV s us).toArray (cmV c).toArray (tmV t).toArray W) => hb.ret (ref10_Step s i hsw hm20 us W (hs.mono hb.below (Nat.le_refl _)))
  have c5 := fun W (hb : BX w #[u, .int .i64 p.window] (stV s us).toArray (cmV c).toArray (tmV t).toArray W) => hb.ret (print_Cmp c hcw W (hG.mono hb.below))
  have c6 := fun W (hb : BX w #[u, .int .i64 p.window] (stV s us).toArray (cmV c).toArray (tmV t).toArray W) => hb.ret (ref10_Cmp c hcw W)
  have c7 := fun W (hb : BX w #[u, .int .i64 p.window] (stV s us).toArray (cmV c).toArray (tmV t).toArray W) => hb.ret (print_Term t htw W (hG.mono hb.below))
  have c8 := fun W (hb : BX w #[u, .int .i64 p.window] (stV s us).toArray (cmV c).toArray (tmV t).toArray W) => hb.ret (ref10_Term t htw W)
  have c9 := fun W (hb : BX w #[u, .int .i64 p.window] (stV s us).toArray (cmV c).toArray (tmV t).toArray W) => hb.ret0 (print_Op op hop W (hG.mono hb.below))
  have c10 := fun W (hb : BX w #[u, .int .i64 p.window] (stV s us).toArray (cmV c).toArray (tmV t).toArray W) => hb.ret0 (ref10_Op op W)
  have c11 := fun W (hb : BX w #[u, .int .i64 p.window] (stV s us).toArray (cmV c).toArray (tmV t).toArray W) => hb.ret0 (print_Letter i W)
  have c12 := fun W (hb : BX w #[u, .int .i64 p.window] (stV s us).toArray (cmV c).toArray (tmV t).toArray W) => hb.ret (ref10_Letter i W)
  have c13 := fun W (hb : BX w #[u, .int .i64 p.window] (stV s us).toArray (cmV c).toArray (tmV t).toArray W) => hb.ret (wakes10 W (hG.mono hb.below))
  rw [hg] at cg
  rw [e1] at c1 c2
  rw [e2] at c3 c4
  rw [e3] at c5 c6
  rw [e4] at c7 c8
  rw [e5] at c9 c10
  rw [e6] at c11 c12
  generalize (printT p).2 = pe at *
  obtain ⟨sa, sc, rfl, _, hsl, _, _⟩ := hs
  obtain ⟨ss, wd⟩ := p
  obtain ⟨neg, kd, mn, mx, st, cs⟩ := s
  obtain ⟨o, ⟨k, n, a, r⟩, ⟨k', n', a', r'⟩⟩ := c
  obtain ⟨tk, tn, ts, tr⟩ := t
  simp only [stV, cmV, tmV, stA, cmA, tmA] at *
  obtain ⟨m, hm⟩ : ∃ m, cs.length = m := ⟨_, rfl⟩
  rw [hm] at hsl bx hm20 cg c1 c2 c3 c4 c5 c6 c7 c8 c9 c10 c11 c12 c13 ⊢
  have BX0 := Lib.hid bx; clear bx
  have CG := Lib.hid cg; clear cg
  have C1 := Lib.hid c1; clear c1
  have C2 := Lib.hid c2; clear c2
  have C3 := Lib.hid c3; clear c3
  have C4 := Lib.hid c4; clear c4
  have C5 := Lib.hid c5; clear c5
  have C6 := Lib.hid c6; clear c6
  have C7 := Lib.hid c7; clear c7
  have C8 := Lib.hid c8; clear c8
  have C9 := Lib.hid c9; clear c9
  have C10 := Lib.hid c10; clear c10
  have C11 := Lib.hid c11; clear c11
  have C12 := Lib.hid c12; clear c12
  have C13 := Lib.hid c13; clear c13
  clear e1 e2 e3 e4 e5 e6 hp hwd hpw hsw hcw htw hop hG hg hm
  go_enter Tryd.func3, Tryd.ntmps3
  go_wp2_with fail
  refine (CG.out _ BX0.out).mono ?_
  rintro e w1 ⟨rfl, bx1⟩
  have d0 : w1.cell? ⟨w.heap.size, 0, none⟩ = some u := bx1.p.cell 0
  have d1 : w1.cell? ⟨w.heap.size, 1, none⟩ = some (.int .i64 wd) := bx1.p.cell 1
  have c5 : w1.cell? ⟨w.heap.size + 1, 5, none⟩ = some (.slice sa m sc) := bx1.s.cell 5
  have BX1 := Lib.hid bx1; clear bx1 BX0
  go_wp2_with fail
  refine (C1.out _ BX1.out).mono ?_
  rintro e w2 ⟨rfl, bx2⟩
  have d0 : w2.cell? ⟨w.heap.size, 0, none⟩ = some u := bx2.p.cell 0
  have d1 : w2.cell? ⟨w.heap.size, 1, none⟩ = some (.int .i64 wd) := bx2.p.cell 1
  have BX2 := Lib.hid bx2; clear bx2 BX1 c5
  go_wp2_with fail
  refine (C2.out _ BX2.out).mono ?_
  rintro e w3 ⟨rfl, bx3⟩
  clear d0 d1 BX2 CG C1 C2
  have hbx : BX w #[u, .int .i64 wd] #[.bool neg, .int .i64 kd, .int .i64 mn, .int .i64 mx, .bool st, .slice sa m sc] #[.int .u8 o, .int .u8 k, .int .i64 n, .int .i64 a, .int .i64 r, .int .u8 k', .int .i64 n', .int .i64 a', .int .i64 r'] #[.int .u8 tk, .int .i64 tn, .int .i64 ts, .int .i64 tr] w3.drew := bx3.later (below_drewN w3.heap.size w3 1)
  clear bx3
  go_wp2_with fail
  go_region_held3 (fun w' => w'.cell? ⟨w.heap.size + 1, 0, none⟩ = some (.bool neg) ∧ w'.cell? ⟨w.heap.size + 1, 1, none⟩ = some (.int .i64 kd) ∧ w'.cell? ⟨w.heap.size + 1, 2, none⟩ = some (.int .i64 mn) ∧ w'.cell? ⟨w.heap.size + 1, 3, none⟩ = some (.int .i64 mx) ∧ w'.cell? ⟨w.heap.size + 1, 4, none⟩ = some (.bool st) ∧ w'.cell? ⟨w.heap.size + 1, 5, none⟩ = some (.slice sa m sc) ∧ w'.cell? ⟨w.heap.size + 1 + 1, 0, none⟩ = some (.int .u8 o) ∧ w'.cell? ⟨w.heap.size + 1 + 1, 1, none⟩ = some (.int .u8 k) ∧ w'.cell? ⟨w.heap.size + 1 + 1, 2, none⟩ = some (.int .i64 n) ∧ w'.cell? ⟨w.heap.size + 1 + 1, 3, none⟩ = some (.int .i64 a) ∧ w'.cell? ⟨w.heap.size + 1 + 1, 4, none⟩ = some (.int .i64 r) ∧ w'.cell? ⟨w.heap.size + 1 + 1, 5, none⟩ = some (.int .u8 k') ∧ w'.cell? ⟨w.heap.size + 1 + 1, 6, none⟩ = some (.int .i64 n') ∧ w'.cell? ⟨w.heap.size + 1 + 1, 7, none⟩ = some (.int .i64 a') ∧ w'.cell? ⟨w.heap.size + 1 + 1, 8, none⟩ = some (.int .i64 r') ∧ w'.cell? ⟨w.heap.size + 1 + 1 + 1, 0, none⟩ = some (.int .u8 tk) ∧ w'.cell? ⟨w.heap.size + 1 + 1 + 1, 1, none⟩ = some (.int .i64 tn) ∧ w'.cell? ⟨w.heap.size + 1 + 1 + 1, 2, none⟩ = some (.int .i64 ts) ∧ w'.cell? ⟨w.heap.size + 1 + 1 + 1, 3, none⟩ = some (.int .i64 tr))
    (exact ⟨hbx.s.cell 0, hbx.s.cell 1, hbx.s.cell 2, hbx.s.cell 3, hbx.s.cell 4, hbx.s.cell 5, hbx.c.cell 0, hbx.c.cell 1, hbx.c.cell 2, hbx.c.cell 3, hbx.c.cell 4, hbx.c.cell 5, hbx.c.cell 6, hbx.c.cell 7, hbx.c.cell 8, hbx.t.cell 0, hbx.t.cell 1, hbx.t.cell 2, hbx.t.cell 3⟩)
    (first
    | (go_at_call 25; (with_reducible refine (C3.out _ (by assumption)).mono ?_); rintro e w1 ⟨rfl, hbx⟩)
    | (go_at_call 26; (with_reducible refine (C4.out _ (by assumption)).mono ?_); rintro e w1 ⟨rfl, hbx⟩)
    | (go_at_call 27; (with_reducible refine (C5.out _ (by assumption)).mono ?_); rintro e w1 ⟨rfl, hbx⟩)
    | (go_at_call 28; (with_reducible refine (C6.out _ (by assumption)).mono ?_); rintro e w1 ⟨rfl, hbx⟩)
    | (go_at_call 29; (with_reducible refine (C7.out _ (by assumption)).mono ?_); rintro e w1 ⟨rfl, hbx⟩)
    | (go_at_call 30; (with_reducible refine (C8.out _ (by assumption)).mono ?_); rintro e w1 ⟨rfl, hbx⟩)
    | (go_at_call 31; (with_reducible refine (C9.out _ (by assumption)).mono ?_); rintro e w1 ⟨rfl, hbx⟩)
    | (go_at_call 32; (with_reducible refine (C10.out _ (by assumption)).mono ?_); rintro e w1 ⟨rfl, hbx⟩)
    | (go_at_call 33; (with_reducible refine (C11.out _ (by assumption)).mono ?_); rintro e w1 ⟨rfl, hbx⟩)
    | (go_at_call 34; (with_reducible refine (C12.out _ (by assumption)).mono ?_); rintro e w1 ⟨rfl, hbx⟩)
    | (go_at_call 22; (with_reducible refine (C13.out _ (by assumption)).mono ?_); rintro e w1 ⟨rfl, hbx⟩))
  go_wp2_with fail
  go_ret
  exact ⟨rfl, hbx.below⟩
end Go.Proofs.YtafgincpoahefaaDoor

namespace Go.Proofs.YtafgincpoahefaaDoor
open Go.RowKit

theorem printTells_walk (p : Pt) (u : Value) (s : St) (us : Value) (c : Cm) (t : Tm) (op i : Int) (w : World) (hp : StepsV w u p.steps) (hwd : bnd p.window) (hpw : ∀ s ∈ p.steps, stWf s) (hsw : stWf s) (hs : CmpsV w us s.cmps) (hcw : cmWf c) (htw : tmWf t) (hop : 0 ≤ op ∧ op ≤ 255) (_hi : -9223372036854775808 ≤ i ∧ i ≤ 9223372036854775807) (hG : GP w) :
    Calls Tryd.prog 3 #[.agg #[u, .int .i64 p.window], .agg (stV s us).toArray, .agg (cmV c).toArray, .agg (tmV t).toArray, .int .u8 op, .int .i64 i] w fun e w' => e = .returned (.bool true) ∧ Below w.heap.size w w' := by
  by_cases hg : greatB p = true ∨ 20 < s.cmps.length
  · exact printTells_great p u s us c t op i w hp hs hG hg
  · have h1 : greatB p = false := by
      cases h : greatB p with
      | false => rfl
      | true => exact absurd (.inl h) hg
    exact printTells_else p u s us c t op i w hp hwd hpw hsw hs hcw htw hop hG h1 (by have := fun h => hg (.inr h); omega)
end Go.Proofs.YtafgincpoahefaaDoor
