/-
  parse: Parse, Right.
-/
import Derived.Test.YtafgincpoahefaaDoorPas11
import Derived.Test.YtafgincpoahefaaDoorRef9i
import Derived.Recover
import Derived.BigRegion
namespace Go.Proofs.YtafgincpoahefaaDoor
open Go.RowKit
attribute [local go_sem] Oper.semAt_some

theorem Holds.off {w : World} {b : Nat} {t : TypeId} {cs : Array Value} (h : Holds w b t cs) {k : Nat} (hk : b ≠ k) (i : Nat) (v : Value) : Holds (w.setCell ⟨k, i, none⟩ v) b t cs := h.grown (Lib.grownBy_setCell w k i v) (fun e => hk (Option.some.inj e))
/-- what is caught is told -/
theorem catch_wrong (b : Nat) (x : Int) (v0 v1 : Value) (y z : Int) (older : List PanicEntry) (w : World) (hp : Holds w b 24 #[v0, v1]) (ha : Holds w (b + 1) 3 #[.int .i64 y]) (he : Holds w (b + 1 + 1) 34 #[.int .i64 z]) :
    CallsD Tryd.prog 93 #[.pointer (some ⟨b, 0, none⟩), .pointer (some ⟨b + 1, 0, none⟩), .pointer (some ⟨b + 1 + 1, 0, none⟩)] (.panicking ({ v := .iface 127 (.int .i64 x), recovered := false } :: older)) w fun r u' w' =>
      r = .returned (.tuple #[]) ∧ u' = .panicking ({ v := .iface 127 (.int .i64 x), recovered := true } :: older) ∧
        Holds w' b 24 #[.slice none 0 0, .int .i64 0] ∧ Holds w' (b + 1) 3 #[.int .i64 x] ∧ Holds w' (b + 1 + 1) 34 #[.int .i64 90] ∧ Below b w w' := by
  have p0 : w.cell? ⟨b, 0, none⟩ = some v0 := hp.cell 0
  have p1 : w.cell? ⟨b, 1, none⟩ = some v1 := hp.cell 1
  have a0 : w.cell? ⟨b + 1, 0, none⟩ = some (.int .i64 y) := ha.cell 0
  have e0 : w.cell? ⟨b + 1 + 1, 0, none⟩ = some (.int .i64 z) := he.cell 0
  have pf := hp.free
  have af := ha.free
  have ef := he.free
  have pl := hp.size
  have al := ha.size
  have el := he.size
  have hta : ∀ W : World, (Instr.typeAssert (.iface 127 (.int .i64 x)) 20 127 false).run Tryd.prog W = .ok (.int .i64 x) W := fun W => by kernel_rfl
  refine callsD_of_wpS Tryd.func93 rfl fun c₀ cs hu => ?_
  apply wpS_seq
  apply wpS_region
  simp [wpOpsS, go_sem, recoverD, hu, Tryd.ntmps93, Exit.thenS]
  apply wpS_seq
  apply wpS_region
  simp [wpOpsS, go_sem, Exit.thenS]
  refine wpS_cond (t := true) (by simp [Act.eval, Array.replicate]) ?_
  simp only [if_true]
  refine wpS_of_wp ?_
  change Code.wp _ _ _ { tmps := #[.pointer (some ⟨b, 0, none⟩), .pointer (some ⟨b + 1, 0, none⟩), .pointer (some ⟨b + 1 + 1, 0, none⟩), .iface 127 (.int .i64 x), .iface 127 (.int .i64 x), .iface 127 (.int .i64 x), .bool true, undef, undef, undef], defers := [] } w
  go_region
  have g1 : Holds (((((w.setCell ⟨b, 0, none⟩ (.slice none 0 0)).setCell ⟨b, 1, none⟩ (.int .i64 0)).setCell ⟨b + 1, 0, none⟩ (.int .i64 x)).setCell ⟨b + 1 + 1, 0, none⟩ (.int .i64 90)).drew) b 24 #[.slice none 0 0, .int .i64 0] :=
    ((((hp.set 0 (.slice none 0 0)).set 1 (.int .i64 0)).off (by omega) 0 _).off (by omega) 0 _).later (below_drewN _ _ 1)
  have g2 : Holds (((((w.setCell ⟨b, 0, none⟩ (.slice none 0 0)).setCell ⟨b, 1, none⟩ (.int .i64 0)).setCell ⟨b + 1, 0, none⟩ (.int .i64 x)).setCell ⟨b + 1 + 1, 0, none⟩ (.int .i64 90)).drew) (b + 1) 3 #[.int .i64 x] :=
    ((((ha.off (by omega) 0 _).off (by omega) 1 _).set 0 (.int .i64 x)).off (by omega) 0 _).later (below_drewN _ _ 1)
  have g3 : Holds (((((w.setCell ⟨b, 0, none⟩ (.slice none 0 0)).setCell ⟨b, 1, none⟩ (.int .i64 0)).setCell ⟨b + 1, 0, none⟩ (.int .i64 x)).setCell ⟨b + 1 + 1, 0, none⟩ (.int .i64 90)).drew) (b + 1 + 1) 34 #[.int .i64 90] :=
    ((((he.off (by omega) 0 _).off (by omega) 1 _).off (by omega) 0 _).set 0 (.int .i64 90)).later (below_drewN _ _ 1)
  have g4 : Below b w (((((w.setCell ⟨b, 0, none⟩ (.slice none 0 0)).setCell ⟨b, 1, none⟩ (.int .i64 0)).setCell ⟨b + 1, 0, none⟩ (.int .i64 x)).setCell ⟨b + 1 + 1, 0, none⟩ (.int .i64 90)).drew) := by
    exact ((((((Below.refl b w).setCell (p := ⟨b, 0, none⟩) (Nat.le_refl _) _).setCell (p := ⟨b, 1, none⟩) (Nat.le_refl _) _).setCell (p := ⟨b + 1, 0, none⟩) (Nat.le_succ _) _).setCell (p := ⟨b + 1 + 1, 0, none⟩) (by simp only; omega) _)).trans (below_drewN _ _ 1)
  generalize ((((w.setCell ⟨b, 0, none⟩ (.slice none 0 0)).setCell ⟨b, 1, none⟩ (.int .i64 0)).setCell ⟨b + 1, 0, none⟩ (.int .i64 x)).setCell ⟨b + 1 + 1, 0, none⟩ (.int .i64 90)).drew = W at *
  simp [bodyPostS, results, Tryd.results93]
  exact ⟨g1, g2, g3, g4⟩
theorem catch_idle (b : Nat) (w : World) :
    CallsD Tryd.prog 93 #[.pointer (some ⟨b, 0, none⟩), .pointer (some ⟨b + 1, 0, none⟩), .pointer (some ⟨b + 1 + 1, 0, none⟩)] .returning w fun r u' w' => r = .returned (.tuple #[]) ∧ u' = .returning ∧ w' = w := by
  refine callsD_of_wpS Tryd.func93 rfl fun c₀ cs hu => ?_
  apply wpS_seq
  apply wpS_region
  simp [wpOpsS, go_sem, recoverD, hu, Tryd.ntmps93, Exit.thenS]
  apply wpS_seq
  apply wpS_region
  simp [wpOpsS, go_sem, Exit.thenS]
  refine wpS_cond (t := false) (by simp [Act.eval, Array.replicate]) ?_
  simp only [Bool.false_eq_true, if_false]
  refine wpS_of_wp (wp_skip ?_)
  cases c₀
  simp_all [bodyPostS, results, Tryd.results93]
/-- what Parse's three cells hold is what it tells -/
theorem parse_cells (tmps : Array Value) (W : World) (b : Nat) (v : Value) (x y z : Int) (hp : tmps.getD 2 undef = .pointer (some ⟨b, 0, none⟩)) (hq : tmps.getD 3 undef = .pointer (some ⟨b + 1, 0, none⟩)) (hr : tmps.getD 4 undef = .pointer (some ⟨b + 1 + 1, 0, none⟩))
    (g1 : Holds W b 24 #[v, .int .i64 x]) (g2 : Holds W (b + 1) 3 #[.int .i64 y]) (g3 : Holds W (b + 1 + 1) 34 #[.int .i64 z]) :
    (results Tryd.f54 tmps).run Tryd.prog W = .ok (.tuple #[.agg #[v, .int .i64 x], .int .i64 y, .int .i64 z]) W := by
  have q2 : W.cell? ⟨b + 1, 0, none⟩ = some (.int .i64 y) := g2.cell 0
  have q3 : W.cell? ⟨b + 1 + 1, 0, none⟩ = some (.int .i64 z) := g3.cell 0
  have hp' : tmps[2]?.getD undef = .pointer (some ⟨b, 0, none⟩) := by simpa using hp
  have hq' : tmps[3]?.getD undef = .pointer (some ⟨b + 1, 0, none⟩) := by simpa using hq
  have hr' : tmps[4]?.getD undef = .pointer (some ⟨b + 1 + 1, 0, none⟩) := by simpa using hr
  have q0 : W.cell? ⟨b, 0, none⟩ = some v := g1.cell 0
  have q1 : W.cell? ⟨b, 1, none⟩ = some (.int .i64 x) := g1.cell 1
  simp [results, Tryd.results54, go_sem, hp', hq', hr', asAddr, q0, q1, q2, q3]
/-- the tokens of a text of more than none lie in one block -/
theorem toks_some {w : World} {a : Option Addr} {ts : List Tok} (h : ToksAt w a ts) (h0 : 0 < ts.length) : ∃ b off, a = some ⟨b, off, none⟩ := by
  obtain ⟨b, off, e, _⟩ := h.get 0 h0
  exact ⟨b, off, e⟩
/-- what Parse tells, its steps and their comparisons in rows of the call's own -/
def R9O (l : List UInt8) (w : World) (e : Ending) (w' : World) : Prop :=
  ∃ v L, e = .returned (.tuple #[.agg #[v, .int .i64 (parseOf l).1.window], .int .i64 (parseOf l).2.1, .int .i64 (parseOf l).2.2]) ∧ L.map Prod.fst = (parseOf l).1.steps ∧ w'.ownsRow w.heap.size 27 6 v L.length (stCells L) ∧
    (∀ q ∈ L, w'.ownsRow w.heap.size 31 9 q.2 q.1.cmps.length (q.1.cmps.flatMap cmV)) ∧ Below w.heap.size w w'
theorem R9O.pat {l : List UInt8} {w w' : World} {e : Ending} (h : R9O l w e w') : R9P l w e w' := by
  obtain ⟨v, L, rfl, h1, h2, h3, h4⟩ := h
  unfold R9P
  rcases hp : parseOf l with ⟨⟨ss, win⟩, a, c⟩
  rw [hp] at h1
  simp only at h1
  subst h1
  exact ⟨_, rfl, ⟨_, rfl, steps_of_row h2 fun q hq => cmps_of_row (h3 q hq)⟩, h4⟩
set_option maxRecDepth 100000 in
set_option maxHeartbeats 4000000 in
theorem parse_Parse_none (s : ByteArray) (hs : s.size ≤ 140737488351232) (w : World) (hG : GL w) (ts : List Tok) (p c : Int) (ha : allOf s.data.toList = (ts, p, c)) (hc : c ≠ 0) :
    Calls Tryd.prog 54 #[.string s] w (R9O s.data.toList w) := by
  have hp : parseOf s.data.toList = (⟨[], 0⟩, p, c) := by rw [parse_none (by rw [ha]; exact hc), ha]
  have z0 := (((Holds.fresh w 24 #[.slice none 0 0, .int .i64 0]).alloc (.cells #[.int .i64 0] 3)).alloc (.cells #[.int .i64 0] 34))
  have z1 := ((Holds.fresh (w.alloc (.cells #[.slice none 0 0, .int .i64 0] 24)) 3 #[.int .i64 0]).alloc (.cells #[.int .i64 0] 34))
  have z2 := (Holds.fresh ((w.alloc (.cells #[.slice none 0 0, .int .i64 0] 24)).alloc (.cells #[.int .i64 0] 3)) 34 #[.int .i64 0])
  simp only [World.size_alloc] at z1 z2
  have hb0 := (((Below.refl w.heap.size w).alloc (Nat.le_refl _) (.cells #[.slice none 0 0, .int .i64 0] 24)).alloc (by simp) (.cells #[.int .i64 0] 3)).alloc (by simp; omega) (.cells #[.int .i64 0] 34)
  have hG1 := ((hG.alloc (.cells #[.slice none 0 0, .int .i64 0] 24)).alloc (.cells #[.int .i64 0] 3)).alloc (.cells #[.int .i64 0] 34)
  obtain ⟨n, hn⟩ : ∃ n, ts.length = n := ⟨_, rfl⟩
  have ca := lex_All_at s hs ts p c n hn ha _ hG1
  have e1 : (c != 0) = true := by simpa using hc
  have CA := Lib.hid ca
  have HP := Lib.hid hp
  have HB := Lib.hid hb0
  have Z0 := Lib.hid z0
  have Z1 := Lib.hid z1
  have Z2 := Lib.hid z2
  clear ca hp hb0 z0 z1 z2 hG hG1 ha hn hc
  have hmf : ∀ (fn : Fn) (first cap : Array Value) (w : World), (Instr.makeFunc fn first cap).run Tryd.prog w = .ok (.func fn first cap) w := fun _ _ _ _ => rfl
  go_enter_defers Tryd.func54, Tryd.ntmps54
  go_wp2_with fail
  refine CA.out.mono ?_
  rintro e w1 ⟨a, cap, rfl, hcap, -, hb1⟩
  have y0 := Z0.out.later hb1
  have y1 := Z1.out.later hb1
  have y2 := Z2.out.later hb1
  have k0 : w1.cell? ⟨w.heap.size, 0, none⟩ = some (.slice none 0 0) := y0.cell 0
  have k1 : w1.cell? ⟨w.heap.size, 1, none⟩ = some (.int .i64 0) := y0.cell 1
  have k2 : w1.cell? ⟨w.heap.size + 1, 0, none⟩ = some (.int .i64 0) := y1.cell 0
  have k3 : w1.cell? ⟨w.heap.size + 1 + 1, 0, none⟩ = some (.int .i64 0) := y2.cell 0
  have f0 := y0.free
  have f1 := y1.free
  have f2 := y2.free
  have l0 := y0.size
  have l1 := y1.size
  have l2 := y2.size
  have HB1 := Lib.hid (HB.out.trans (hb1.mono HB.out.size))
  clear hb1 CA HB
  generalize hob : w.heap.size = ob at *
  go_wp2_with fail
  go_region
  have g1 : Holds (((((((w1.setCell ⟨ob + 1, 0, none⟩ (.int .i64 p)).setCell ⟨ob + 1 + 1, 0, none⟩ (.int .i64 c)).setCell ⟨ob, 0, none⟩ (.slice none 0 0)).setCell ⟨ob, 1, none⟩ (.int .i64 0)).setCell ⟨ob + 1, 0, none⟩ (.int .i64 p)).setCell ⟨ob + 1 + 1, 0, none⟩ (.int .i64 c)).drew) ob 24 #[.slice none 0 0, .int .i64 0] :=
    (((((((y0.off (by omega) 0 _).off (by omega) 0 _).set 0 (.slice none 0 0)).set 1 (.int .i64 0)).off (by omega) 0 _).off (by omega) 0 _)).later (below_drewN _ _ 1)
  have g2 : Holds (((((((w1.setCell ⟨ob + 1, 0, none⟩ (.int .i64 p)).setCell ⟨ob + 1 + 1, 0, none⟩ (.int .i64 c)).setCell ⟨ob, 0, none⟩ (.slice none 0 0)).setCell ⟨ob, 1, none⟩ (.int .i64 0)).setCell ⟨ob + 1, 0, none⟩ (.int .i64 p)).setCell ⟨ob + 1 + 1, 0, none⟩ (.int .i64 c)).drew) (ob + 1) 3 #[.int .i64 p] :=
    (((((((y1.set 0 (.int .i64 p)).off (by omega) 0 _).off (by omega) 0 _).off (by omega) 1 _).set 0 (.int .i64 p)).off (by omega) 0 _)).later (below_drewN _ _ 1)
  have g3 : Holds (((((((w1.setCell ⟨ob + 1, 0, none⟩ (.int .i64 p)).setCell ⟨ob + 1 + 1, 0, none⟩ (.int .i64 c)).setCell ⟨ob, 0, none⟩ (.slice none 0 0)).setCell ⟨ob, 1, none⟩ (.int .i64 0)).setCell ⟨ob + 1, 0, none⟩ (.int .i64 p)).setCell ⟨ob + 1 + 1, 0, none⟩ (.int .i64 c)).drew) (ob + 1 + 1) 34 #[.int .i64 c] :=
    (((((((y2.off (by omega) 0 _).set 0 (.int .i64 c)).off (by omega) 0 _).off (by omega) 1 _).off (by omega) 0 _).set 0 (.int .i64 c))).later (below_drewN _ _ 1)
  have g4 : Below ob w (((((((w1.setCell ⟨ob + 1, 0, none⟩ (.int .i64 p)).setCell ⟨ob + 1 + 1, 0, none⟩ (.int .i64 c)).setCell ⟨ob, 0, none⟩ (.slice none 0 0)).setCell ⟨ob, 1, none⟩ (.int .i64 0)).setCell ⟨ob + 1, 0, none⟩ (.int .i64 p)).setCell ⟨ob + 1 + 1, 0, none⟩ (.int .i64 c)).drew) :=
    ((((((HB1.out.setCell (p := ⟨ob + 1, 0, none⟩) (Nat.le_succ _) _).setCell (p := ⟨ob + 1 + 1, 0, none⟩) (by simp only; omega) _).setCell (p := ⟨ob, 0, none⟩) (Nat.le_refl _) _).setCell (p := ⟨ob, 1, none⟩) (Nat.le_refl _) _).setCell (p := ⟨ob + 1, 0, none⟩) (Nat.le_succ _) _).setCell (p := ⟨ob + 1 + 1, 0, none⟩) (by simp only; omega) _).trans (below_drewN _ _ 1)
  generalize ((((((w1.setCell ⟨ob + 1, 0, none⟩ (.int .i64 p)).setCell ⟨ob + 1 + 1, 0, none⟩ (.int .i64 c)).setCell ⟨ob, 0, none⟩ (.slice none 0 0)).setCell ⟨ob, 1, none⟩ (.int .i64 0)).setCell ⟨ob + 1, 0, none⟩ (.int .i64 p)).setCell ⟨ob + 1 + 1, 0, none⟩ (.int .i64 c)).drew = W at *
  clear k0 k1 k2 k3 f0 f1 f2 l0 l1 l2 y0 y1 y2 Z0 Z1 Z2
  go_wp2_with fail
  refine ⟨_, parse_cells _ W ob (.slice none 0 0) 0 p c rfl rfl rfl g1 g2 g3, ?_⟩
  unfold R9O
  rw [HP.out, hob]
  exact ⟨_, [], rfl, rfl, World.ownsRow_nil _ _ _ _, (fun q hq => nomatch hq), g4⟩
theorem parseOf_some {l : List UInt8} {ts : List Tok} (ha : allOf l = (ts, 0, 0)) : parseOf l = match pPat ts with
    | .error a => (⟨[], 0⟩, a, 90)
    | .ok (p, _) => (p, 0, 0) := by
  unfold parseOf
  rw [ha]
  rfl
set_option maxRecDepth 100000 in
set_option maxHeartbeats 4000000 in
theorem parse_Parse_some (s : ByteArray) (hs : s.size ≤ 140737488351232) (w : World) (hG : GL w) (ts : List Tok) (hts : ts.length ≤ 4000) (ha : allOf s.data.toList = (ts, 0, 0)) :
    Calls Tryd.prog 54 #[.string s] w (R9O s.data.toList w) := by
  have hp := parseOf_some ha
  obtain ⟨_, htk, hends, hpos⟩ := allOf_toks ha
  have z0 := (((Holds.fresh w 24 #[.slice none 0 0, .int .i64 0]).alloc (.cells #[.int .i64 0] 3)).alloc (.cells #[.int .i64 0] 34))
  have z1 := ((Holds.fresh (w.alloc (.cells #[.slice none 0 0, .int .i64 0] 24)) 3 #[.int .i64 0]).alloc (.cells #[.int .i64 0] 34))
  have z2 := (Holds.fresh ((w.alloc (.cells #[.slice none 0 0, .int .i64 0] 24)).alloc (.cells #[.int .i64 0] 3)) 34 #[.int .i64 0])
  simp only [World.size_alloc] at z1 z2
  have hb0 := (((Below.refl w.heap.size w).alloc (Nat.le_refl _) (.cells #[.slice none 0 0, .int .i64 0] 24)).alloc (by simp) (.cells #[.int .i64 0] 3)).alloc (by simp; omega) (.cells #[.int .i64 0] 34)
  have hG1 := ((hG.alloc (.cells #[.slice none 0 0, .int .i64 0] 24)).alloc (.cells #[.int .i64 0] 3)).alloc (.cells #[.int .i64 0] 34)
  have ca := lex_All s hs _ hG1
  unfold AllPost at ca
  rw [ha] at ca
  simp only at ca
  have CA := Lib.hid ca
  have HP := Lib.hid hp
  have HB := Lib.hid hb0
  have Z0 := Lib.hid z0
  have Z1 := Lib.hid z1
  have Z2 := Lib.hid z2
  have HT := Lib.hid (And.intro htk hends)
  clear ca hp hb0 z0 z1 z2 hG hG1 ha htk hends
  have hmf : ∀ (fn : Fn) (first cap : Array Value) (w : World), (Instr.makeFunc fn first cap).run Tryd.prog w = .ok (.func fn first cap) w := fun _ _ _ _ => rfl
  go_enter_defers Tryd.func54, Tryd.ntmps54
  go_wp2_with fail
  refine CA.out.mono ?_
  rintro e w1 ⟨v, rfl, hrow, hb1⟩
  obtain ⟨a, cap, rfl, hcap, hta⟩ := toks_of_row hrow rfl
  obtain ⟨blk, off, rfl⟩ := toks_some hta hpos
  have hblk : w.heap.size + 1 + 1 < blk := by
    have := (hrow.lt blk rfl).1
    simp at this
    omega
  have hblk1 : blk < w1.heap.size := by
    rcases hta with h | ⟨b', off', e, hc⟩
    · rw [h] at hpos; cases hpos
    · cases e
      exact cell_lt (hc 0 hpos).1
  have y0 := Z0.out.later hb1
  have y1 := Z1.out.later hb1
  have y2 := Z2.out.later hb1
  have k2 : w1.cell? ⟨w.heap.size + 1, 0, none⟩ = some (.int .i64 0) := y1.cell 0
  have k3 : w1.cell? ⟨w.heap.size + 1 + 1, 0, none⟩ = some (.int .i64 0) := y2.cell 0
  have f1 := y1.free
  have f2 := y2.free
  have l1 := y1.size
  have l2 := y2.size
  have l0 := y0.size
  have hb2 : Below w.heap.size w (((w1.setCell ⟨w.heap.size + 1, 0, none⟩ (.int .i64 0)).setCell ⟨w.heap.size + 1 + 1, 0, none⟩ (.int .i64 0)).alloc (.cells #[.slice (some ⟨blk, off, none⟩) ts.length cap] 130)) :=
    (((HB.out.trans (hb1.mono HB.out.size)).setCell (p := ⟨w.heap.size + 1, 0, none⟩) (Nat.le_succ _) _).setCell (p := ⟨w.heap.size + 1 + 1, 0, none⟩) (by simp only; omega) _).alloc (by simp; omega) _
  have hh0 := (((y0.off (k := w.heap.size + 1) (by omega) 0 (.int .i64 0)).off (k := w.heap.size + 1 + 1) (by omega) 0 (.int .i64 0)).alloc (.cells #[.slice (some ⟨blk, off, none⟩) ts.length cap] 130))
  have hh1 := (((y1.set 0 (.int .i64 0)).off (k := w.heap.size + 1 + 1) (by omega) 0 (.int .i64 0)).alloc (.cells #[.slice (some ⟨blk, off, none⟩) ts.length cap] 130))
  have hh2 := (((y2.off (k := w.heap.size + 1) (by omega) 0 (.int .i64 0)).set 0 (.int .i64 0)).alloc (.cells #[.slice (some ⟨blk, off, none⟩) ts.length cap] 130))
  have hta2 : ToksAt (((w1.setCell ⟨w.heap.size + 1, 0, none⟩ (.int .i64 0)).setCell ⟨w.heap.size + 1 + 1, 0, none⟩ (.int .i64 0)).alloc (.cells #[.slice (some ⟨blk, off, none⟩) ts.length cap] 130)) (some ⟨blk, off, none⟩) ts :=
    ((hta.grown (Lib.grownBy_setCell _ _ _ _) (fun e => by have := Option.some.inj e; omega)).grown (Lib.grownBy_setCell _ _ _ _) (fun e => by have := Option.some.inj e; omega)).grown (World.grownBy_alloc _ _ none) (by simp)
  have hhp : Holds (((w1.setCell ⟨w.heap.size + 1, 0, none⟩ (.int .i64 0)).setCell ⟨w.heap.size + 1 + 1, 0, none⟩ (.int .i64 0)).alloc (.cells #[.slice (some ⟨blk, off, none⟩) ts.length cap] 130)) w1.heap.size 130 #[.slice (some ⟨blk, off + 0 * 3, none⟩) (ts.length - 0) (cap - 0)] := by
    have := Holds.fresh ((w1.setCell ⟨w.heap.size + 1, 0, none⟩ (.int .i64 0)).setCell ⟨w.heap.size + 1 + 1, 0, none⟩ (.int .i64 0)) 130 #[.slice (some ⟨blk, off, none⟩) ts.length cap]
    simpa using this
  have q0 : Q9 ts w1.heap.size blk off cap 0 (((w1.setCell ⟨w.heap.size + 1, 0, none⟩ (.int .i64 0)).setCell ⟨w.heap.size + 1 + 1, 0, none⟩ (.int .i64 0)).alloc (.cells #[.slice (some ⟨blk, off, none⟩) ts.length cap] 130)) :=
    ⟨hhp, by omega, hta2, hpos, hcap, hts, HT.out.1, HT.out.2⟩
  have cp := parse_pattern ts w1.heap.size blk off cap 0 _ q0
  have hs2 : w1.heap.size < (((w1.setCell ⟨w.heap.size + 1, 0, none⟩ (.int .i64 0)).setCell ⟨w.heap.size + 1 + 1, 0, none⟩ (.int .i64 0)).alloc (.cells #[.slice (some ⟨blk, off, none⟩) ts.length cap] 130)).heap.size := by simp
  rw [List.drop_zero] at cp
  have CP := Lib.hid cp
  have HB2 := Lib.hid hb2
  have H0 := Lib.hid hh0
  have H1 := Lib.hid hh1
  have H2 := Lib.hid hh2
  clear cp hb2 hh0 hh1 hh2 hta2 hhp q0 hrow hta hb1 CA HB Z0 Z1 Z2 y0 y1 y2 HT
  go_wp2_with fail
  generalize ((w1.setCell ⟨w.heap.size + 1, 0, none⟩ (.int .i64 0)).setCell ⟨w.heap.size + 1 + 1, 0, none⟩ (.int .i64 0)).alloc (.cells #[.slice (some ⟨blk, off, none⟩) ts.length cap] 130) = W2 at *
  obtain ⟨ob, hob⟩ : ∃ ob, w.heap.size = ob := ⟨_, rfl⟩
  rw [hob] at HB2 H0 H1 H2 hblk l0 l1 l2 ⊢
  have HOB := Lib.hid hob
  have hsz2 : ob ≤ W2.heap.size := by omega
  clear k2 k3 f1 f2 hob
  rcases r : pPat ts with x | ⟨⟨ss, win⟩, l⟩
  · refine CP.out.mono ?_
    rintro e w3 ⟨g3, he⟩
    rw [r] at he
    subst he
    have m0 := H0.out.grown g3 (fun e => by have := Option.some.inj e; omega)
    have m1 := H1.out.grown g3 (fun e => by have := Option.some.inj e; omega)
    have m2 := H2.out.grown g3 (fun e => by have := Option.some.inj e; omega)
    have mb := HB2.out.grown g3 hsz2 (fun k e => by have := Option.some.inj e; omega)
    have hpo := HP.out
    rw [r] at hpo
    have HPO := Lib.hid hpo
    have M0 := Lib.hid m0
    have M1 := Lib.hid m1
    have M2 := Lib.hid m2
    have MB := Lib.hid mb
    clear m0 m1 m2 mb hpo g3 CP HB2 H0 H1 H2 HP r
    unfold wrongAt
    go_wp2_with fail
    refine leaves_cons (f := 93) (args := #[.pointer (some ⟨ob, 0, none⟩), .pointer (some ⟨ob + 1, 0, none⟩), .pointer (some ⟨ob + 1 + 1, 0, none⟩)]) (by simp) (by simp [go_sem]) ?_
    refine (catch_wrong ob x _ _ _ _ [] w3 M0.out M1.out M2.out).mono ?_
    rintro e u' w4 ⟨rfl, rfl, g1, g2, g3, g4⟩
    refine ⟨_, parse_cells _ w4 ob _ _ _ _ rfl rfl rfl g1 g2 g3, ?_⟩
    unfold R9O
    rw [HPO.out, HOB.out]
    exact ⟨_, [], rfl, rfl, World.ownsRow_nil _ _ _ _, (fun q hq => nomatch hq), MB.out.trans g4⟩
  · refine CP.out.mono ?_
    rintro e w3 ⟨g3, hm⟩
    rw [r] at hm
    obtain ⟨v, L, rfl, rfl, hr, hc⟩ := hm
    obtain ⟨ga, vcap, rfl⟩ := ownsRow_form hr
    have m0 := H0.out.grown g3 (fun e => by have := Option.some.inj e; omega)
    have m1 := H1.out.grown g3 (fun e => by have := Option.some.inj e; omega)
    have m2 := H2.out.grown g3 (fun e => by have := Option.some.inj e; omega)
    have mb := HB2.out.grown g3 hsz2 (fun k e => by have := Option.some.inj e; omega)
    have hpo := HP.out
    rw [r] at hpo
    have k0 : w3.cell? ⟨ob, 0, none⟩ = some (.slice none 0 0) := m0.cell 0
    have k1 : w3.cell? ⟨ob, 1, none⟩ = some (.int .i64 0) := m0.cell 1
    have k2 : w3.cell? ⟨ob + 1, 0, none⟩ = some (.int .i64 0) := m1.cell 0
    have k3 : w3.cell? ⟨ob + 1 + 1, 0, none⟩ = some (.int .i64 0) := m2.cell 0
    have f0 := m0.free
    have f1 := m1.free
    have f2 := m2.free
    have p0 := m0.size
    have p1 := m1.size
    have p2 := m2.size
    have n0 := ((((m0.set 0 (.slice ga L.length vcap)).set 1 (.int .i64 win)).off (k := ob + 1) (by omega) 0 (.int .i64 0)).off (k := ob + 1 + 1) (by omega) 0 (.int .i64 0))
    have n1 := ((((m1.off (k := ob) (by omega) 0 (.slice ga L.length vcap)).off (k := ob) (by omega) 1 (.int .i64 win)).set 0 (.int .i64 0)).off (k := ob + 1 + 1) (by omega) 0 (.int .i64 0))
    have n2 := ((((m2.off (k := ob) (by omega) 0 (.slice ga L.length vcap)).off (k := ob) (by omega) 1 (.int .i64 win)).off (k := ob + 1) (by omega) 0 (.int .i64 0)).set 0 (.int .i64 0))
    have n3 := (((mb.setCell (p := ⟨ob, 0, none⟩) (Nat.le_refl _) (.slice ga L.length vcap)).setCell (p := ⟨ob, 1, none⟩) (Nat.le_refl _) (.int .i64 win)).setCell (p := ⟨ob + 1, 0, none⟩) (Nat.le_succ _) (.int .i64 0)).setCell (p := ⟨ob + 1 + 1, 0, none⟩) (by simp only; omega) (.int .i64 0)
    have hrs : ∀ (W : World) {e : TypeId} {size n k : Nat} {v : Value} {xs : List Value} (i : Nat) (x : Value), W.ownsRow W2.heap.size e size v n xs → k < W2.heap.size → (W.setCell ⟨k, i, none⟩ x).ownsRow W2.heap.size e size v n xs := fun W {_ _ _ k _ _} i x h hk =>
      h.kept (Lib.grownBy_setCell W k i x) (.inr (row_far h hk).symm)
    have hr' := hrs _ 0 (.int .i64 0) (hrs _ 0 (.int .i64 0) (hrs _ 1 (.int .i64 win) (hrs _ 0 (.slice ga L.length vcap) hr (k := ob) (by omega)) (k := ob) (by omega)) (k := ob + 1) (by omega)) (k := ob + 1 + 1) (by omega)
    have hc' := fun q hq => hrs _ 0 (.int .i64 0) (hrs _ 0 (.int .i64 0) (hrs _ 1 (.int .i64 win) (hrs _ 0 (.slice ga L.length vcap) (hc q hq) (k := ob) (by omega)) (k := ob) (by omega)) (k := ob + 1) (by omega)) (k := ob + 1 + 1) (by omega)
    have hr2 := hr'.mono hsz2
    have hc2 : ∀ q ∈ L, _ := fun q hq => (hc' q hq).mono hsz2
    have N0 := Lib.hid n0
    have N1 := Lib.hid n1
    have N2 := Lib.hid n2
    have N3 := Lib.hid n3
    have HR2 := Lib.hid hr2
    have HC2 := Lib.hid hc2
    have HPO := Lib.hid hpo
    clear n0 n1 n2 n3 hr2 hc2 hpo hr' hc' hrs m0 m1 m2 mb hr hc g3 CP HB2 H0 H1 H2 HP r
    go_wp2_with fail
    refine leaves_cons (f := 93) (args := #[.pointer (some ⟨ob, 0, none⟩), .pointer (some ⟨ob + 1, 0, none⟩), .pointer (some ⟨ob + 1 + 1, 0, none⟩)]) (by simp) (by simp [go_sem]) ?_
    refine (catch_idle ob _).mono ?_
    rintro e u' w4 ⟨rfl, rfl, rfl⟩
    refine ⟨_, parse_cells _ _ ob _ _ _ _ rfl rfl rfl N0.out N1.out N2.out, ?_⟩
    unfold R9O
    rw [HPO.out, HOB.out]
    exact ⟨_, L, rfl, rfl, HR2.out, HC2.out, N3.out⟩
theorem parse_ParseO (s : ByteArray) (hs : s.size ≤ 140737488351232) (w : World) (hG : GL w) : Calls Tryd.prog 54 #[.string s] w (R9O s.data.toList w) := by
  rcases ha : allOf s.data.toList with ⟨ts, p, c⟩
  by_cases hc : c = 0
  · subst hc
    obtain ⟨rfl, _⟩ := allOf_toks ha
    refine parse_Parse_some s hs w hG ts ?_ ha
    have hl : s.data.toList.length ≤ 2000 := Nat.le_of_not_lt fun h => by
      unfold allOf at ha
      rw [if_pos h] at ha
      simp at ha
    unfold allOf at ha
    rw [if_neg (by omega)] at ha
    split at ha
    · simp at ha
    · simp only [Prod.mk.injEq] at ha
      have := yields_len _ 0 s.data.toList (Nat.le_refl _)
      rw [← ha.1]
      simp only [List.length_append, List.length_map, List.length_singleton]
      omega
  · exact parse_Parse_none s hs w hG ts p c ha hc
theorem parse_Parse (s : ByteArray) (hs : s.size ≤ 140737488351232) (w : World) (hG : GL w) : Calls Tryd.prog 54 #[.string s] w (R9P s.data.toList w) := (parse_ParseO s hs w hG).mono fun _ _ h => h.pat
set_option maxRecDepth 100000 in
theorem parse_Right (s : ByteArray) (hs : s.size ≤ 140737488351232) (w : World) (hG : GL w) : Calls Tryd.prog 92 #[.string s] w fun e w' => e = .returned (.bool ((parseOf s.data.toList).2.2 == 0)) ∧ Below w.heap.size w w' := by
  have c1 := parse_Parse s hs w hG
  unfold R9P at c1
  generalize parseOf s.data.toList = r at *
  obtain ⟨⟨ss, win⟩, p, c⟩ := r
  simp only at c1 ⊢
  have C1 := Lib.hid c1
  clear c1 hG
  go_enter Tryd.func92, Tryd.ntmps92
  go_wp2_with fail
  refine C1.out.mono ?_
  rintro e w1 ⟨v, rfl, hv, hb⟩
  obtain ⟨u, rfl, hs'⟩ := hv
  obtain ⟨a, cap, rfl, -⟩ := hs'
  have HB := Lib.hid hb
  clear hb C1
  go_wp2_with fail
  go_ret
  exact ⟨rfl, HB.out.alloc HB.out.size _⟩
end Go.Proofs.YtafgincpoahefaaDoor
