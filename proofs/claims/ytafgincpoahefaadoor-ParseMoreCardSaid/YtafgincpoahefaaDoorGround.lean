/-
  A range over a function, at the wide fence: one contract for an iterator ('Iter'), one law for the statement ('wp_range'), one for a function's return behind it. After the kit's Derived/RangeFuncNested.lean, RangeFuncWrites.lean (their proofs turned).
  Forward jumps ('goto' to a label further on): 'wp_fwd'.
  A scope with jumps back to one label, in a run with a fence (an iterator's): Derived/ScopeJumps.lean turned.
  What all contracts lean on: slices of integers and bytes in memory, the package-level variables of the library.
  A block of cells that nothing freezes: what it holds, and that it stays.
  Appending a slice of integers that reads in memory, a nil one too, to a slice of the call's own.
-/
import Derived.RangeFuncNested
import Derived.RangeFuncLeaves
import Derived.ScopeJumps
import Derived.WalkKit
import Derived.WalkMore
import Derived.WalkSpells
import Derived.WalkLawsBesides
import Derived.Lib.Hide
import Derived.ControlIn
import Derived.Test.YtafgincpoahefaaDoorShelf
import Derived.Test.YtafgincpoahefaaDoorProg
import Derived.BigQuiet
import Derived.Deep.QuietTactic
import Derived.Lib.SmallJoins
import Derived.Lib.LaidTab
import Derived.Laws.Rows
import Derived.Laws.AppendOwnNone
import Derived.Laws.OwnMore
namespace Go.Proofs.YtafgincpoahefaaDoor
open Go.RowKit

section
variable {P : Program} {a : Act} {w : World} {Q : Exit → Act → World → Prop}
/-- as Q; by a goto to label l: on at 'rest' -/
def fwd (P : Program) (l : Nat) (rest : Code) (Q : Exit → Act → World → Prop) : Exit → Act → World → Prop
  | .goto l', a, w => l' = l ∧ rest.wp P (Exit.noGoto Q) a w
  | e, a, w => Q e a w
@[go_sem] theorem fwd_normal {l : Nat} {rest : Code} : fwd P l rest Q .normal a w = Q .normal a w := rfl
@[go_sem] theorem fwd_exit {l : Nat} {rest : Code} (id : Nat) : fwd P l rest Q (.exit id) a w = Q (.exit id) a w := rfl
@[go_sem] theorem fwd_ret {l : Nat} {rest : Code} : fwd P l rest Q .ret a w = Q .ret a w := rfl
@[go_sem] theorem fwd_panic {l : Nat} {rest : Code} (ch : List PanicEntry) : fwd P l rest Q (.panic ch) a w = Q (.panic ch) a w := rfl
theorem fwd_goto {l : Nat} {rest : Code} (h : rest.wp P (Exit.noGoto Q) a w) : fwd P l rest Q (.goto l) a w := ⟨rfl, h⟩

theorem wp_fwd {c rest : Code} (l : Nat) (hf : findLabel c l = some rest)
    (h : c.wp P (fwd P l rest Q) a w) : (Code.scope c).wp P Q a w := by
  refine wp_scope_jumps l (fun a w => rest.wp P (Exit.noGoto Q) a w) (fun _ _ => 0) hf (Code.wp_mono ?_ h) ?_
  · intro e a w he
    cases e <;> exact he
  · intro a w hJ
    refine Code.wp_mono ?_ hJ
    intro e a w he
    cases e <;> first | exact he | exact he.elim
end

/-- I abides new blocks, and the turn of a block at or behind B that holds no cells -/
def Stable (B : Nat) (I : World → Prop) : Prop :=
  ∀ W W' row, I W → W.grownBy W' row → (∀ r, row = some r → B ≤ r ∧ ∃ o : Obj, W.heap[r]? = some o ∧ o.isCells = false) → I W'
theorem Stable.alloc {B : Nat} {I : World → Prop} (h : Stable B I) {W : World} (o : Obj) (hs : I W) : I (W.alloc o) :=
  h W _ none hs (World.grownBy_alloc W o none) (fun r e => by cases e)
theorem Stable.putObj {B : Nat} {I : World → Prop} (h : Stable B I) {W : World} {l : Nat} {o : Obj} (o' : Obj) (hs : I W) (hB : B ≤ l) (hl : W.heap[l]? = some o) (ho : o.isCells = false) : I (W.putObj l o') :=
  h W _ (some l) hs (grownBy_putObj' W l o') (fun r e => by cases e; exact ⟨hB, o, hl, ho⟩)
theorem Stable.mono {B B' : Nat} {I : World → Prop} (h : Stable B I) (hB : B ≤ B') : Stable B' I :=
  fun W W' row hs hg hr => h W W' row hs hg (fun r e => ⟨Nat.le_trans hB (hr r e).1, (hr r e).2⟩)
theorem Stable.and {B : Nat} {I J : World → Prop} (h : Stable B I) (k : Stable B J) : Stable B (fun W => I W ∧ J W) :=
  fun W W' row hs hg hr => ⟨h W W' row hs.1 hg hr, k W W' row hs.2 hg hr⟩
theorem Stable.ex {B : Nat} {β : Type} {I : β → World → Prop} (h : ∀ x, Stable B (I x)) : Stable B (fun W => ∃ x, I x W) :=
  fun W W' row hs hg hr => hs.elim fun x hx => ⟨x, h x W W' row hx hg hr⟩
theorem Stable.pure {B : Nat} (p : Prop) : Stable B (fun _ => p) := fun _ _ _ hs _ _ => hs
theorem Stable.cell {B : Nat} (a : Addr) (v : Value) : Stable B (fun W => W.cell? a = some v) :=
  fun _ _ _ hs hg hr => cell_kept hs hg (fun r e => (hr r e).2)
theorem Stable.frozen {B : Nat} (a : Addr) (v : Value) (f : Bool) : Stable B (fun W => W.cell? a = some v ∧ W.frozen? a = f) :=
  fun _ _ _ hs hg hr => ⟨cell_kept hs.1 hg (fun r e => (hr r e).2), (frozen_kept hs.1 hg (fun r e => (hr r e).2)).trans hs.2⟩
theorem Stable.boxed {B : Nat} (b : Nat) (t : TypeId) (v : Value) : Stable B (fun W => Boxed W b t v) :=
  fun W W' row hs hg hr => boxed_own (β := Unit) b t (fun _ => v) () W W' row hs hg (fun r e => (hr r e).2)
theorem Stable.below {B n₀ : Nat} {w0 : World} (h : n₀ ≤ B) (hB : n₀ ≤ w0.heap.size) : Stable B (fun W => Below n₀ w0 W) :=
  fun _ _ _ hs hg hr => hs.grown hg (Nat.le_trans hB hs.size) (fun r e => Nat.le_trans h (hr r e).1)

/-- The iterator g (over what it has captured, lb) tells encs 0 .. encs (N - 1), in this order, wherever Fp holds. -/
def Iter (P : Program) (g : Nat) (lb : Array Value) (encs : Nat → Array Value) (N : Nat) (Fp : World → Prop) : Prop :=
  ∀ (l : Nat) (J Jx : Nat → World → Prop) (W : World), (∀ i, Stable W.heap.size (J i)) → (∀ i, Stable W.heap.size (Jx i)) → (∀ i W, J i W → Fp W) →
    (∀ i W1, i < N → J i W1 → YieldAt Fence.wide 0 P l (encs i) W1 fun e W' => (e = .returned (.bool true) ∧ J (i + 1) W') ∨ (e = .returned (.bool false) ∧ Jx i W')) →
    J 0 W → CallsIn Fence.wide 0 P g (#[.func (.yield l) #[] #[]] ++ lb) W fun e W' => (∃ v, e = .returned v) ∧ (J N W' ∨ ∃ i, i < N ∧ Jx i W')

/-- How the body of round i may be left. -/
def rpost (B : Nat) (I : Nat → World → Prop) (Ix : Code → Nat → World → Prop) (i : Nat) (W : World) : Exit → Act → World → Prop
  | .normal, _, W' => KeepsFrom B W W' ∧ I (i + 1) W'
  | .ret, _, W' => KeepsFrom B W W' ∧ Ix .ret i W'
  | .exit id, _, W' => KeepsFrom B W W' ∧ Ix (.exit id) i W'
  | .goto t, _, W' => KeepsFrom B W W' ∧ Ix (.goto t) i W'
  | .panic _, _, _ => False
  | .outgrown, _, _ => False

/-- The mark that an outermost range over a function leaves among the activation's deferred calls. -/
def mark (D : Nat) : Deferred := { target := .collected D, args := #[] }

theorem wp_range_ax {P : Program} {g : Operand} {ps : Array Tmp} {assign body : Code} {Q : Exit → Act → World → Prop} {a : Act} {w : World}
    {gf : Nat} {lb : Array Value} (hg : a.eval g = .func (.func gf) #[] lb) (eg : ∀ args w, (callFunc gf args).run P w = .ok (.enter gf args) w)
    {encs : Nat → Array Value} {N : Nat} {Fp : World → Prop} (hit : Iter P gf lb encs N Fp) (hps : ∀ i, (encs i).size = ps.size)
    (I : Nat → World → Prop) (Ix : Code → Nat → World → Prop) (hI : ∀ i, Stable w.heap.size (I i)) (hIx : ∀ c i, Stable w.heap.size (Ix c i)) (hFp : ∀ i W, I i W → Fp W) (h0 : I 0 w)
    (Ax : Nat → Act → World → Prop) (hAx : ∀ x a', Stable w.heap.size (Ax x a'))
    (hassign : ∀ (l i : Nat) (W : World) (K : Act → World → Prop), i < N → I i W → (∀ a' W', KeepsFrom w.heap.size W W' → I i W' → Ax i a' W' → K a' W') →
      assign.wpIn (Fence.wide.inRound l) 0 P (Exit.then K (fun _ _ _ => False)) { tmps := (ps.zip (encs i)).foldl (fun t (p, v) => t.setIfInBounds p v) a.tmps, defers := [] } W)
    (hbody : ∀ (l i : Nat) (a' : Act) (W : World), w.heap.size ≤ l → i < N → I i W → Ax i a' W → body.wpIn (Fence.wide.inRound l) 0 P (rpost w.heap.size I Ix i W) a' W)
    (hdone : ∀ (D : Nat) (W : World), w.heap.size ≤ D → I N W → W.heap[D]? = some (.deferred (some [])) → Q .normal { a with defers := mark D :: a.defers } W)
    (hstop : ∀ (D : Nat) (c : Code) (i : Nat) (W : World), w.heap.size ≤ D → i < N → Ix c i W → W.heap[D]? = some (.deferred (some [])) → c.wp P Q { a with defers := mark D :: a.defers } W) :
    (Code.rangeFunc g ps assign body).wp P Q a w := by
  refine (wpIn_wide (n := 0)).1 (wpIn_rangeFunc ?_)
  intro fn hfn
  rw [show Fence.wide.round = none from rfl]
  obtain ⟨rec, hrec⟩ : ∃ rec : LoopState → Option Code → Loop, rec = fun st pe => { state := st, pending := pe, fn, tmps := a.tmps, params := ps, assign, body, defers := w.heap.size } := ⟨_, rfl⟩
  obtain ⟨W1, hW1⟩ : ∃ W1, (w.alloc (.deferred (some []))).alloc (.loop (rec .ready none)) = W1 := ⟨_, rfl⟩
  have hL1 : W1.heap[w.heap.size + 1]? = some (.loop (rec .ready none)) := by
    rw [← hW1]; have := World.alloc_heap_new (w.alloc (.deferred (some []))) (.loop (rec .ready none)); rwa [World.size_alloc] at this
  have hK1 : W1.heap[w.heap.size]? = some (.deferred (some [])) := by
    rw [← hW1]; exact (Below.heap_alloc _ _ _ (by simp)).trans (World.alloc_heap_new w _)
  have hI1 : I 0 W1 := by rw [← hW1]; exact (hI 0).alloc _ ((hI 0).alloc _ h0)
  have hsz : w.heap.size ≤ W1.heap.size := by rw [← hW1]; simp; omega
  refine ⟨w.heap.size + 1, [mark w.heap.size], W1, { target := .fn (.func gf) lb, args := #[.func (.yield (w.heap.size + 1)) #[] #[]] }, W1, gf,
    #[.func (.yield (w.heap.size + 1)) #[] #[]] ++ lb, W1, ?_, ?_, ?_, ?_, fun h => by simp [Fence.wide] at h, ?_⟩
  · rw [← hW1, hrec]; exact run_enterLoop_outer _ _ _ _ _
  · simp only [resolve, hg]
    simp [go_sem]
  · intro f' _; trivial
  · simp [invoke, go_sem, eg]
  · refine (hit (w.heap.size + 1)
      (fun i W => I i W ∧ W.heap[w.heap.size + 1]? = some (.loop (rec .ready none)) ∧ W.heap[w.heap.size]? = some (.deferred (some [])))
      (fun i W => ∃ c, Ix c i W ∧ W.heap[w.heap.size + 1]? = some (.loop (rec .done (some c))) ∧ W.heap[w.heap.size]? = some (.deferred (some [])))
      W1 ?_ ?_ (fun i W h => hFp i W h.1) ?_ ⟨hI1, hL1, hK1⟩).mono ?_
    · intro i A B row hs hg' hr
      refine ⟨hI i A B row hs.1 hg' (fun r e => ⟨Nat.le_trans hsz (hr r e).1, (hr r e).2⟩), ?_, ?_⟩
      · exact (hg'.block _ (Array.getElem?_eq_some_iff.1 hs.2.1).1 (fun e => by have := (hr _ e.symm).1; rw [← hW1] at this; simp at this; omega)).trans hs.2.1
      · exact (hg'.block _ (Array.getElem?_eq_some_iff.1 hs.2.2).1 (fun e => by have := (hr _ e.symm).1; rw [← hW1] at this; simp at this; omega)).trans hs.2.2
    · intro i A B row hs hg' hr
      obtain ⟨c, hc, hl, hk⟩ := hs
      refine ⟨c, hIx c i A B row hc hg' (fun r e => ⟨Nat.le_trans hsz (hr r e).1, (hr r e).2⟩), ?_, ?_⟩
      · exact (hg'.block _ (Array.getElem?_eq_some_iff.1 hl).1 (fun e => by have := (hr _ e.symm).1; rw [← hW1] at this; simp at this; omega)).trans hl
      · exact (hg'.block _ (Array.getElem?_eq_some_iff.1 hk).1 (fun e => by have := (hr _ e.symm).1; rw [← hW1] at this; simp at this; omega)).trans hk
    · -- one round
      rintro i W hiN ⟨hi, hl, hk⟩
      have hlt : w.heap.size + 1 < W.heap.size := (Array.getElem?_eq_some_iff.1 hl).1
      have hy := run_yield (P := P) (args := encs i) hl (by rw [hrec]; exact hps i)
      rw [hrec] at hy
      refine ⟨fn, _, assign, body, hy, roundIn_of_wpIn hfn (hassign _ i W _ hiN hi ?_)⟩
      clear hy
      intro a' Wa hkfa hia hax
      replace hl := hkfa.same _ _ (by omega) hl rfl
      replace hk := hkfa.same _ _ (Nat.le_refl _) hk rfl
      replace hlt : w.heap.size + 1 < Wa.heap.size := (Array.getElem?_eq_some_iff.1 hl).1
      refine ⟨_, run_beginRound hl (by rw [hrec]), ?_⟩
      have hl2 : (Wa.putObj (w.heap.size + 1) (.loop { rec .ready none with state := .busy })).heap[w.heap.size + 1]? = some (.loop { rec .ready none with state := .busy }) := World.putObj_heap_same hlt
      have hk2 : (Wa.putObj (w.heap.size + 1) (.loop { rec .ready none with state := .busy })).heap[w.heap.size]? = some (.deferred (some [])) := (World.putObj_heap_other (by omega)).trans hk
      refine wpIn_mono (hbody _ i a' _ (by omega) hiN ((hI i).putObj _ hia (by omega) hl rfl) ((hAx i a').putObj _ hax (by omega) hl rfl)) ?_
      have fin : ∀ (jump : Option Code) (W3 : World), KeepsFrom w.heap.size (Wa.putObj (w.heap.size + 1) (.loop { rec .ready none with state := .busy })) W3 →
          (Instr.endRound (w.heap.size + 1) jump).run P W3 = .ok (.bool jump.isNone) (W3.putObj (w.heap.size + 1) (.loop (rec (if jump.isNone then .ready else .done) jump))) ∧
          W3.heap[w.heap.size + 1]? = some (.loop { rec .ready none with state := .busy }) ∧
          (W3.putObj (w.heap.size + 1) (.loop (rec (if jump.isNone then .ready else .done) jump))).heap[w.heap.size + 1]? = some (.loop (rec (if jump.isNone then .ready else .done) jump)) ∧
          (W3.putObj (w.heap.size + 1) (.loop (rec (if jump.isNone then .ready else .done) jump))).heap[w.heap.size]? = some (.deferred (some [])) := fun jump W3 hk3 => by
        have hl3 := hk3.same _ _ (by omega) hl2 rfl
        have := run_endRound (P := P) jump hl3
        rw [hrec] at this ⊢
        exact ⟨this, by rw [hrec] at hl3; exact hl3, World.putObj_heap_same (Array.getElem?_eq_some_iff.1 hl3).1, (World.putObj_heap_other (by omega)).trans (hk3.same _ _ (Nat.le_refl _) hk2 rfl)⟩
      rintro e a3 W3 hp
      cases e with
      | normal =>
        obtain ⟨hk3, hi3⟩ := hp
        obtain ⟨hr, hl3, hl4, hk4⟩ := fin none W3 hk3
        exact ⟨_, _, hr, .inl ⟨rfl, (hI _).putObj _ hi3 (by omega) hl3 rfl, hl4, hk4⟩⟩
      | ret =>
        obtain ⟨hk3, hi3⟩ := hp
        obtain ⟨hr, hl3, hl4, hk4⟩ := fin (some .ret) W3 hk3
        exact ⟨_, _, hr, .inr ⟨rfl, .ret, (hIx _ _).putObj _ hi3 (by omega) hl3 rfl, hl4, hk4⟩⟩
      | exit id =>
        obtain ⟨hk3, hi3⟩ := hp
        obtain ⟨hr, hl3, hl4, hk4⟩ := fin (some (.exit id)) W3 hk3
        exact ⟨_, _, hr, .inr ⟨rfl, .exit id, (hIx _ _).putObj _ hi3 (by omega) hl3 rfl, hl4, hk4⟩⟩
      | goto t =>
        obtain ⟨hk3, hi3⟩ := hp
        obtain ⟨hr, hl3, hl4, hk4⟩ := fin (some (.goto t)) W3 hk3
        exact ⟨_, _, hr, .inr ⟨rfl, .goto t, (hIx _ _).putObj _ hi3 (by omega) hl3 rfl, hl4, hk4⟩⟩
      | panic ch => exact hp.elim
      | outgrown => exact hp.elim
    · rintro e W2 ⟨⟨v, rfl⟩, (⟨hi, hl, hk⟩ | ⟨i, hiN, c, hi, hl, hk⟩)⟩
      · exact ⟨none, _, by have := run_endLoop (P := P) hl (by rw [hrec]; simp); rw [hrec] at this; exact this, hdone _ _ (Nat.le_refl _) ((hI _).putObj _ hi (by omega) hl rfl) ((World.putObj_heap_other (by omega)).trans hk)⟩
      · exact ⟨some c, _, by have := run_endLoop (P := P) hl (by rw [hrec]; simp); rw [hrec] at this; exact this, wpIn_wide.2 (hstop _ c i _ (Nat.le_refl _) hiN ((hIx c i).putObj _ hi (by omega) hl rfl) ((World.putObj_heap_other (by omega)).trans hk))⟩

/-- where the assignment to the loop's left sides lays no block -/
theorem wp_range {P : Program} {g : Operand} {ps : Array Tmp} {assign body : Code} {Q : Exit → Act → World → Prop} {a : Act} {w : World}
    {gf : Nat} {lb : Array Value} (hg : a.eval g = .func (.func gf) #[] lb) (eg : ∀ args w, (callFunc gf args).run P w = .ok (.enter gf args) w)
    {encs : Nat → Array Value} {N : Nat} {Fp : World → Prop} (hit : Iter P gf lb encs N Fp) (hps : ∀ i, (encs i).size = ps.size)
    (I : Nat → World → Prop) (Ix : Code → Nat → World → Prop) (hI : ∀ i, Stable w.heap.size (I i)) (hIx : ∀ c i, Stable w.heap.size (Ix c i)) (hFp : ∀ i W, I i W → Fp W) (h0 : I 0 w)
    (a₁ : Nat → Act)
    (hassign : ∀ (l i : Nat) (W : World) (K : Act → World → Prop), i < N → K (a₁ i) W →
      assign.wpIn (Fence.wide.inRound l) 0 P (Exit.then K (fun _ _ _ => False)) { tmps := (ps.zip (encs i)).foldl (fun t (p, v) => t.setIfInBounds p v) a.tmps, defers := [] } W)
    (hbody : ∀ (l i : Nat) (W : World), w.heap.size ≤ l → i < N → I i W → body.wpIn (Fence.wide.inRound l) 0 P (rpost w.heap.size I Ix i W) (a₁ i) W)
    (hdone : ∀ (D : Nat) (W : World), w.heap.size ≤ D → I N W → W.heap[D]? = some (.deferred (some [])) → Q .normal { a with defers := mark D :: a.defers } W)
    (hstop : ∀ (D : Nat) (c : Code) (i : Nat) (W : World), w.heap.size ≤ D → i < N → Ix c i W → W.heap[D]? = some (.deferred (some [])) → c.wp P Q { a with defers := mark D :: a.defers } W) :
    (Code.rangeFunc g ps assign body).wp P Q a w :=
  wp_range_ax hg eg hit hps I Ix hI hIx hFp h0 (fun i a' _ => a' = a₁ i) (fun _ _ => Stable.pure _)
    (fun l i W K hi hIi hK => hassign l i W K hi (hK _ _ (KeepsFrom.refl _ _) hIi rfl))
    (fun l i a' W hl hi hIi ha => by subst ha; exact hbody l i W hl hi hIi) hdone hstop

/-- a function whose body holds a range over a function -/
theorem calls_marks {P : Program} {f : FuncId} {fn : Func} {c : Code} {args : Array Value} {w : World} {R : Ending → World → Prop}
    (hf : P.funcs[f]? = some fn) (hb : fn.body = some c)
    (h : c.wp P (bodyPostM Fence.wide 0 P fn R) { tmps := args ++ Array.replicate (fn.ntmps - args.size) undef, defers := [] } w) : Calls P f args w R :=
  callsIn_wide.1 (callsIn_of_wp_marks (n := 0) hf hb trivial (wpIn_wide.2 h) rfl)

/-- its return, behind the loop -/
theorem ret_mark {P : Program} {fn : Func} {R : Ending → World → Prop} {tmps : Array Value} {D : Nat} {W : World} {v : Value}
    (hK : W.heap[D]? = some (.deferred (some [])))
    (hres : (results fn tmps).run P (W.putObj D (.deferred none)) = .ok v (W.putObj D (.deferred none))) (hR : R (.returned v) (W.putObj D (.deferred none))) :
    bodyPostM Fence.wide 0 P fn R .ret { tmps := tmps, defers := [mark D] } W := by
  refine ⟨by simp, .inl ⟨D, _, rfl, run_takeDeferred hK, ?_⟩⟩
  exact ⟨v, hres, hR⟩
theorem ret_nomark {P : Program} {fn : Func} {R : Ending → World → Prop} {tmps : Array Value} {W : World} {v : Value}
    (hres : (results fn tmps).run P W = .ok v W) (hR : R (.returned v) W) :
    bodyPostM Fence.wide 0 P fn R .ret { tmps := tmps, defers := [] } W := ⟨v, hres, hR⟩
theorem putObj_cell {W : World} {D : Nat} {o o' : Obj} (hK : W.heap[D]? = some o) (ho : o.isCells = false) {a : Addr} {v : Value} (h : W.cell? a = some v) : (W.putObj D o').cell? a = some v :=
  cell_kept h (grownBy_putObj' W D o') (fun r e => by cases e; exact ⟨o, hK, ho⟩)
theorem putObj_below {W w : World} {n₀ D : Nat} {o o' : Obj} (h : Below n₀ w W) (hK : W.heap[D]? = some o) (hD : n₀ ≤ D) : Below n₀ w (W.putObj D o') :=
  h.grown (grownBy_putObj' W D o') (by have := (Array.getElem?_eq_some_iff.1 hK).1; omega) (fun k e => by cases e; omega)

end Go.Proofs.YtafgincpoahefaaDoor

namespace Go.Proofs.YtafgincpoahefaaDoor

section
variable {F : Fence} {n : Nat} {P : Program} {Q : Exit → Act → World → Prop} {a : Act} {w : World}

theorem stepR_scope {b : Frame} {cs : List Frame} {k : List Item} {c : Code} : step P (lone (b.atR a (.code (.scope c) :: k)) cs w) = .next (lone (b.atR a (.code c :: .inScope c :: k)) cs w) :=
  step_lone_go (by simp [stepG, stepG.exec, Frame.atR])
theorem stepR_inScope {b : Frame} {cs : List Frame} {k : List Item} {c : Code} : step P (lone (b.atR a (.inScope c :: k)) cs w) = .next (lone (b.atR a k) cs w) :=
  step_lone_go (by simp [stepG, stepG.exec, Frame.atR])

theorem wpIn_scope_jumps {c rest : Code} (l : Nat) (J : Act → World → Prop) (μ : Act → World → Nat) (hf : findLabel c l = some rest)
    (first : c.wpIn F n P (Exit.jump l J Q) a w)
    (pass : ∀ a w, J a w → rest.wpIn F n P (Exit.jump l (fun a' w' => J a' w' ∧ μ a' w' < μ a w) Q) a w) : (Code.scope c).wpIn F n P Q a w := by
  intro b k cs hro hb hr
  have hg : gotoIn l (.inScope c :: k) = some (.code rest :: .inScope c :: k) := by simp [gotoIn, hf]
  have key : ∀ m a w, μ a w = m → J a w → ∃ e a' w', Q e a' w' ∧ ArrivesIn (Machine.fenced P F) P (lone (b.atR a (.code rest :: .inScope c :: k)) cs w) b k cs e a' w' := by
    intro m
    induction m using Nat.strongRecOn with
    | _ m ih =>
      intro a w hn hJ
      obtain ⟨e, a₁, w₁, hq, harr⟩ := pass a w hJ b (.inScope c :: k) cs hro hb hr
      cases e with
      | normal => exact ⟨.normal, a₁, w₁, hq, StepsIn.trans harr (.one (fenced_calm hb hr rfl) stepR_inScope)⟩
      | exit id => exact ⟨.exit id, a₁, w₁, hq, fun k' hk => harr.1 k' (by simp [exitTo, hk]), fun h1 h2 => harr.2 h1 (by simp [exitTo, h2])⟩
      | goto l' =>
        obtain ⟨rfl, hJ', hlt⟩ := hq
        obtain ⟨e₂, a₂, w₂, hq₂, harr₂⟩ := ih _ (by omega) a₁ w₁ rfl hJ'
        exact ⟨e₂, a₂, w₂, hq₂, .of_steps (harr.1 _ hg) harr₂⟩
      | ret => exact ⟨_, a₁, w₁, hq, harr⟩
      | panic ch => exact ⟨_, a₁, w₁, hq, harr⟩
      | outgrown => exact ⟨_, a₁, w₁, hq, harr⟩
  have h0 : (lone (b.atR a (.code (.scope c) :: k)) cs w).fenced P F := fenced_calm hb hr rfl
  obtain ⟨e, a₁, w₁, hq, harr⟩ := first b (.inScope c :: k) cs hro hb hr
  cases e with
  | normal => exact ⟨.normal, a₁, w₁, hq, .head h0 stepR_scope (StepsIn.trans harr (.one (fenced_calm hb hr rfl) stepR_inScope))⟩
  | exit id => exact ⟨.exit id, a₁, w₁, hq, .of_steps (.one h0 stepR_scope) ⟨fun k' hk => harr.1 k' (by simp [exitTo, hk]), fun h1 h2 => harr.2 h1 (by simp [exitTo, h2])⟩⟩
  | goto l' =>
    obtain ⟨rfl, hJ'⟩ := hq
    obtain ⟨e₂, a₂, w₂, hq₂, harr₂⟩ := key _ a₁ w₁ rfl hJ'
    exact ⟨e₂, a₂, w₂, hq₂, .of_steps (.head h0 stepR_scope (harr.1 _ hg)) harr₂⟩
  | ret => exact ⟨_, a₁, w₁, hq, .of_steps (.one h0 stepR_scope) harr⟩
  | panic ch => exact ⟨_, a₁, w₁, hq, .of_steps (.one h0 stepR_scope) harr⟩
  | outgrown => exact ⟨_, a₁, w₁, hq, .of_steps (.one h0 stepR_scope) harr⟩
end
end Go.Proofs.YtafgincpoahefaaDoor

namespace Go.Proofs.YtafgincpoahefaaDoor
open Go.RowKit


/-- a slice of integers of kind k at a, that holds l -/
def IntsAt (w : World) (k : IntKind) (a : Option Addr) (l : List Int) : Prop :=
  l.length ≤ 140737488351232 ∧ (l = [] ∨ ∃ b off, a = some ⟨b, off, none⟩ ∧ ∀ i, i < l.length → w.cell? ⟨b, off + i, none⟩ = some (.int k (l.getD i 0)))

theorem cell_lt {w : World} {a : Addr} {v : Value} (h : w.cell? a = some v) : a.block < w.heap.size := by
  unfold World.cell? at h
  cases ho : w.heap[a.block]? with
  | none => simp [ho] at h
  | some o => exact (Array.getElem?_eq_some_iff.1 ho).1
theorem cell_mono {w w' : World} {B : Nat} (hb : Below B w w') (hB : w.heap.size ≤ B) {a : Addr} {v : Value} (h : w.cell? a = some v) : w'.cell? a = some v :=
  (hb.cell (Nat.lt_of_lt_of_le (cell_lt h) hB)).trans h
theorem IntsAt.mono {w w' : World} {k : IntKind} {a : Option Addr} {l : List Int} (hb : Below w.heap.size w w') (h : IntsAt w k a l) : IntsAt w' k a l := by
  obtain ⟨h1, h2 | ⟨b, off, ha, hc⟩⟩ := h
  · exact ⟨h1, .inl h2⟩
  · exact ⟨h1, .inr ⟨b, off, ha, fun i hi => cell_mono hb (Nat.le_refl _) (hc i hi)⟩⟩

theorem bcell {W w1 : World} (hb : Below W.heap.size W w1) : (∀ b o, b < W.heap.size → w1.cell? ⟨b, o, none⟩ = W.cell? ⟨b, o, none⟩) ∧ (∀ b o, b < W.heap.size → w1.frozen? ⟨b, o, none⟩ = W.frozen? ⟨b, o, none⟩) :=
  ⟨fun b o h => hb.cell (p := ⟨b, o, none⟩) h, fun b o h => hb.frozen (p := ⟨b, o, none⟩) h⟩

theorem below_grow (w : World) (k : Nat) (os : Array Obj) : Below w.heap.size w (Sort.grow (w.drewN k) os) := by
  refine ⟨rfl, rfl, rfl, by show w.heap.size ≤ (w.heap ++ os).size; simp, fun i hi => ?_⟩
  show (w.heap ++ os)[i]? = _
  rw [Array.getElem?_append_left hi]
theorem below_drewN (B : Nat) (w : World) (k : Nat) : Below B w (w.drewN k) := ⟨rfl, rfl, rfl, Nat.le_refl _, fun _ _ => rfl⟩

theorem gRange : Tryd.prog.globalNamed "strconv.ErrRange" = some 1 := by kernel_rfl
theorem gSyntax : Tryd.prog.globalNamed "strconv.ErrSyntax" = some 4 := by kernel_rfl
theorem gPow : Tryd.prog.globalNamed "internal/strconv.uint64pow10" = some 5 := by kernel_rfl

/-- the library's variables, as the program's text lays them -/
structure G (w : World) : Prop where
  pow : Lib.TabIs Tryd.prog w "internal/strconv.uint64pow10" .u64 Lib.pow10Tab
  err : ∃ (a b : Addr) (ca cb : Array Value) (ta tb : TypeId), w.var? Tryd.prog "strconv.ErrRange" = some #[.iface 199 (.pointer (some a))] ∧ w.var? Tryd.prog "strconv.ErrSyntax" = some #[.iface 199 (.pointer (some b))] ∧
    b ≠ a ∧ w.heap[a.block]? = some (.cells ca ta (0, 0)) ∧ w.heap[b.block]? = some (.cells cb tb (0, 0))

theorem block_mono {w w' : World} {B : Nat} (hb : Below B w w') (hB : w.heap.size ≤ B) {b : Nat} {o : Obj} (h : w.heap[b]? = some o) : w'.heap[b]? = some o :=
  (hb.block b (Nat.lt_of_lt_of_le (Array.getElem?_eq_some_iff.1 h).1 hB)).trans h
theorem G.mono' {w w' : World} {B : Nat} (hb : Below B w w') (hB : w.heap.size ≤ B) (h : G w) : G w' := by
  obtain ⟨h1, a, b, ca, cb, ta, tb, h2, h3, h4, h5, h6⟩ := h
  exact ⟨Joins.tab_stays gPow h1 hb hB, a, b, ca, cb, ta, tb, Joins.var_stays gRange h2 hb hB, Joins.var_stays gSyntax h3 hb hB, h4, block_mono hb hB h5, block_mono hb hB h6⟩
theorem G.mono {w w' : World} (hb : Below w.heap.size w w') (h : G w) : G w' := h.mono' hb (Nat.le_refl _)
theorem G.alloc {w : World} (h : G w) (o : Obj) : G (w.alloc o) := h.mono ((Below.refl _ _).alloc (Nat.le_refl _) o)

end Go.Proofs.YtafgincpoahefaaDoor

namespace Go.Proofs.YtafgincpoahefaaDoor
open Go.RowKit

/-- block b holds just cs, cells of type t, none of them frozen -/
def Holds (w : World) (b : Nat) (t : TypeId) (cs : Array Value) : Prop := w.heap[b]? = some (.cells cs t (0, 0))

section
variable {w w' : World} {b : Nat} {t : TypeId} {cs : Array Value}
theorem Holds.size (h : Holds w b t cs) : b < w.heap.size := (Array.getElem?_eq_some_iff.1 h).1
theorem Holds.cell (h : Holds w b t cs) (i : Nat) : w.cell? ⟨b, i, none⟩ = cs[i]? := cell_of_row w b i cs t (0, 0) h
theorem Holds.cell0 (h : Holds w b t cs) : w.cell? ⟨b, 0, none⟩ = cs[0]? := h.cell 0
theorem Holds.free (h : Holds w b t cs) (i : Nat) : w.frozen? ⟨b, i, none⟩ = false := by
  have h' : w.heap[b]? = some (.cells cs t (0, 0)) := h
  simp [World.frozen?, h']
theorem Holds.fresh (w : World) (t : TypeId) (cs : Array Value) : Holds (w.alloc (.cells cs t)) w.heap.size t cs := World.alloc_heap_new w _
theorem Holds.fresh' {w : World} {b : Nat} (h : w.heap.size = b) (t : TypeId) (cs : Array Value) : Holds (w.alloc (.cells cs t)) b t cs := h ▸ Holds.fresh w t cs
theorem Holds.below {B : Nat} (h : Holds w b t cs) (hb : Below B w w') (hB : b < B) : Holds w' b t cs := (hb.block b hB).trans h
theorem Holds.later (h : Holds w b t cs) (hb : Below w.heap.size w w') : Holds w' b t cs := h.below hb h.size
theorem Holds.drew (h : Holds w b t cs) : Holds w.drew b t cs := h
theorem Holds.drewN (h : Holds w b t cs) (k : Nat) : Holds (w.drewN k) b t cs := h
theorem Holds.alloc (h : Holds w b t cs) (o : Obj) : Holds (w.alloc o) b t cs := (Below.heap_alloc w o b h.size).trans h
theorem Holds.set (h : Holds w b t cs) (i : Nat) (v : Value) : Holds (w.setCell ⟨b, i, none⟩ v) b t (cs.setIfInBounds i v) := by
  have h' : w.heap[b]? = some (.cells cs t (0, 0)) := h
  show (w.setCell ⟨b, i, none⟩ v).heap[b]? = _
  simp [World.setCell, Array.getElem?_modify, h']
theorem Holds.far (h : Holds w b t cs) {p : Addr} (hp : b ≠ p.block) (v : Value) : Holds (w.setCell p v) b t cs := (Below.heap_setCell w p v b hp).trans h
theorem Holds.grown {row : Option Nat} (h : Holds w b t cs) (hg : w.grownBy w' row) (hr : some b ≠ row) : Holds w' b t cs := (hg.block b h.size hr).trans h
theorem Holds.boxed {v : Value} (h : Holds w b t #[v]) : Boxed w b t v := h
end

/-- the results of a function whose first one lies in a cell -/
theorem results_first {P : Program} {fn : Func} {p q : Tmp} {ty : TypeId} (h : fn.results = #[.cell p ty, .tmp q]) (tmps : Array Value) (w : World) (b : Nat) (t : TypeId) (cs : Array Value) (d : TypeDesc)
    (hp : tmps.getD p undef = .pointer (some ⟨b, 0, none⟩)) (hb : Holds w b t cs) (hu : P.underlying ty = some d) (hd : (match d with | .struct _ | .array _ _ => true | _ => false) = true) (hi : (P.info? ty).map (·.size) = some cs.size) :
    (results fn tmps).run P w = .ok (.tuple #[.agg cs, tmps.getD q undef]) w := by
  have hp' : tmps[p]?.getD undef = .pointer (some ⟨b, 0, none⟩) := by simpa using hp
  simp [results, h, hp', asAddr, run_loadVar_row w b t ty cs (0, 0) d hb hu hd hi]
end Go.Proofs.YtafgincpoahefaaDoor

namespace Go.Proofs.YtafgincpoahefaaDoor
open Go.RowKit

theorem IntsAt.news {w : World} {kd : IntKind} {ad : Addr} {l : List Int} (h : IntsAt w kd (some ad) l) : ∀ j u, (l.map (Value.int kd))[j]? = some u → w.cell? (ad.add j) = some u := by
  intro j u hu
  obtain ⟨_, rfl | ⟨b, off, ha, hc⟩⟩ := h
  · simp at hu
  · obtain rfl := Option.some.inj ha
    have hj : j < l.length := by
      have := (List.getElem?_eq_some_iff.1 hu).1
      simpa using this
    rw [Go.WideShapes.add_plain, hc j hj]
    simp [hj] at hu ⊢
    exact hu

theorem wpList_append_ints {P : Program} {w : World} {ops : Array Oper} {rest : List Oper} {o : Oper} {a : Act} {Q : Exit → Act → World → Prop} (hgd : o.guard = none) (s x : Operand) (t : TypeId)
    (ho : o.op = .call { callee := .builtin .append, args := #[s, x], argTypes := #[t, t] })
    (base : Nat) (e : TypeId) (i : TypeInfo) (z : Value) (bytes : Nat) (ht : P.underlying t = some (.slice e)) (hi : P.info? e = some i) (hz : i.zero = some z)
    (hsize : i.size = 1) (hby : i.bytes = bytes) (hzs : z.cells.size = 1) (kd : IntKind)
    (v : Value) (n : Nat) (xs : List Value) (hs : a.eval s = v) (hown : w.ownsRow base e 1 v n xs)
    (src : Option Addr) (m c : Nat) (l : List Int) (hx : a.eval x = .slice src m c) (hm : l.length = m) (hsrc : IntsAt w kd src l) (hnil : src = none → c = 0)
    (h63 : n + m ≤ maxLen) (hbytes : (n + m) * bytes ≤ 140737488355328) (hbase : base ≤ w.heap.size)
    (h : ∀ v' w', w'.ownsRow base e 1 v' (n + m) (xs ++ l.map (Value.int kd)) → w.grownBy w' v.ownBlock → wpList P ops Q rest (a.put o.dst v') w') : wpList P ops Q (o :: rest) a w := by
  cases src with
  | none =>
    have hl : l = [] := by
      rcases hsrc.2 with h | ⟨b, off, ha, _⟩
      · exact h
      · cases ha
    subst hl
    obtain rfl : m = 0 := by simpa using hm.symm
    obtain rfl := hnil rfl
    refine wpList_append_own_none hgd s x t ho base e i 1 ht hi v n xs hs hown hx (h v w ?_ ⟨rfl, rfl, rfl, Nat.le_refl _, fun _ _ _ => rfl⟩)
    simpa using hown
  | some ad =>
    exact wpList_append_own _ hgd s x t ho base e i z 1 bytes ht hi hz hsize hby hzs (by decide) v n xs hs hown ad m c (l.map (Value.int kd)) hx (by simp [hm]) hsrc.news (by simp [Value.oneCell']) h63 hbytes hbase
      (fun v' w' h1 h2 _ => h v' w' h1 h2)

theorem IntsAt.drop {w : World} {kd : IntKind} {b off : Nat} {l : List Int} (h : IntsAt w kd (some ⟨b, off, none⟩) l) (k : Nat) : IntsAt w kd (some ⟨b, off + k, none⟩) (l.drop k) := by
  obtain ⟨h1, h2⟩ := h
  refine ⟨by simp; omega, ?_⟩
  rcases h2 with rfl | ⟨b', off', ha, hc⟩
  · exact .inl (by simp)
  · obtain ⟨rfl, rfl⟩ : b = b' ∧ off = off' := by simpa using ha
    refine .inr ⟨b, off + k, rfl, fun i hi => ?_⟩
    simp only [List.length_drop] at hi
    rw [show off + k + i = off + (k + i) from by omega, hc (k + i) (by omega)]
    simp [List.getD_eq_getElem?_getD]
theorem IntsAt.none (w : World) (kd : IntKind) (a : Option Addr) : IntsAt w kd a [] := ⟨by simp, .inl rfl⟩
end Go.Proofs.YtafgincpoahefaaDoor
