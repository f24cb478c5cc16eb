/-
  A law's post, out of its walk: the arguments read as they did wherever nothing that lay there has turned.
  Patterns, plain: terms, comparisons, steps; which may be written.
  Patterns in memory: what they are made of, read as data.
  An argument that is a token.
-/
import Derived.Test.YtafgincpoahefaaDoorGround
import Derived.Carry
import Derived.ProofKit
import Derived.OpenShut
import Derived.Deep.Slices
import Derived.Deep.Fields
import Derived.ChangeSame
import Derived.Lib.SmallJoins
namespace Go.Proofs.YtafgincpoahefaaDoor
open Go.ChangeShapes Go.WideShapes Go.ChangeAt Go.RowKit

section
variable {H : Type} {enc : TypeId × Value → H} {P : Program} {W W' : World}

theorem trodAll_below (hl : laidOutB P = true) (hb : Below W.heap.size W W') : ∀ (ts : List TypeId) (vs : List Value) (ds : List (DataW H)) (ps : List MemPlace),
    DataW.TrodAll enc P W 0 (fun _ => true) true ts vs ds ps → (∀ t ∈ ts, P.readableRec t = true ∧ t < P.types.size) → (∀ x ∈ ps, x.block < W.heap.size) →
    DataW.TrodAll enc P W' 0 (fun b => decide (b < W.heap.size)) true ts vs ds ps
  | [], vs, ds, ps, h, _, _ => by
    obtain ⟨rfl, rfl, rfl⟩ := trodAll_nil h
    exact trodAll_mk0
  | t :: ts, vs, ds, ps, h, hr, hlt => by
    obtain ⟨v, vs', d, ds', p, q, rfl, rfl, rfl, h0, r0⟩ := trodAll_cons h
    have ht := hr t (by simp)
    exact trodAll_cons_mk (Below.trod hl ht.1 ht.2 h0 hb (fun x hx => hlt x (by simp [hx])))
      (trodAll_below hl hb ts vs' ds' q r0 (fun t ht => hr t (by simp [ht])) (fun x hx => hlt x (by simp [hx])))

theorem law_post {s : ChangeSpec} {fn : Func} {args : Array Value} {ds gs : List (DataW H)} {before : List MemPlace} {tb : TypeId} (hl : laidOutB P = true)
    (hr : fn.params.all (fun t => P.readableRec t && decide (t < P.types.size)) = true) (hres : fn.resultTypes = #[tb]) (htb : P.underlying tb = some .bool) (hv : s.vars = [])
    (hspec : (s.fn H (ds ++ gs)).results = [.lit (.bool true)] ∧ (s.fn H (ds ++ gs)).args = ds ∧ (s.fn H (ds ++ gs)).vars = [])
    (hW : DataW.Whole enc P fn.params.toList s.vars false W args.toList ds gs before) (hb : Below W.heap.size W W') :
    s.post enc P fn false true false false W args (.bool true) W' := by
  have hW' := hW
  have hlt := fun p hp => hW.lt p hp
  obtain ⟨p, q, hA0, hV, rfl, hfz, hnd⟩ := hW
  have hA : DataW.TrodAll enc P W 0 (fun _ => true) true fn.params.toList args.toList ds p := hA0
  rw [hv] at hV
  obtain ⟨rfl, rfl⟩ := trodVars_none hV
  refine ⟨ds, [], _, [], p, [], hW', ?_, ?_, ?_, hb.frame _, fun h => by cases h⟩
  · rw [hspec.1, hres]
    exact trodAll_cons_mk (shut_bool htb _) trodAll_mk0
  · rw [hspec.2.1]
    refine trodAll_below hl hb _ _ _ _ hA (fun t ht => ?_) (fun x hx => hlt x (by simp [hx]))
    have := Array.all_eq_true_iff_forall_mem.1 hr t (by simpa using ht)
    simpa using this
  · rw [hspec.2.2, hv]
    rfl

theorem string_size {ts : List TypeId} {ds : List (DataW H)} (hsz : (DataW.weightsEach P ts ds).all (· ≤ reachBytes) = true) (j : Nat) {t : TypeId} {s : ByteArray} (ht : ts[j]? = some t) (hd : ds[j]? = some (.lit (.string s.data.toList))) : s.size ≤ 140737488351232 := by
  have := sized_string hsz ht hd
  have e : s.data.toList.length = s.size := by simp
  have r : reachBytes = 140737488351232 := by decide
  omega

theorem open_slice_ints {t e : TypeId} {k : IntKind} {v : Value} {d : DataW H} {p : List MemPlace} {ts : List TypeId} {ds : List (DataW H)} (ht : P.underlying t = some (.slice e)) (he : P.underlying e = some (.int k)) (hc : P.cellsOf e = 1) (hby : 1 ≤ P.bytesOf e)
    {base : Nat} (hv : Value.okWide P W .any base t v) (h : DataW.Trod enc P W 0 (fun _ => true) true t v d p)
    (hsz : (DataW.weightsEach P ts ds).all (· ≤ reachBytes) = true) (j : Nat) (hj : ts[j]? = some t) (hd : ds[j]? = some d) :
    ∃ a n c l, v = .slice a n c ∧ l.length = n ∧ l.length ≤ c ∧ (a = none → c = 0) ∧ IntsAt W k a l ∧ ∀ x ∈ l, (Lit.int k x).wf = true := by
  obtain ⟨a0, len, cap, rfl⟩ := okWide_slice ht hv
  obtain ⟨fuel, hf⟩ := h
  rcases open_ints ht he hc hf with ⟨hcs, hx⟩ | ⟨a, len', cap', zs, hcs, _, hl, hm, hz, hx, hcell, hwz⟩
  · have : a0 = none ∧ len = 0 ∧ cap = 0 := by simpa [Value.cells] using hcs
    obtain ⟨rfl, rfl, rfl⟩ := this
    exact ⟨none, 0, 0, [], rfl, rfl, Nat.le_refl _, fun _ => rfl, ⟨by simp, .inl rfl⟩, fun x hx => by cases hx⟩
  · have : a0 = some a ∧ len = len' ∧ cap = cap' := by simpa [Value.cells] using hcs
    obtain ⟨rfl, rfl, rfl⟩ := this
    have hd' : d = .slice (lits k (zs.take len)) (lits k (zs.drop len)) := by injection hx
    subst hd'
    have hz' : zs.length = cap := by simpa using hz
    have hw := sized_slice hsz hj hd ht
    have r : reachBytes = 140737488351232 := by decide
    have hlen : (lits (H := H) k (zs.take len)).length + (lits (H := H) k (zs.drop len)).length = zs.length := by simp [lits]; omega
    rw [hlen, r] at hw
    have hw' : zs.length * 1 ≤ zs.length * P.bytesOf e := Nat.mul_le_mul_left _ hby
    have htl : (zs.take len).length = len := by simp; omega
    refine ⟨some a, len, cap, zs.take len, rfl, htl, by omega, fun h => (by cases h), ⟨by omega, ?_⟩, fun x hx => hwz x (List.mem_of_mem_take hx)⟩
    rcases Nat.eq_zero_or_pos len with h0 | h0
    · subst h0; exact .inl rfl
    · obtain ⟨b, off, rfl, hc'⟩ := ints_at hcell (by omega)
      refine .inr ⟨b, off, rfl, fun i hi => ?_⟩
      rw [htl] at hi
      rw [hc' i (by omega)]
      simp [List.getD_eq_getElem?_getD, hi]
end
end Go.Proofs.YtafgincpoahefaaDoor

namespace Go.Proofs.YtafgincpoahefaaDoor
open Go.RowKit

structure Tm where
  kind : Int
  n : Int
  s : Int
  r : Int
deriving DecidableEq
structure Cm where
  op : Int
  l : Tm
  r : Tm
deriving DecidableEq
structure St where
  neg : Bool
  kind : Int
  min : Int
  max : Int
  strict : Bool
  cmps : List Cm
deriving DecidableEq
structure Pt where
  steps : List St
  window : Int
deriving DecidableEq

/-- is it from 0 to MaxNumber? -/
def numB (n : Int) : Bool := decide (0 ≤ n) && decide (n ≤ 1099511627776)
/-- has it two names? -/
def twoB (t : Tm) : Bool := (t.kind == 5) || (t.kind == 6)
/-- may a term be written? -/
def tmB (t : Tm) : Bool :=
  decide (-1099511627776 ≤ t.n) && decide (t.n ≤ 1099511627776) && decide (t.kind < 7) && decide (0 ≤ t.s) && decide (t.s < 26) && decide (0 ≤ t.r) && decide (t.r < 26) &&
    (t.kind != 0 || t.s == 0) && (twoB t || t.r == 0)
def cmB (c : Cm) : Bool := decide (1 ≤ c.op) && decide (c.op < 7) && tmB c.l && tmB c.r
def stB (s : St) : Bool := numB s.kind && numB s.min && numB s.max && s.cmps.all cmB
def ptB (p : Pt) : Bool := decide (0 < p.steps.length) && decide (p.steps.length ≤ 26) && numB p.window && p.steps.all stB
/-- is it too great to be asked? -/
def greatB (p : Pt) : Bool := (p.steps.take 41).any (fun s => decide (20 < s.cmps.length)) || decide (40 < p.steps.length)

end Go.Proofs.YtafgincpoahefaaDoor

namespace Go.Proofs.YtafgincpoahefaaDoor
open Go.ChangeShapes Go.WideShapes Go.ChangeAt Go.RowKit Go.Deep

def tmV (t : Tm) : List Value := [.int .u8 t.kind, .int .i64 t.n, .int .i64 t.s, .int .i64 t.r]
def cmV (c : Cm) : List Value := [.int .u8 c.op, .int .u8 c.l.kind, .int .i64 c.l.n, .int .i64 c.l.s, .int .i64 c.l.r, .int .u8 c.r.kind, .int .i64 c.r.n, .int .i64 c.r.s, .int .i64 c.r.r]
def bnd (n : Int) : Prop := -9223372036854775808 ≤ n ∧ n ≤ 9223372036854775807
def bnd8 (n : Int) : Prop := 0 ≤ n ∧ n ≤ 255
def tmWf (t : Tm) : Prop := bnd8 t.kind ∧ bnd t.n ∧ bnd t.s ∧ bnd t.r
def cmWf (c : Cm) : Prop := bnd8 c.op ∧ tmWf c.l ∧ tmWf c.r
def stWf (s : St) : Prop := bnd s.kind ∧ bnd s.min ∧ bnd s.max ∧ ∀ c ∈ s.cmps, cmWf c

/-- a slice of comparisons at a -/
def CmpsAt (w : World) (a : Option Addr) (cs : List Cm) : Prop :=
  cs = [] ∨ ∃ b off, a = some ⟨b, off, none⟩ ∧ ∀ (i : Nat) (c : Cm), cs[i]? = some c → ∀ (j : Nat) (v : Value), (cmV c)[j]? = some v → w.cell? ⟨b, off + i * 9 + j, none⟩ = some v
def stV (s : St) (v : Value) : List Value := [.bool s.neg, .int .i64 s.kind, .int .i64 s.min, .int .i64 s.max, .bool s.strict, v]
/-- the comparisons of a step, as its last cell has them -/
def CmpsV (w : World) (v : Value) (cs : List Cm) : Prop := ∃ a c, v = .slice a cs.length c ∧ cs.length ≤ c ∧ cs.length ≤ 9223372036854775807 ∧ (a = none → c = 0) ∧ CmpsAt w a cs
/-- a slice of steps at a -/
def StepsAt (w : World) (a : Option Addr) (ss : List St) : Prop :=
  ss = [] ∨ ∃ b off, a = some ⟨b, off, none⟩ ∧ ∀ (i : Nat) (s : St), ss[i]? = some s → ∃ v, CmpsV w v s.cmps ∧ ∀ (j : Nat) (u : Value), (stV s v)[j]? = some u → w.cell? ⟨b, off + i * 6 + j, none⟩ = some u
def StepsV (w : World) (v : Value) (ss : List St) : Prop := ∃ a c, v = .slice a ss.length c ∧ ss.length ≤ c ∧ ss.length ≤ 9223372036854775807 ∧ (a = none → c = 0) ∧ StepsAt w a ss

section
variable {w w' : World} {B : Nat} {a : Option Addr}
theorem CmpsAt.mono {cs : List Cm} (hb : Below B w w') (hB : w.heap.size ≤ B) (h : CmpsAt w a cs) : CmpsAt w' a cs := by
  rcases h with rfl | ⟨b, off, rfl, hc⟩
  · exact .inl rfl
  · exact .inr ⟨b, off, rfl, fun i c hi j v hj => cell_mono hb hB (hc i c hi j v hj)⟩
theorem CmpsV.mono {v : Value} {cs : List Cm} (hb : Below B w w') (hB : w.heap.size ≤ B) (h : CmpsV w v cs) : CmpsV w' v cs := by
  obtain ⟨a, c, rfl, h1, h2, h3, h4⟩ := h
  exact ⟨a, c, rfl, h1, h2, h3, h4.mono hb hB⟩
theorem StepsAt.mono {ss : List St} (hb : Below B w w') (hB : w.heap.size ≤ B) (h : StepsAt w a ss) : StepsAt w' a ss := by
  rcases h with rfl | ⟨b, off, rfl, hc⟩
  · exact .inl rfl
  · refine .inr ⟨b, off, rfl, fun i s hi => ?_⟩
    obtain ⟨v, hv, hx⟩ := hc i s hi
    exact ⟨v, hv.mono hb hB, fun j u hj => cell_mono hb hB (hx j u hj)⟩
theorem StepsV.mono {v : Value} {ss : List St} (hb : Below B w w') (hB : w.heap.size ≤ B) (h : StepsV w v ss) : StepsV w' v ss := by
  obtain ⟨a, c, rfl, h1, h2, h3, h4⟩ := h
  exact ⟨a, c, rfl, h1, h2, h3, h4.mono hb hB⟩
theorem CmpsAt.get {cs : List Cm} (h : CmpsAt w a cs) (i : Nat) (hi : i < cs.length) : ∃ b off, a = some ⟨b, off, none⟩ ∧
    w.cell? ⟨b, off + i * 9, none⟩ = some (.int .u8 cs[i].op) ∧ w.cell? ⟨b, off + i * 9 + 1, none⟩ = some (.int .u8 cs[i].l.kind) ∧ w.cell? ⟨b, off + i * 9 + 2, none⟩ = some (.int .i64 cs[i].l.n) ∧
    w.cell? ⟨b, off + i * 9 + 3, none⟩ = some (.int .i64 cs[i].l.s) ∧ w.cell? ⟨b, off + i * 9 + 4, none⟩ = some (.int .i64 cs[i].l.r) ∧ w.cell? ⟨b, off + i * 9 + 5, none⟩ = some (.int .u8 cs[i].r.kind) ∧
    w.cell? ⟨b, off + i * 9 + 6, none⟩ = some (.int .i64 cs[i].r.n) ∧ w.cell? ⟨b, off + i * 9 + 7, none⟩ = some (.int .i64 cs[i].r.s) ∧ w.cell? ⟨b, off + i * 9 + 8, none⟩ = some (.int .i64 cs[i].r.r) := by
  rcases h with rfl | ⟨b, off, rfl, hc⟩
  · simp at hi
  · have g := hc i _ (List.getElem?_eq_getElem hi)
    exact ⟨b, off, rfl, g 0 _ rfl, g 1 _ rfl, g 2 _ rfl, g 3 _ rfl, g 4 _ rfl, g 5 _ rfl, g 6 _ rfl, g 7 _ rfl, g 8 _ rfl⟩
theorem StepsAt.get {ss : List St} (h : StepsAt w a ss) (i : Nat) (hi : i < ss.length) : ∃ b off ca cc, a = some ⟨b, off, none⟩ ∧
    (w.cell? ⟨b, off + i * 6, none⟩ = some (.bool ss[i].neg) ∧ w.cell? ⟨b, off + i * 6 + 1, none⟩ = some (.int .i64 ss[i].kind) ∧ w.cell? ⟨b, off + i * 6 + 2, none⟩ = some (.int .i64 ss[i].min) ∧
    w.cell? ⟨b, off + i * 6 + 3, none⟩ = some (.int .i64 ss[i].max) ∧ w.cell? ⟨b, off + i * 6 + 4, none⟩ = some (.bool ss[i].strict) ∧ w.cell? ⟨b, off + i * 6 + 5, none⟩ = some (.slice ca ss[i].cmps.length cc)) ∧
    ss[i].cmps.length ≤ cc ∧ ss[i].cmps.length ≤ 9223372036854775807 ∧ (ca = none → cc = 0) ∧ CmpsAt w ca ss[i].cmps := by
  rcases h with rfl | ⟨b, off, rfl, hc⟩
  · simp at hi
  · obtain ⟨v, ⟨ca, cc, rfl, h1, h2, h3, h4⟩, g⟩ := hc i _ (List.getElem?_eq_getElem hi)
    exact ⟨b, off, ca, cc, rfl, ⟨g 0 _ rfl, g 1 _ rfl, g 2 _ rfl, g 3 _ rfl, g 4 _ rfl, g 5 _ rfl⟩, h1, h2, h3, h4⟩
end

theorem exists_list {α : Type} {R : Nat → α → Prop} : ∀ (n : Nat), (∀ i, i < n → ∃ x, R i x) → ∃ l : List α, l.length = n ∧ ∀ (i : Nat) (x : α), l[i]? = some x → R i x
  | 0, _ => ⟨[], rfl, fun i x h => by simp at h⟩
  | n + 1, h => by
    obtain ⟨l, hl, hr⟩ := exists_list n (fun i hi => h i (by omega))
    obtain ⟨x, hx⟩ := h n (by omega)
    refine ⟨l ++ [x], by simp [hl], fun i y hy => ?_⟩
    rcases Nat.lt_or_ge i n with hi | hi
    · exact hr i y (by rwa [List.getElem?_append_left (by omega)] at hy)
    · rw [List.getElem?_append_right (by omega)] at hy
      have hi' : i = n := by
        rcases Nat.lt_or_ge (i - l.length) 1 with h | h
        · omega
        · rw [List.getElem?_eq_none (by simpa using h)] at hy; cases hy
      subst hi'
      rw [hl, Nat.sub_self] at hy
      simp only [List.getElem?_cons_zero, Option.some.injEq] at hy
      subst hy; exact hx

section
variable {H : Type} {enc : TypeId × Value → H} {W : World} {base : Nat} {sp : Nat → Bool} {held : Bool} {fuel : Nat}
theorem cells1 : Tryd.prog.cellsOf 5 = 1 ∧ Tryd.prog.cellsOf 3 = 1 ∧ Tryd.prog.cellsOf 4 = 1 ∧ Tryd.prog.cellsOf 25 = 1 ∧ Tryd.prog.cellsOf 22 = 1 ∧ Tryd.prog.cellsOf 29 = 4 ∧ Tryd.prog.cellsOf 31 = 9 ∧ Tryd.prog.cellsOf 27 = 6 ∧ Tryd.prog.cellsOf 24 = 2 := by
  refine ⟨?_, ?_, ?_, ?_, ?_, ?_, ?_, ?_, ?_⟩ <;> kernel_rfl
theorem trod_u8 {c : Value} {y : Option (DataW H × List MemPlace)} (h : DataW.trod enc Tryd.prog W base sp held fuel 5 [c] = y) (hy : y.isSome = true) : ∃ n, c = .int .u8 n ∧ bnd8 n := by
  obtain ⟨y, rfl⟩ := Option.isSome_iff_exists.1 hy
  obtain ⟨n, e, _, w⟩ := DataW.trod_int Tryd.underlying5 h
  simp only [List.cons.injEq, and_true] at e
  exact ⟨n, e, bounds_u8 w⟩
theorem trod_i64 {c : Value} {y : Option (DataW H × List MemPlace)} (h : DataW.trod enc Tryd.prog W base sp held fuel 3 [c] = y) (hy : y.isSome = true) : ∃ n, c = .int .i64 n ∧ bnd n := by
  obtain ⟨y, rfl⟩ := Option.isSome_iff_exists.1 hy
  obtain ⟨n, e, _, w⟩ := DataW.trod_int Tryd.underlying3 h
  simp only [List.cons.injEq, and_true] at e
  exact ⟨n, e, bounds_i64 w⟩
theorem trod_b {c : Value} {y : Option (DataW H × List MemPlace)} (h : DataW.trod enc Tryd.prog W base sp held fuel 4 [c] = y) (hy : y.isSome = true) : ∃ n, c = .bool n := by
  obtain ⟨y, rfl⟩ := Option.isSome_iff_exists.1 hy
  obtain ⟨n, e, _⟩ := DataW.trod_bool Tryd.underlying4 h
  simp only [List.cons.injEq, and_true] at e
  exact ⟨n, e⟩
theorem some_at {α : Type} {l : List α} {n i : Nat} (h : l.length = n) (hi : i < n) : (l[i]?).isSome = true := by
  rw [List.getElem?_eq_getElem (by omega)]; rfl
set_option maxRecDepth 100000 in
theorem trod_tm {cs : List Value} {x : DataW H × List MemPlace} (h : DataW.trod enc Tryd.prog W base sp held fuel 29 cs = some x) : ∃ t : Tm, cs = tmV t ∧ tmWf t := by
  obtain ⟨ys, n, _, hx, hl, hlen, hf⟩ := DataW.trod_struct Tryd.underlying29 h
  obtain ⟨c1, c2, _, _, _, c4, _⟩ := cells1
  rw [c4] at hl
  match cs, hl with
  | [v0, v1, v2, v3], _ =>
    have h0 : DataW.trod enc Tryd.prog W base sp held n 5 ((([v0, v1, v2, v3] : List Value).drop 0).take (Tryd.prog.cellsOf 5)) = ys[0]? := hf 0 _ rfl
    have h1 : DataW.trod enc Tryd.prog W base sp held n 3 ((([v0, v1, v2, v3] : List Value).drop 1).take (Tryd.prog.cellsOf 3)) = ys[1]? := hf 1 _ rfl
    have h2 : DataW.trod enc Tryd.prog W base sp held n 3 ((([v0, v1, v2, v3] : List Value).drop 2).take (Tryd.prog.cellsOf 3)) = ys[2]? := hf 2 _ rfl
    have h3 : DataW.trod enc Tryd.prog W base sp held n 3 ((([v0, v1, v2, v3] : List Value).drop 3).take (Tryd.prog.cellsOf 3)) = ys[3]? := hf 3 _ rfl
    simp only [c1, c2, List.drop_zero, List.drop_succ_cons, List.take_succ_cons, List.take_zero] at h0 h1 h2 h3
    obtain ⟨a0, rfl, w0⟩ := trod_u8 h0 (some_at hlen (by decide))
    obtain ⟨a1, rfl, w1⟩ := trod_i64 h1 (some_at hlen (by decide))
    obtain ⟨a2, rfl, w2⟩ := trod_i64 h2 (some_at hlen (by decide))
    obtain ⟨a3, rfl, w3⟩ := trod_i64 h3 (some_at hlen (by decide))
    exact ⟨⟨a0, a1, a2, a3⟩, rfl, w0, w1, w2, w3⟩
set_option maxRecDepth 100000 in
theorem trod_cm {cs : List Value} {x : DataW H × List MemPlace} (h : DataW.trod enc Tryd.prog W base sp held fuel 31 cs = some x) : ∃ c : Cm, cs = cmV c ∧ cmWf c := by
  obtain ⟨ys, n, _, hx, hl, hlen, hf⟩ := DataW.trod_struct Tryd.underlying31 h
  obtain ⟨c1, c2, _, _, _, c4, c9, _⟩ := cells1
  rw [c9] at hl
  match cs, hl with
  | [v0, v1, v2, v3, v4, v5, v6, v7, v8], _ =>
    have h0 : DataW.trod enc Tryd.prog W base sp held n 5 ((([v0, v1, v2, v3, v4, v5, v6, v7, v8] : List Value).drop 0).take (Tryd.prog.cellsOf 5)) = ys[0]? := hf 0 _ rfl
    have h1 : DataW.trod enc Tryd.prog W base sp held n 29 ((([v0, v1, v2, v3, v4, v5, v6, v7, v8] : List Value).drop 1).take (Tryd.prog.cellsOf 29)) = ys[1]? := hf 1 _ rfl
    have h2 : DataW.trod enc Tryd.prog W base sp held n 29 ((([v0, v1, v2, v3, v4, v5, v6, v7, v8] : List Value).drop 5).take (Tryd.prog.cellsOf 29)) = ys[2]? := hf 2 _ rfl
    simp only [c1, c4, List.drop_zero, List.drop_succ_cons, List.take_succ_cons, List.take_zero] at h0 h1 h2
    obtain ⟨a0, rfl, w0⟩ := trod_u8 h0 (some_at hlen (by decide))
    obtain ⟨y1, e1⟩ := Option.isSome_iff_exists.1 (some_at (i := 1) hlen (by decide))
    obtain ⟨y2, e2⟩ := Option.isSome_iff_exists.1 (some_at (i := 2) hlen (by decide))
    obtain ⟨t, et, wt⟩ := trod_tm (h1.trans e1)
    obtain ⟨u, eu, wu⟩ := trod_tm (h2.trans e2)
    simp only [tmV, List.cons.injEq, and_true] at et eu
    obtain ⟨rfl, rfl, rfl, rfl⟩ := et
    obtain ⟨rfl, rfl, rfl, rfl⟩ := eu
    exact ⟨⟨a0, t, u⟩, rfl, w0, wt, wu⟩
theorem plain_addr {a : Addr} {v : Value} (h : W.cell? a = some v) : ∃ b off, a = ⟨b, off, none⟩ := by
  obtain ⟨b, off, spot⟩ := a
  have hs := World.cell?_spot h
  subst hs
  exact ⟨b, off, rfl⟩
theorem add_of_add (a : Addr) (i j : Nat) : (a.add i).add j = a.add (i + j) := by
  unfold Addr.add
  by_cases hi : i = 0 <;> by_cases hj : j = 0 <;> simp [hi, hj, Nat.add_assoc]

set_option maxRecDepth 100000 in
theorem trod_cmps {c0 : Value} {x : DataW H × List MemPlace} (h : DataW.trod enc Tryd.prog W base (fun _ => true) held fuel 25 [c0] = some x) :
    ∃ l, CmpsV W c0 l ∧ ∀ y ∈ l, cmWf y := by
  obtain ⟨_, _, _, _, _, _, c9, _⟩ := cells1
  rcases open_slice Tryd.underlying25 h with ⟨hcs, hx⟩ | ⟨a, len, cap, m, n, D, Pl, hcs, hb, hl, hm, hmm, hx, hi⟩
  · simp only [List.cons.injEq, and_true] at hcs
    exact ⟨[], ⟨none, 0, hcs, Nat.le_refl _, Nat.zero_le _, fun _ => rfl, .inl rfl⟩, fun y hy => by simp at hy⟩
  · simp only [List.cons.injEq, and_true] at hcs
    rw [if_pos rfl] at hmm
    subst hmm
    rw [c9] at hi
    unfold maxLen at hm
    obtain ⟨l, hll, hlr⟩ := exists_list (R := fun i (c : Cm) => cmWf c ∧ ∀ (j : Nat) (v : Value), (cmV c)[j]? = some v → W.cell? (a.add (i * 9 + j)) = some v) len (fun i hil => by
      obtain ⟨cs', hc, ht⟩ := hi i (by omega)
      obtain ⟨c, rfl, hw⟩ := trod_cm ht
      obtain ⟨_, hcl, hat⟩ := World.cells?_some hc
      refine ⟨c, hw, fun j v hj => ?_⟩
      have hj9 : j < 9 := by
        have := (List.getElem?_eq_some_iff.1 hj).1
        simpa [cmV] using this
      rw [← add_of_add, hat j hj9, hj])
    subst hll
    refine ⟨l, ⟨some a, m, hcs, hl, by omega, (fun h => nomatch h), ?_⟩, ?_⟩
    · rcases Nat.eq_zero_or_pos l.length with h0 | h0
      · exact .inl (List.eq_nil_of_length_eq_zero h0)
      · obtain ⟨b, off, rfl⟩ := plain_addr (a := a) (by simpa [Addr.add] using (hlr 0 _ (List.getElem?_eq_getElem (by omega))).2 0 _ rfl)
        refine .inr ⟨b, off, rfl, fun i c hic j v hj => ?_⟩
        have := (hlr i c hic).2 j v hj
        rw [Go.WideShapes.add_plain] at this
        rw [Nat.add_assoc]; exact this
    · intro y hy
      obtain ⟨i, hi', rfl⟩ := List.getElem_of_mem hy
      exact (hlr i _ (List.getElem?_eq_getElem hi')).1
set_option maxRecDepth 100000 in
theorem trod_st {cs : List Value} {x : DataW H × List MemPlace} (h : DataW.trod enc Tryd.prog W base (fun _ => true) held fuel 27 cs = some x) : ∃ (s : St) (v : Value), cs = stV s v ∧ stWf s ∧ CmpsV W v s.cmps := by
  obtain ⟨ys, n, _, hx, hl, hlen, hf⟩ := DataW.trod_struct Tryd.underlying27 h
  obtain ⟨_, c2, c3, c4, _, _, _, c6, _⟩ := cells1
  rw [c6] at hl
  match cs, hl with
  | [v0, v1, v2, v3, v4, v5], _ =>
    have h0 : DataW.trod enc Tryd.prog W base (fun _ => true) held n 4 ((([v0, v1, v2, v3, v4, v5] : List Value).drop 0).take (Tryd.prog.cellsOf 4)) = ys[0]? := hf 0 _ rfl
    have h1 : DataW.trod enc Tryd.prog W base (fun _ => true) held n 3 ((([v0, v1, v2, v3, v4, v5] : List Value).drop 1).take (Tryd.prog.cellsOf 3)) = ys[1]? := hf 1 _ rfl
    have h2 : DataW.trod enc Tryd.prog W base (fun _ => true) held n 3 ((([v0, v1, v2, v3, v4, v5] : List Value).drop 2).take (Tryd.prog.cellsOf 3)) = ys[2]? := hf 2 _ rfl
    have h3 : DataW.trod enc Tryd.prog W base (fun _ => true) held n 3 ((([v0, v1, v2, v3, v4, v5] : List Value).drop 3).take (Tryd.prog.cellsOf 3)) = ys[3]? := hf 3 _ rfl
    have h4 : DataW.trod enc Tryd.prog W base (fun _ => true) held n 4 ((([v0, v1, v2, v3, v4, v5] : List Value).drop 4).take (Tryd.prog.cellsOf 4)) = ys[4]? := hf 4 _ rfl
    have h5 : DataW.trod enc Tryd.prog W base (fun _ => true) held n 25 ((([v0, v1, v2, v3, v4, v5] : List Value).drop 5).take (Tryd.prog.cellsOf 25)) = ys[5]? := hf 5 _ rfl
    simp only [c2, c3, c4, List.drop_zero, List.drop_succ_cons, List.take_succ_cons, List.take_zero] at h0 h1 h2 h3 h4 h5
    obtain ⟨a0, rfl⟩ := trod_b h0 (some_at hlen (by decide))
    obtain ⟨a1, rfl, w1⟩ := trod_i64 h1 (some_at hlen (by decide))
    obtain ⟨a2, rfl, w2⟩ := trod_i64 h2 (some_at hlen (by decide))
    obtain ⟨a3, rfl, w3⟩ := trod_i64 h3 (some_at hlen (by decide))
    obtain ⟨a4, rfl⟩ := trod_b h4 (some_at hlen (by decide))
    obtain ⟨y5, e5⟩ := Option.isSome_iff_exists.1 (some_at (i := 5) hlen (by decide))
    obtain ⟨l, hl, hw⟩ := trod_cmps (h5.trans e5)
    exact ⟨⟨a0, a1, a2, a3, a4, l⟩, v5, rfl, ⟨w1, w2, w3, hw⟩, hl⟩
set_option maxRecDepth 100000 in
theorem trod_steps {c0 : Value} {x : DataW H × List MemPlace} (h : DataW.trod enc Tryd.prog W base (fun _ => true) held fuel 22 [c0] = some x) :
    ∃ l, StepsV W c0 l ∧ ∀ y ∈ l, stWf y := by
  obtain ⟨_, _, _, _, _, _, _, c6, _⟩ := cells1
  rcases open_slice Tryd.underlying22 h with ⟨hcs, hx⟩ | ⟨a, len, cap, m, n, D, Pl, hcs, hb, hl, hm, hmm, hx, hi⟩
  · simp only [List.cons.injEq, and_true] at hcs
    exact ⟨[], ⟨none, 0, hcs, Nat.le_refl _, Nat.zero_le _, fun _ => rfl, .inl rfl⟩, fun y hy => by simp at hy⟩
  · simp only [List.cons.injEq, and_true] at hcs
    rw [if_pos rfl] at hmm
    subst hmm
    rw [c6] at hi
    unfold maxLen at hm
    obtain ⟨l, hll, hlr⟩ := exists_list (R := fun i (s : St) => stWf s ∧ ∃ v, CmpsV W v s.cmps ∧ ∀ (j : Nat) (u : Value), (stV s v)[j]? = some u → W.cell? (a.add (i * 6 + j)) = some u) len (fun i hil => by
      obtain ⟨cs', hc, ht⟩ := hi i (by omega)
      obtain ⟨s, v, rfl, hw, hv⟩ := trod_st ht
      obtain ⟨_, hcl, hat⟩ := World.cells?_some hc
      refine ⟨s, hw, v, hv, fun j u hj => ?_⟩
      have hj9 : j < 6 := by
        have := (List.getElem?_eq_some_iff.1 hj).1
        simpa [stV] using this
      rw [← add_of_add, hat j hj9, hj])
    subst hll
    refine ⟨l, ⟨some a, m, hcs, hl, by omega, (fun h => nomatch h), ?_⟩, ?_⟩
    · rcases Nat.eq_zero_or_pos l.length with h0 | h0
      · exact .inl (List.eq_nil_of_length_eq_zero h0)
      · obtain ⟨_, v0, _, hz⟩ := hlr 0 _ (List.getElem?_eq_getElem (show 0 < l.length by omega))
        obtain ⟨b, off, rfl⟩ := plain_addr (a := a) (by simpa [Addr.add] using hz 0 _ rfl)
        refine .inr ⟨b, off, rfl, fun i s his => ?_⟩
        obtain ⟨_, v, hv, g⟩ := hlr i s his
        refine ⟨v, hv, fun j u hj => ?_⟩
        have := g j u hj
        rw [Go.WideShapes.add_plain] at this
        rw [Nat.add_assoc]; exact this
    · intro y hy
      obtain ⟨i, hi', rfl⟩ := List.getElem_of_mem hy
      exact (hlr i _ (List.getElem?_eq_getElem hi')).1

/-- arguments -/
theorem agg_list {cs : Array Value} {l : List Value} (h : cs.toList = l) : cs = l.toArray := by cases cs; subst h; rfl
set_option maxRecDepth 100000 in
theorem open_pat {v : Value} {d : DataW H} {p : List MemPlace} (hv : Value.okWide Tryd.prog W .any base 24 v) (h : DataW.Trod enc Tryd.prog W 0 (fun _ => true) true 24 v d p) :
    ∃ (u : Value) (q : Pt), v = .agg #[u, .int .i64 q.window] ∧ StepsV W u q.steps ∧ bnd q.window ∧ ∀ s ∈ q.steps, stWf s := by
  obtain ⟨cs, rfl, hsz⟩ := okWide_struct Tryd.underlying24 hv
  obtain ⟨fuel, hf⟩ := h
  obtain ⟨ys, n, _, hx, hl, hlen, hf⟩ := DataW.trod_struct Tryd.underlying24 hf
  obtain ⟨_, c2, _, _, c5, _, _, _, c9⟩ := cells1
  rw [c9] at hl
  obtain ⟨cs⟩ := cs
  simp only [Value.cells] at hl hf
  match cs, hl with
  | [v0, v1], _ =>
    have h0 : DataW.trod enc Tryd.prog W 0 (fun _ => true) true n 22 ((([v0, v1] : List Value).drop 0).take (Tryd.prog.cellsOf 22)) = ys[0]? := hf 0 _ rfl
    have h1 : DataW.trod enc Tryd.prog W 0 (fun _ => true) true n 3 ((([v0, v1] : List Value).drop 1).take (Tryd.prog.cellsOf 3)) = ys[1]? := hf 1 _ rfl
    simp only [c2, c5, List.drop_zero, List.drop_succ_cons, List.take_succ_cons, List.take_zero] at h0 h1
    obtain ⟨y0, e0⟩ := Option.isSome_iff_exists.1 (some_at (i := 0) hlen (by decide))
    obtain ⟨l, hl, hw⟩ := trod_steps (h0.trans e0)
    obtain ⟨a1, rfl, w1⟩ := trod_i64 h1 (some_at hlen (by decide))
    exact ⟨v0, ⟨l, a1⟩, rfl, hl, w1, hw⟩
set_option maxRecDepth 100000 in
theorem open_tm {v : Value} {d : DataW H} {p : List MemPlace} (hv : Value.okWide Tryd.prog W .any base 29 v) (h : DataW.Trod enc Tryd.prog W 0 (fun _ => true) true 29 v d p) :
    ∃ t : Tm, v = .agg (tmV t).toArray ∧ tmWf t := by
  obtain ⟨cs, rfl, hsz⟩ := okWide_struct Tryd.underlying29 hv
  obtain ⟨fuel, hf⟩ := h
  obtain ⟨t, e, hw⟩ := trod_tm hf
  exact ⟨t, congrArg Value.agg (agg_list e), hw⟩
set_option maxRecDepth 100000 in
theorem open_cm {v : Value} {d : DataW H} {p : List MemPlace} (hv : Value.okWide Tryd.prog W .any base 31 v) (h : DataW.Trod enc Tryd.prog W 0 (fun _ => true) true 31 v d p) :
    ∃ c : Cm, v = .agg (cmV c).toArray ∧ cmWf c := by
  obtain ⟨cs, rfl, hsz⟩ := okWide_struct Tryd.underlying31 hv
  obtain ⟨fuel, hf⟩ := h
  obtain ⟨t, e, hw⟩ := trod_cm hf
  exact ⟨t, congrArg Value.agg (agg_list e), hw⟩
set_option maxRecDepth 100000 in
theorem open_st {v : Value} {d : DataW H} {p : List MemPlace} (hv : Value.okWide Tryd.prog W .any base 27 v) (h : DataW.Trod enc Tryd.prog W 0 (fun _ => true) true 27 v d p) :
    ∃ (s : St) (u : Value), v = .agg (stV s u).toArray ∧ stWf s ∧ CmpsV W u s.cmps := by
  obtain ⟨cs, rfl, hsz⟩ := okWide_struct Tryd.underlying27 hv
  obtain ⟨fuel, hf⟩ := h
  obtain ⟨s, u, e, hw, hc⟩ := trod_st hf
  exact ⟨s, u, congrArg Value.agg (agg_list e), hw, hc⟩
end
end Go.Proofs.YtafgincpoahefaaDoor

namespace Go.Proofs.YtafgincpoahefaaDoor
open Go.ChangeShapes Go.WideShapes Go.ChangeAt Go.RowKit

set_option maxRecDepth 100000 in
theorem open_tok {H : Type} {enc : TypeId × Value → H} {W : World} {base : Nat} {v : Value} {d : DataW H} {p : List MemPlace}
    (hv : Value.okWide Tryd.prog W .any base 51 v) (h : DataW.Trod enc Tryd.prog W 0 (fun _ => true) true 51 v d p) :
    ∃ k n x : Int, v = .agg #[.int .u8 k, .int .i64 n, .int .i64 x] ∧ (Lit.int .u8 k).wf = true ∧ (Lit.int .i64 n).wf = true ∧ (Lit.int .i64 x).wf = true := by
  obtain ⟨v0, v1, v2, y0, y1, y2, m, rfl, _, _, h0, h1, h2⟩ := Joins.open_agg3 Tryd.underlying51 (by kernel_rfl) (by kernel_rfl) hv h
  obtain ⟨k, e0, _, w0⟩ := DataW.trod_int Tryd.underlying5 h0
  obtain ⟨n, e1, _, w1⟩ := DataW.trod_int Tryd.underlying3 h1
  obtain ⟨x, e2, _, w2⟩ := DataW.trod_int Tryd.underlying3 h2
  simp only [List.cons.injEq, and_true] at e0 e1 e2
  subst e0 e1 e2
  exact ⟨k, n, x, rfl, w0, w1, w2⟩
end Go.Proofs.YtafgincpoahefaaDoor
