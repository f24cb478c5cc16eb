/-
  print: joined; what a strings.Builder's calls leave.
  print: joined.
-/
import Derived.Test.YtafgincpoahefaaDoorPr2
import Derived.Test.YtafgincpoahefaaDoorLex5
namespace Go.Proofs.YtafgincpoahefaaDoor
open Go.RowKit
attribute [local go_sem] Oper.semAt_some

def renB : Go.Shelf.Ren := ⟨fun | 167 => 60 | n => Tryd.lays156_ren.f n, Tryd.lays156_ren.t, Tryd.lays156_ren.g⟩
theorem laysB : Go.Proofs.Lays.n167 Tryd.prog renB := {
  mixed := by kernel_rfl
  f167 := Tryd.func60.trans (congrArg some (by kernel_rfl))
  f240 := Tryd.func100.trans (congrArg some (by kernel_rfl))
  f276 := Tryd.lays156.f276.trans (congrArg some (by kernel_rfl))
  t0 := Tryd.lays156.t0
  a0 := Tryd.lays156.a0
  z0 := Tryd.lays156.z0
  v0 := Tryd.lays156.v0
  t4 := Tryd.lays156.t4
  a4 := Tryd.lays156.a4
  z4 := Tryd.lays156.z4
  v4 := Tryd.lays156.v4
  t5 := Tryd.Builder_Extra_156.t5
  a5 := Tryd.Builder_Extra_156.a5
  z5 := Tryd.Builder_Extra_156.z5
  v5 := Tryd.Builder_Extra_156.v5
  t9 := Tryd.lays156.t9
  a9 := Tryd.lays156.a9
  z9 := Tryd.lays156.z9
  v9 := Tryd.lays156.v9
  t20 := Tryd.lays156.t20
  a20 := Tryd.lays156.a20
  z20 := Tryd.lays156.z20
  v20 := Tryd.lays156.v20
  t37 := Tryd.lays156.t37
  a37 := Tryd.lays156.a37
  z37 := Tryd.lays156.z37
  v37 := Tryd.lays156.v37
  t70 := Tryd.lays156.t70
  a70 := Tryd.lays156.a70
  z70 := Tryd.lays156.z70
  v70 := Tryd.lays156.v70
  t72 := Tryd.lays156.t72
  a72 := Tryd.lays156.a72
  z72 := Tryd.lays156.z72
  v72 := Tryd.lays156.v72
  t75 := Tryd.lays156.t75
  a75 := Tryd.lays156.a75
  z75 := Tryd.lays156.z75
  v75 := Tryd.lays156.v75
  t164 := Tryd.lays156.t164
  a164 := Tryd.lays156.a164
  z164 := Tryd.lays156.z164
  v164 := Tryd.lays156.v164 }
theorem extraB : Go.Proofs.Builder.Extra Tryd.prog renB := {
  sizeBuilder := by kernel_rfl
  liesBuilder := by kernel_rfl
  t5 := Tryd.Builder_Extra_156.t5
  a5 := Tryd.Builder_Extra_156.a5
  z5 := Tryd.Builder_Extra_156.z5
  v5 := Tryd.Builder_Extra_156.v5
  infoByte := by kernel_rfl
  cellsByte := by kernel_rfl
  sizeByte := by kernel_rfl
  neB5 := by decide }

/-- a builder in block b, of the call's own from B on, that holds these bytes -/
def Bld (B b : Nat) (l : List UInt8) (w : World) : Prop := Lib.IsBuilderF 77 5 B b (Lib.byteCells l) w
theorem byteCells_app (l r : List UInt8) : Lib.byteCells (l ++ r) = Lib.byteCells l ++ Lib.byteCells r := by simp [Lib.byteCells]
theorem byteCells_len (l : List UInt8) : (Lib.byteCells l).length = l.length := by simp [Lib.byteCells]
theorem b_WriteString (B b : Nat) (l r : List UInt8) (w : World) (h : Bld B b l w) (hl : l.length + r.length ≤ 100000) (hB : B ≤ w.heap.size) :
    Calls Tryd.prog 61 #[.pointer (some ⟨b, 0, none⟩), sV r] w fun e w' => e = .returned (.tuple #[.int .i64 r.length, .nilIface]) ∧ Bld B b (l ++ r) w' ∧ Below B w w' ∧ Lib.OthersKept 5 (some b) w w' := by
  have := Any.Builder_WriteString_k { Tryd.lays156 with } Tryd.Builder_Extra_156 B b (Lib.byteCells l) ⟨r.toArray⟩ w h (by rw [byteCells_len]; simp [ByteArray.size]; omega) hB
  refine Calls.mono this ?_
  rintro e w' ⟨rfl, h1, h2, h3⟩
  refine ⟨?_, ?_, h2, h3⟩
  · simp [ByteArray.size]
  · unfold Bld
    rw [byteCells_app]
    exact .inr h1
theorem b_WriteByte (B b : Nat) (l : List UInt8) (c : UInt8) (w : World) (h : Bld B b l w) (hl : l.length + 1 ≤ 100000) (hB : B ≤ w.heap.size) :
    Calls Tryd.prog 60 #[.pointer (some ⟨b, 0, none⟩), .int .u8 (c.toNat : Int)] w fun e w' => e = .returned .nilIface ∧ Bld B b (l ++ [c]) w' ∧ Below B w w' ∧ Lib.OthersKept 5 (some b) w w' := by
  have := Any.Builder_WriteByte_k laysB extraB B b (Lib.byteCells l) (c.toNat : Int) w h (by rw [byteCells_len]; omega) hB
  refine Calls.mono this ?_
  rintro e w' ⟨rfl, h1, h2, h3⟩
  refine ⟨rfl, ?_, h2, h3⟩
  unfold Bld
  rw [byteCells_app]
  exact .inr h1
theorem b_String (B b : Nat) (l : List UInt8) (w : World) (h : Bld B b l w) (hB : B ≤ w.heap.size) :
    Calls Tryd.prog 63 #[.pointer (some ⟨b, 0, none⟩)] w fun e w' => e = .returned (sV l) ∧ Bld B b l w' ∧ Below B w w' ∧ Lib.OthersKept 5 (some b) w w' :=
  Tryd.Builder_String_any_k B b l w h hB
theorem Bld.fresh {w : World} {B : Nat} (hB : B ≤ w.heap.size) : Bld B w.heap.size [] (w.alloc (.cells #[.pointer none, .slice none 0 0] 77)) :=
  .inl ⟨hB, _, World.alloc_heap_new w _, World.ownsRowF_nil _ _ _ _, by simp [Value.ownBlock]⟩
theorem Bld.kept {B b : Nat} {l : List UInt8} {w w' : World} {row : Option Nat} (h : Bld B b l w) (hg : w.grownBy w' row) (hr : ∀ r, row = some r → ∃ o : Obj, w.heap[r]? = some o ∧ o.isCells = false) : Bld B b l w' := by
  have key : ∀ p, Lib.BuilderAtF 77 5 B b p (Lib.byteCells l) w → Lib.BuilderAtF 77 5 B b p (Lib.byteCells l) w' := by
    rintro p ⟨h1, v, h2, h3, h4⟩
    refine ⟨h1, v, ?_, ?_, h4⟩
    · refine (hg.block b (Array.getElem?_eq_some_iff.1 h2).1 fun e => ?_).trans h2
      obtain ⟨o, ho, hc⟩ := hr b e.symm
      rw [h2] at ho; cases ho; cases hc
    · refine h3.kept hg ?_
      cases hv : v.ownBlock with
      | none => exact .inl rfl
      | some g =>
        refine .inr fun e => ?_
        obtain ⟨o, ho, hc⟩ := hr g e.symm
        rcases h3.2 with ⟨rfl, _⟩ | ⟨g', cap, cur, fz, rfl, _, hgb, _⟩
        · simp [Value.ownBlock] at hv
        · obtain rfl : g' = g := by simpa [Value.ownBlock] using hv
          rw [hgb] at ho; cases ho; cases hc
  exact h.elim (fun x => .inl (key _ x)) (fun x => .inr (key _ x))
theorem Bld.later {B b : Nat} {l : List UInt8} {w w' : World} (h : Bld B b l w) (hb : Below w.heap.size w w') : Bld B b l w' := h.kept (grown_of_below hb) (fun r e => by cases e)
theorem Stable.bld (n B b : Nat) (l : List UInt8) : Stable n (fun W => Bld B b l W) := fun _ _ _ hs hg hr => hs.kept hg fun r e => (hr r e).2
theorem keeps_of_kept {b : Nat} {l : List UInt8} {B : Nat} {W W' : World} (hbb : Bld B b l W) (h : Lib.OthersKept 5 (some b) W W') (hs : W.heap.size ≤ W'.heap.size) : KeepsOthers W W' := by
  refine ⟨hs, fun k o hk ho => h k o hk (fun e => ?_) (fun c fz e => by subst e; cases ho)⟩
  obtain rfl := Option.some.inj e
  rcases hbb with ⟨_, v, h2, _⟩ | ⟨_, v, h2, _⟩ <;> (rw [h2] at hk; cases hk; cases ho)
theorem mem_of_kept {T : TypeId} {b : Nat} {l : List UInt8} {B : Nat} {W W' : World} (hbb : Bld B b l W) (h : Lib.OthersKept 5 (some b) W W') (h1 : T ≠ 5) (h2 : T ≠ 77) : Mem T W W' := by
  intro k cs hk
  have hk' : W.heap[k]? = some (.cells cs T (0, 0)) := hk
  refine h k _ hk' (fun e => ?_) (fun c fz e => by cases e; exact h1 rfl)
  obtain rfl := Option.some.inj e
  rcases hbb with ⟨_, v, h3, _⟩ | ⟨_, v, h3, _⟩ <;> (rw [h3] at hk'; cases hk'; exact h2 rfl)
end Go.Proofs.YtafgincpoahefaaDoor

namespace Go.Proofs.YtafgincpoahefaaDoor
open Go.RowKit
attribute [local go_sem] Oper.semAt_some

def atL (L : List (List UInt8)) (i : Nat) : List UInt8 := L.getD i []
theorem flat_take (L : List (List UInt8)) (i : Nat) (h : i < L.length) : (L.take (i + 1)).flatten = (L.take i).flatten ++ atL L i := by
  rw [List.take_succ_eq_append_getElem h, List.flatten_append]
  simp [atL, List.getD_eq_getElem?_getD, h]
theorem flat_len (L : List (List UInt8)) (i : Nat) : (L.take i).flatten.length ≤ L.flatten.length := by
  conv => rhs; rw [← List.take_append_drop i L, List.flatten_append, List.length_append]
  omega
set_option maxRecDepth 100000 in
set_option maxHeartbeats 1000000 in
theorem print_joined (gf : Nat) (lb : Array Value) (eg : ∀ args w, (callFunc gf args).run Tryd.prog w = .ok (.enter gf args) w) (L : List (List UInt8)) (Fp : World → Prop) (hit : IterT Tryd.prog gf lb (fun i => #[sV (atL L i)]) L.length Fp 3)
    (hL : L.flatten.length ≤ 100000) (w : World) (hFp : ∀ W, Below w.heap.size w W → Fp W) : Calls Tryd.prog 66 #[.func (.func gf) #[] lb] w fun e w' => e = .returned (sV L.flatten) ∧ Below w.heap.size w w' := by
  refine calls_marks Tryd.func66 rfl ?_
  simp only [Tryd.ntmps66, List.size_toArray, List.length_cons, List.length_nil, Nat.reduceAdd, Nat.reduceSub, Array.replicate_succ, Array.replicate_zero, List.push_toArray, List.append_toArray, List.nil_append, List.cons_append]
  have hft := flat_take L
  have hfl := flat_len L
  have HT := Lib.hid hft; clear hft
  have HL := Lib.hid hfl; clear hfl
  have HI := Lib.hid hit; clear hit
  have HF := Lib.hid hFp; clear hFp
  go_wp2_with fail
  refine wp_range_t rfl eg HI.out (fun _ => rfl)
    (fun i W => Bld w.heap.size w.heap.size (L.take i).flatten W ∧ Below w.heap.size w W)
    (fun i => (Stable.bld _ _ _ _).and (Stable.below (by simp) (Nat.le_refl _))) (fun i W h => HF.out W h.2) ?_
    (fun i => { tmps := #[.func (.func gf) #[] lb, undef, .string ⟨#[]⟩, .pointer (some ⟨w.heap.size, 0, none⟩), sV (atL L i), .func (.func gf) #[] lb, sV (atL L i), undef, undef, undef], defers := [] }) ?_ ?_ ?_
  · exact ⟨by simpa using Bld.fresh (Nat.le_refl w.heap.size), (Below.refl _ _).alloc (Nat.le_refl _) _⟩
  · intro l i W K hi hK
    gi_wp2
    exact hK
  · rintro l i W hl hiN ⟨hb, hB⟩
    have hlen := HL.out (i + 1)
    rw [HT.out i hiN, List.length_append] at hlen
    have cw := (callsIn_wide (n := 0)).2 (b_WriteString w.heap.size w.heap.size (L.take i).flatten (atL L i) W hb (by omega) hB.size)
    rw [← HT.out i hiN] at cw
    have CW := Lib.hid cw; clear cw
    gi_wp2
    refine ⟨trivial, rfl, CW.out.mono ?_⟩
    rintro e w1 ⟨rfl, h1, h2, h3⟩
    gi_wp2
    exact ⟨(keeps_of_kept hb h3 h2.size).from _, ⟨h1, hB.trans h2⟩, mem_of_kept hb h3 (by decide) (by decide)⟩
  · rintro D W hD ⟨hb, hB⟩ hK
    rw [List.take_length] at hb
    have cs := b_String w.heap.size w.heap.size L.flatten W hb hB.size
    have CS := Lib.hid cs; clear cs
    go_wp2_with fail
    refine CS.out.mono ?_
    rintro e w1 ⟨rfl, h1, h2, h3⟩
    have hK2 := (keeps_of_kept hb h3 h2.size).same D _ hK rfl
    go_wp2_with fail
    exact ret_mark (v := sV L.flatten) hK2 (by simp [results, Tryd.results66, go_sem]) ⟨rfl, putObj_below (hB.trans h2) hK2 (by simp at hD; omega)⟩
end Go.Proofs.YtafgincpoahefaaDoor
