/-
  lex: tokens, the iterator.
  lex: All.
  Slices of tokens in memory; straggleref07.Tokens.
  A range over a function that is never left early, and whose iterator keeps memory of its own: blocks of one type of cells stay as they are in each round.
-/
import Derived.Test.YtafgincpoahefaaDoorLex3
import Derived.Test.YtafgincpoahefaaDoorGround
import Derived.Test.YtafgincpoahefaaDoorHeld
import Derived.RegionIn
import Derived.BigRegionIn
import Derived.BigQuiet
import Derived.Deep.QuietTactic
namespace Go.Proofs.YtafgincpoahefaaDoor
open Go.RowKit
attribute [local go_sem] Oper.semAt_some

theorem grown_of_below {W W' : World} (hb : Below W.heap.size W W') : W.grownBy W' none := ⟨hb.os, hb.tape, hb.output, hb.size, fun k hk _ => hb.block k hk⟩
theorem Stable.later {B : Nat} {I : World → Prop} (h : Stable B I) {W W' : World} (hs : I W) (hb : Below W.heap.size W W') : I W' := h W W' none hs (grown_of_below hb) (fun r e => by cases e)

/-- wpIn_scope_jumps, what stands behind the label walked once -/
theorem wpIn_scope_back {F : Fence} {n : Nat} {P : Program} {Q : Exit → Act → World → Prop} {a : Act} {w : World} {c rest : Code} (l : Nat) (J : Act → World → Prop) (μ : Act → World → Nat) (hf : findLabel c l = some (Code.skip.seq rest))
    (pass : ∀ a w, J a w → rest.wpIn F n P (Exit.jump l (fun a' w' => J a' w' ∧ μ a' w' < μ a w) Q) a w)
    (first : (∀ a w, J a w → rest.wpIn F n P (Exit.jump l J Q) a w) → c.wpIn F n P (Exit.jump l J Q) a w) : (Code.scope c).wpIn F n P Q a w := by
  refine wpIn_scope_jumps l J μ hf (first fun a w h => wpIn_mono (pass a w h) fun e a' w' he => ?_) fun a w h => wpIn_seq (wpIn_skip (pass a w h))
  cases e <;> first | exact he | exact ⟨he.1, he.2.1⟩

theorem jump_ret {l : Nat} {J : Act → World → Prop} {Q : Exit → Act → World → Prop} {a : Act} {w : World} (h : Q .ret a w) : Exit.jump l J Q .ret a w := h

def tokV (t : Tok) : Value := .agg #[.int .u8 t.kind, .int .i64 t.n, .int .i64 t.at']
def tokEnc (ys : List Y) (i : Nat) : Array Value := #[tokV (ys.getD i ⟨⟨0, 0, 0⟩, 0⟩).t, .int .i64 (ys.getD i ⟨⟨0, 0, 0⟩, 0⟩).m]

/-- where the round begins: so many told, the rest from place at_ on -/
def TkAt (s : ByteArray) (l B : Nat) (J : Nat → World → Prop) (at_ : Nat) (a : Act) (w : World) : Prop :=
  ∃ i : Nat, i ≤ (yields 0 s.data.toList).length ∧ at_ ≤ s.size ∧ (yields 0 s.data.toList).drop i = yields at_ (s.data.toList.drop at_) ∧ J i w ∧
    ∃ u4 u5 u6 u7 u8 u9 u10 u11 u12 u13 u14 u15 u16 u17 u18 u19 u20 u21 u22 u23 u24 u25 u26 u27 u28 u29 u30 u31 u32 u33 u34 u35 u36 : Value, a = { tmps := #[.func (.yield l) #[] #[], .pointer (some ⟨B, 0, none⟩), undef, .int .i64 at_, u4, u5, u6, u7, u8, u9, u10, u11, u12, u13, u14, u15, u16, u17, u18, u19, u20, u21, u22, u23, u24, u25, u26, u27, u28, u29, u30, u31, u32, u33, u34, u35, u36], defers := [] }

theorem lead_blank_from (s : ByteArray) (k : Nat) (w : World) : CallsIn Fence.wide 0 Tryd.prog 119 #[.string (s.extract k s.size), .func (.func 120) #[] #[]] w fun e w' => e = .returned (.int .i64 (lead blB (s.data.toList.drop k))) ∧ Below w.heap.size w w' := by
  have h : (s.extract k s.size).data.toList = s.data.toList.drop k := by
    rw [Lib.extract_data, List.take_of_length_le (by simp)]
  have := lead_blank (s.extract k s.size) w
  rw [h] at this
  exact callsIn_wide.2 this
theorem token_from (s : ByteArray) (hs : s.size ≤ 140737488351232) (k : Nat) (hk : k < s.size) (w : World) (hG : GL w) : CallsIn Fence.wide 0 Tryd.prog 121 #[.string (s.extract k s.size)] w fun e w' =>
    e = .returned (.tuple #[.agg #[.int .u8 (tokOf (s.data.toList.drop k)).1, .int .i64 (tokOf (s.data.toList.drop k)).2.1, .int .i64 0], .int .i64 (tokOf (s.data.toList.drop k)).2.2]) ∧ Below w.heap.size w w' := by
  have h : (s.extract k s.size).data.toList = s.data.toList.drop k := by
    rw [Lib.extract_data, List.take_of_length_le (by simp)]
  have := lex_token (s.extract k s.size) (by simp; omega) (by simp; omega) w hG
  unfold TokPost at this
  rw [h] at this
  exact callsIn_wide.2 this

set_option maxRecDepth 100000 in
set_option maxHeartbeats 1000000 in
theorem tokens_iter (s : ByteArray) (hs : s.size ≤ 140737488351232) (B : Nat) : Iter Tryd.prog 118 #[.pointer (some ⟨B, 0, none⟩)] (tokEnc (yields 0 s.data.toList)) (yields 0 s.data.toList).length
    (fun W => W.cell? ⟨B, 0, none⟩ = some (.string s) ∧ GL W) := by
  intro l J Jx W hJ hJx hF hY h0
  refine callsIn_of_wp Tryd.func118 rfl trivial ?_ rfl
  simp only [Tryd.ntmps118, List.size_toArray, List.length_cons, List.length_nil, Nat.reduceAdd, Nat.reduceSub, Array.replicate_succ, Array.replicate_zero, List.push_toArray, List.append_toArray, List.nil_append, List.cons_append]
  gi_wp2
  refine wpIn_scope_back 0 (fun a w => ∃ at_, TkAt s l B J at_ a w) (fun a _ => s.size - (intOf (a.tmps.getD 3 undef)).toNat) rfl ?_ ?_
  · rintro a w ⟨at_, i, hi, hat, hys, hj, u4, u5, u6, u7, u8, u9, u10, u11, u12, u13, u14, u15, u16, u17, u18, u19, u20, u21, u22, u23, u24, u25, u26, u27, u28, u29, u30, u31, u32, u33, u34, u35, u36, rfl⟩
    obtain ⟨hc, hG⟩ := hF i w hj
    have c1 := lead_blank_from s at_
    have hlen : (s.data.toList.drop at_).length = s.size - at_ := by simp
    have hle := lead_le blB (s.data.toList.drop at_)
    have hks : at_ + lead blB (s.data.toList.drop at_) ≤ s.size := by omega
    have hdrop : (s.data.toList.drop at_).drop (lead blB (s.data.toList.drop at_)) = s.data.toList.drop (at_ + lead blB (s.data.toList.drop at_)) := by rw [List.drop_drop]
    by_cases he : (s.data.toList.drop at_).drop (lead blB (s.data.toList.drop at_)) = []
    · rw [yields_end _ _ he] at hys
      have hk := (drop_lead_nil blB _).1 he
      have hN : (yields 0 s.data.toList).length = i := by
        have := List.drop_eq_nil_iff.1 hys; omega
      have hz : at_ + lead blB (s.data.toList.drop at_) = s.size := by omega
      generalize lead blB (s.data.toList.drop at_) = k at *
      have C1 := Lib.hid c1; clear c1
      have HZ : ((at_ : Int) + (k : Int) == (s.size : Int)) = true := by simp only [beq_iff_eq]; omega
      have HY := Lib.hid hY; clear hY
      have HF := Lib.hid hF; clear hF
      have HS := Lib.hid hys; clear hys
      have HN := Lib.hid hN; clear hN
      clear hlen he hk hz hdrop hle
      gi_wp2
      refine ⟨trivial, rfl, (C1.out _).mono ?_⟩
      rintro e w1 ⟨rfl, hb1⟩
      have hj1 := (hJ i).later hj hb1
      obtain ⟨hc1, hG1⟩ := HF.out i w1 hj1
      gi_wp2
      refine jump_ret (bodyPost_ret (results_none rfl _ _ _) rfl ?_)
      exact ⟨⟨_, rfl⟩, .inl (by rw [HN.out]; exact hj1)⟩
    · have hk1 : lead blB (s.data.toList.drop at_) ≠ (s.data.toList.drop at_).length := fun e => he ((drop_lead_nil blB _).2 e)
      have hlt : at_ + lead blB (s.data.toList.drop at_) < s.size := by omega
      have c2 := fun w => token_from s hs (at_ + lead blB (s.data.toList.drop at_)) hlt w
      rw [← hdrop] at c2
      have htl := tokOf_le ((s.data.toList.drop at_).drop (lead blB (s.data.toList.drop at_)))
      have hpl : ((s.data.toList.drop at_).drop (lead blB (s.data.toList.drop at_))).length = s.size - (at_ + lead blB (s.data.toList.drop at_)) := by rw [hdrop]; simp
      have hHZ : ((at_ : Int) + (lead blB (s.data.toList.drop at_) : Int) == (s.size : Int)) = false := by simp only [beq_eq_false_iff_ne]; omega
      by_cases h0 : (tokOf ((s.data.toList.drop at_).drop (lead blB (s.data.toList.drop at_)))).2.2 = 0
      · rw [yields_none _ _ he h0] at hys
        rw [h0] at c2
        have hiN : i < (yields 0 s.data.toList).length ∧ (yields 0 s.data.toList).length = i + 1 := by
          have := congrArg List.length hys
          simp only [List.length_drop, List.length_cons, List.length_nil] at this
          omega
        have henc : tokEnc (yields 0 s.data.toList) i = #[.agg #[.int .u8 (tokOf ((s.data.toList.drop at_).drop (lead blB (s.data.toList.drop at_)))).1, .int .i64 (tokOf ((s.data.toList.drop at_).drop (lead blB (s.data.toList.drop at_)))).2.1, .int .i64 (at_ + lead blB (s.data.toList.drop at_))], .int .i64 0] := by
          have : (yields 0 s.data.toList)[i]? = ((yields 0 s.data.toList).drop i)[0]? := by simp
          unfold tokEnc
          rw [List.getD_eq_getElem?_getD, this, hys]
          rfl
        generalize tokOf ((s.data.toList.drop at_).drop (lead blB (s.data.toList.drop at_))) = t at *
        generalize lead blB (s.data.toList.drop at_) = k at *
        have C1 := Lib.hid c1; clear c1
        have C2 := Lib.hid c2; clear c2
        have HY := Lib.hid hY; clear hY
        have HF := Lib.hid hF; clear hF
        have HE := Lib.hid henc; clear henc
        have HN := Lib.hid hiN.2
        have hin := hiN.1
        clear hlen he hdrop hle hk1 htl hpl h0 hys hiN
        gi_wp2
        refine ⟨trivial, rfl, (C1.out _).mono ?_⟩
        rintro e w1 ⟨rfl, hb1⟩
        have hj1 := (hJ i).later hj hb1
        obtain ⟨hc1, hG1⟩ := HF.out i w1 hj1
        gi_wp2
        refine ⟨trivial, rfl, (C2.out _ hG1).mono ?_⟩
        rintro e w2 ⟨rfl, hb2⟩
        have hj2 := (hJ i).later hj1 hb2
        obtain ⟨fn, tmps, assign, body, hy, hR⟩ := HY.out i _ hin ((hJ i).alloc (.cells #[.int .u8 t.1, .int .i64 t.2.1, .int .i64 (at_ + k)] 51) hj2)
        rw [HE.out] at hy
        gi_wp2
        refine ⟨rfl, hR.mono ?_⟩
        rintro e W' (⟨rfl, hj'⟩ | ⟨rfl, hjx⟩)
        · gi_wp2
          refine jump_ret (bodyPost_ret (results_none rfl _ _ _) rfl ?_)
          exact ⟨⟨_, rfl⟩, .inl (by rw [HN.out]; exact hj')⟩
        · gi_wp2
          refine jump_ret (bodyPost_ret (results_none rfl _ _ _) rfl ?_)
          exact ⟨⟨_, rfl⟩, .inr ⟨i, hin, hjx⟩⟩
      · have hys0 := hys
        rw [yields_more _ _ he h0] at hys
        have hin : i < (yields 0 s.data.toList).length := by
          have := congrArg List.length hys
          simp only [List.length_drop, List.length_cons] at this
          omega
        have henc : tokEnc (yields 0 s.data.toList) i = #[.agg #[.int .u8 (tokOf ((s.data.toList.drop at_).drop (lead blB (s.data.toList.drop at_)))).1, .int .i64 (tokOf ((s.data.toList.drop at_).drop (lead blB (s.data.toList.drop at_)))).2.1, .int .i64 (at_ + lead blB (s.data.toList.drop at_))], .int .i64 (tokOf ((s.data.toList.drop at_).drop (lead blB (s.data.toList.drop at_)))).2.2] := by
          have : (yields 0 s.data.toList)[i]? = ((yields 0 s.data.toList).drop i)[0]? := by simp
          unfold tokEnc
          rw [List.getD_eq_getElem?_getD, this, hys]
          rfl
        have hnext : (yields 0 s.data.toList).drop (i + 1) = yields (at_ + lead blB (s.data.toList.drop at_) + (tokOf ((s.data.toList.drop at_).drop (lead blB (s.data.toList.drop at_)))).2.2) (s.data.toList.drop (at_ + lead blB (s.data.toList.drop at_) + (tokOf ((s.data.toList.drop at_).drop (lead blB (s.data.toList.drop at_)))).2.2)) := by
          rw [← List.drop_drop (i := 1), hys, List.drop_succ_cons, List.drop_zero, List.drop_drop, List.drop_drop]
        generalize tokOf ((s.data.toList.drop at_).drop (lead blB (s.data.toList.drop at_))) = t at *
        obtain ⟨kd, n, m⟩ := t
        simp only at *
        generalize lead blB (s.data.toList.drop at_) = k at *
        have C1 := Lib.hid c1; clear c1
        have C2 := Lib.hid c2; clear c2
        have HY := Lib.hid hY; clear hY
        have HF := Lib.hid hF; clear hF
        have HE := Lib.hid henc; clear henc
        have HN := Lib.hid hnext; clear hnext
        have hm0 : 0 < m := by omega
        have hmz : ((m : Int) == 0) = false := by simp only [beq_eq_false_iff_ne]; omega
        have hms : at_ + k + m ≤ s.size := by omega
        clear hlen he hdrop hle hk1 htl hpl h0 hys hys0
        gi_wp2
        refine ⟨trivial, rfl, (C1.out _).mono ?_⟩
        rintro e w1 ⟨rfl, hb1⟩
        have hj1 := (hJ i).later hj hb1
        obtain ⟨hc1, hG1⟩ := HF.out i w1 hj1
        gi_wp2
        refine ⟨trivial, rfl, (C2.out _ hG1).mono ?_⟩
        rintro e w2 ⟨rfl, hb2⟩
        have hj2 := (hJ i).later hj1 hb2
        obtain ⟨fn, tmps, assign, body, hy, hR⟩ := HY.out i _ hin ((hJ i).alloc (.cells #[.int .u8 kd, .int .i64 n, .int .i64 (at_ + k)] 51) hj2)
        rw [HE.out] at hy
        gi_wp2
        refine ⟨rfl, hR.mono ?_⟩
        rintro e W' (⟨rfl, hj'⟩ | ⟨rfl, hjx⟩)
        · gi_wp2
          apply wpIn_goto
          refine ⟨rfl, ⟨at_ + k + m, i + 1, hin, hms, HN.out, hj', _, _, _, _, _, _, _, _, _, _, _, _, _, _, _, _, _, _, _, _, _, _, _, _, _, _, _, _, _, _, _, _, _, rfl⟩, ?_⟩
          simp [intOf]
          omega
        · gi_wp2
          refine jump_ret (bodyPost_ret (results_none rfl _ _ _) rfl ?_)
          exact ⟨⟨_, rfl⟩, .inr ⟨i, hin, hjx⟩⟩
  · intro hp
    gi_wp2
    apply wpIn_label
    rename_i hK
    refine hK _ _ (hp _ _ ⟨0, 0, Nat.zero_le _, Nat.zero_le _, rfl, h0, _, _, _, _, _, _, _, _, _, _, _, _, _, _, _, _, _, _, _, _, _, _, _, _, _, _, _, _, _, _, _, _, _, rfl⟩)
end Go.Proofs.YtafgincpoahefaaDoor

namespace Go.Proofs.YtafgincpoahefaaDoor
open Go.RowKit
attribute [local go_sem] Oper.semAt_some

theorem Stable.holds {B : Nat} (b : Nat) (t : TypeId) (cs : Array Value) : Stable B (fun W => Holds W b t cs) :=
  fun W W' row hs hg hr => hs.grown hg (fun e => by
    obtain ⟨_, o, ho, hc⟩ := hr b e.symm
    have hs' : W.heap[b]? = some (.cells cs t (0, 0)) := hs
    rw [hs'] at ho; cases ho; cases hc)

theorem lex_tokens (s : ByteArray) (w : World) : Calls Tryd.prog 89 #[.string s] w fun e w' =>
    e = .returned (.func (.func 118) #[] #[.pointer (some ⟨w.heap.size, 0, none⟩)]) ∧ w.alloc (.cells #[.string s] 9) = w' := by
  go_enter Tryd.func89, Tryd.ntmps89
  go_wp2_with fail
  go_ret
  exact ⟨rfl, rfl⟩
theorem enters_tokens : ∀ args w, (callFunc 118 args).run Tryd.prog w = .ok (.enter 118 args) w := enters_of Tryd.func118 (by kernel_rfl) rfl

theorem keeps_drew' {W W' : World} (k : KeepsOthers W W') : KeepsOthers W W'.drew := ⟨k.size, k.same⟩
theorem yields_len : ∀ (n a : Nat) (l : List UInt8), l.length ≤ n → (yields a l).length ≤ l.length := by
  intro n
  induction n with
  | zero =>
    intro a l hn
    obtain rfl : l = [] := List.eq_nil_of_length_eq_zero (by omega)
    rw [yields_end a [] (by simp)]
    simp
  | succ n ih =>
    intro a l hn
    by_cases h : l.drop (lead blB l) = []
    · rw [yields_end a l h]; simp
    · have hpos : 0 < (l.drop (lead blB l)).length := by
        rcases e : l.drop (lead blB l) with _ | ⟨c, r⟩
        · exact absurd e h
        · simp
      by_cases h0 : (tokOf (l.drop (lead blB l))).2.2 = 0
      · rw [yields_none a l h h0]
        simp only [List.length_drop] at hpos
        simp only [List.length_cons, List.length_nil]; omega
      · rw [yields_more a l h h0]
        have := ih (a + lead blB l + (tokOf (l.drop (lead blB l))).2.2) ((l.drop (lead blB l)).drop (tokOf (l.drop (lead blB l))).2.2) (by simp only [List.length_drop] at hpos ⊢; omega)
        simp only [List.length_drop] at hpos this
        simp only [List.length_cons]; omega
theorem new_cells (W : World) (cs : List Value) (t : TypeId) (j : Nat) (u : Value) (hj : cs[j]? = some u) : (W.alloc (.cells cs.toArray t)).cell? ((⟨W.heap.size, 0, none⟩ : Addr).add j) = some u := by
  have hb : (W.alloc (.cells cs.toArray t)).heap[W.heap.size]? = some (.cells cs.toArray t) := World.alloc_heap_new W _
  have e : (⟨W.heap.size, 0, none⟩ : Addr).add j = ⟨W.heap.size, j, none⟩ := by unfold Addr.add; split <;> simp_all
  rw [e, cell_of_row _ _ _ _ _ _ hb]
  simpa using hj
def tokCells (ts : List Tok) : List Value := ts.flatMap fun t => [.int .u8 t.kind, .int .i64 t.n, .int .i64 t.at']
theorem tokCells_snoc (ts : List Tok) (t : Tok) : tokCells (ts ++ [t]) = tokCells ts ++ [.int .u8 t.kind, .int .i64 t.n, .int .i64 t.at'] := by simp [tokCells]

/-- what All tells -/
def AllPost (l : List UInt8) (w : World) (e : Ending) (w' : World) : Prop :=
  ∃ v, e = .returned (.tuple #[v, .int .i64 (allOf l).2.1, .int .i64 (allOf l).2.2]) ∧ w'.ownsRow w.heap.size 51 3 v (allOf l).1.length (tokCells (allOf l).1) ∧ Below w.heap.size w w'
theorem allPost_of {l : List UInt8} {w w' : World} {v u : Value} {ts : List Tok} {p c : Int} (h : allOf l = (ts, p, c)) (hu : u = .tuple #[v, .int .i64 p, .int .i64 c]) (hr : w'.ownsRow w.heap.size 51 3 v ts.length (tokCells ts)) (hb : Below w.heap.size w w') :
    AllPost l w (.returned u) w' := by
  unfold AllPost; rw [h]; exact ⟨v, by rw [hu], hr, hb⟩

theorem all_long (s : ByteArray) (hs : s.size ≤ 140737488351232) (h : 2000 < s.size) (w : World) : Calls Tryd.prog 50 #[.string s] w (AllPost s.data.toList w) := by
  have ha : allOf s.data.toList = ([], 2000, 91) := by unfold allOf; rw [if_pos (by simpa using h)]
  have HA := Lib.hid ha; clear ha
  refine calls_marks Tryd.func50 rfl ?_
  simp only [Tryd.ntmps50, List.size_toArray, List.length_cons, List.length_nil, Nat.reduceAdd, Nat.reduceSub, Array.replicate_succ, Array.replicate_zero, List.push_toArray, List.append_toArray, List.nil_append, List.cons_append]
  go_wp2_with fail
  refine ret_nomark (v := .tuple #[.slice none 0 0, .int .i64 2000, .int .i64 91]) (by simp [results, Tryd.results50, go_sem]) (allPost_of HA.out rfl (World.ownsRow_nil _ _ _ _) ?_)
  exact (((Below.refl _ _).alloc (Nat.le_refl _) _).alloc (by simp) _).alloc (by simp; omega) _

/-- ahead of round i -/
def AllInv (s : ByteArray) (w : World) (i : Nat) (W : World) : Prop :=
  (∃ v, Boxed W w.heap.size 46 v ∧ W.ownsRow w.heap.size 51 3 v i (tokCells (((yields 0 s.data.toList).take i).map (·.t)))) ∧
    Boxed W (w.heap.size + 1) 3 (.int .i64 0) ∧ Boxed W (w.heap.size + 1 + 1) 34 (.int .i64 0) ∧ Boxed W (w.heap.size + 1 + 1 + 1) 9 (.string s) ∧ Below w.heap.size w W ∧ good ((yields 0 s.data.toList).take i)
def AllOut (s : ByteArray) (w : World) (c : Code) (i : Nat) (W : World) : Prop :=
  c = .ret ∧ Boxed W w.heap.size 46 (.slice none 0 0) ∧ Boxed W (w.heap.size + 1) 3 (.int .i64 ((yields 0 s.data.toList).getD i ⟨⟨0, 0, 0⟩, 0⟩).t.at') ∧ Boxed W (w.heap.size + 1 + 1) 34 (.int .i64 70) ∧ Below w.heap.size w W ∧
    good ((yields 0 s.data.toList).take i) ∧ ((yields 0 s.data.toList).getD i ⟨⟨0, 0, 0⟩, 0⟩).m = 0

set_option maxRecDepth 100000 in
set_option maxHeartbeats 1000000 in
theorem all_short (s : ByteArray) (h : s.size ≤ 2000) (w : World) (hG : GL w) : Calls Tryd.prog 50 #[.string s] w (AllPost s.data.toList w) := by
  refine calls_marks Tryd.func50 rfl ?_
  simp only [Tryd.ntmps50, List.size_toArray, List.length_cons, List.length_nil, Nat.reduceAdd, Nat.reduceSub, Array.replicate_succ, Array.replicate_zero, List.push_toArray, List.append_toArray, List.nil_append, List.cons_append]
  go_wp2_with fail
  refine (lex_tokens _ _).mono ?_
  rintro e w1 ⟨rfl, rfl⟩
  go_wp2_with fail
  obtain ⟨i0, hi, hz0, hz1, hz2⟩ := info_parts (by kernel_rfl : (Tryd.prog.info? 51).map (fun i => (i.zero, i.size, i.bytes)) = some (some (.agg #[.int .u8 0, .int .i64 0, .int .i64 0]), 3, 24))
  refine wp_range_ax rfl enters_tokens (tokens_iter s (by omega) (w.heap.size + 1 + 1 + 1)) (fun _ => rfl) (AllInv s w) (AllOut s w) ?_ ?_ ?_ ?_
    (fun i a' W => ∃ b, w.heap.size + 1 + 1 + 1 < b ∧ Holds W b 51 #[.int .u8 ((yields 0 s.data.toList).getD i ⟨⟨0, 0, 0⟩, 0⟩).t.kind, .int .i64 ((yields 0 s.data.toList).getD i ⟨⟨0, 0, 0⟩, 0⟩).t.n, .int .i64 ((yields 0 s.data.toList).getD i ⟨⟨0, 0, 0⟩, 0⟩).t.at'] ∧
      a' = { tmps := #[.string s, undef, .pointer (some ⟨w.heap.size, 0, none⟩), .pointer (some ⟨w.heap.size + 1, 0, none⟩), .pointer (some ⟨w.heap.size + 1 + 1, 0, none⟩), .pointer (some ⟨b, 0, none⟩), .int .i64 ((yields 0 s.data.toList).getD i ⟨⟨0, 0, 0⟩, 0⟩).m,
        .string s, .int .i64 s.size, .bool (decide (2000 < (s.size : Int))), .string s, .func (.func 118) #[] #[.pointer (some ⟨w.heap.size + 1 + 1 + 1, 0, none⟩)],
        tokV ((yields 0 s.data.toList).getD i ⟨⟨0, 0, 0⟩, 0⟩).t, .int .i64 ((yields 0 s.data.toList).getD i ⟨⟨0, 0, 0⟩, 0⟩).m, undef, undef, undef, undef, undef, undef, undef, undef, undef, undef, undef, undef, undef, undef], defers := [] })
    ?_ ?_ ?_ ?_ ?_
  · intro i
    exact (Stable.row _ _ _ _ _ _ _).and ((Stable.boxed _ _ _).and ((Stable.boxed _ _ _).and ((Stable.boxed _ _ _).and ((Stable.below (by simp; omega) (Nat.le_refl _)).and (Stable.pure _)))))
  · intro c i
    exact (Stable.pure _).and ((Stable.boxed _ _ _).and ((Stable.boxed _ _ _).and ((Stable.boxed _ _ _).and ((Stable.below (by simp; omega) (Nat.le_refl _)).and ((Stable.pure _).and (Stable.pure _))))))
  · rintro i W ⟨_, _, _, h3, hB, _⟩
    exact ⟨h3.cell, hG.mono' hB (Nat.le_refl _)⟩
  · refine ⟨⟨_, (((boxed_new rfl _ _).alloc _).alloc _).alloc _, World.ownsRow_nil _ _ _ _⟩, ((boxed_new (by simp) _ _).alloc _).alloc _, (boxed_new (by simp) _ _).alloc _, boxed_new (by simp) _ _, ?_, fun y hy => by simp at hy⟩
    exact ((((Below.refl _ _).alloc (Nat.le_refl _) _).alloc (by simp) _).alloc (by simp; omega) _).alloc (by simp; omega) _
  · intro i a'
    exact Stable.ex fun b => (Stable.pure _).and ((Stable.holds _ _ _).and (Stable.pure _))
  · intro l i W K hi hI hK
    have hsz : w.heap.size + 1 + 1 + 1 < W.heap.size := hI.2.2.2.1.lt
    have hI2 := fun o => (show Stable w.heap.size (AllInv s w i) from (Stable.row _ _ _ _ _ _ _).and ((Stable.boxed _ _ _).and ((Stable.boxed _ _ _).and ((Stable.boxed _ _ _).and ((Stable.below (Nat.le_refl _) (Nat.le_refl _)).and (Stable.pure _)))))).alloc o hI
    have HI := Lib.hid hI2; clear hI2 hI
    unfold tokEnc tokV
    unfold tokV at hK
    generalize (yields 0 s.data.toList).getD i ⟨⟨0, 0, 0⟩, 0⟩ = y at *
    gi_wp2
    exact hK _ _ ((KeepsOthers.alloc W _).from _) (HI.out _) ⟨W.heap.size, hsz, Holds.fresh _ _ _, rfl⟩
  · rintro l i a' W hl hiN ⟨⟨v, hv, hr⟩, h1, h2, h3, hB, hg⟩ ⟨b, hb, hh, rfl⟩
    have hyi : (yields 0 s.data.toList)[i]? = some ((yields 0 s.data.toList).getD i ⟨⟨0, 0, 0⟩, 0⟩) := by simp [hiN]
    have HYI := Lib.hid hyi; clear hyi
    by_cases hm : ((yields 0 s.data.toList).getD i ⟨⟨0, 0, 0⟩, 0⟩).m = 0
    · have hout : AllOut s w .ret i = fun W => (Code.ret = .ret ∧ Boxed W w.heap.size 46 (.slice none 0 0) ∧ Boxed W (w.heap.size + 1) 3 (.int .i64 ((yields 0 s.data.toList).getD i ⟨⟨0, 0, 0⟩, 0⟩).t.at') ∧ Boxed W (w.heap.size + 1 + 1) 34 (.int .i64 70) ∧ Below w.heap.size w W ∧
    good ((yields 0 s.data.toList).take i) ∧ ((yields 0 s.data.toList).getD i ⟨⟨0, 0, 0⟩, 0⟩).m = 0) := rfl
      have HO := Lib.hid hout; clear hout
      have HG := Lib.hid hg; clear hg
      generalize hy : (yields 0 s.data.toList).getD i ⟨⟨0, 0, 0⟩, 0⟩ = y at *
      obtain ⟨⟨kd, n, at_⟩, m⟩ := y
      simp only at hm
      subst hm
      have HY := Lib.hid hy; clear hy
      have hc2 : W.cell? ⟨b, 2, none⟩ = some (.int .i64 at_) := hh.cell 2
      have hbv := hv.cell
      have hb1 := h1.cell
      have hb2 := h2.cell
      have hf0 := hv.frozen
      have hf1 := h1.frozen
      have hf2 := h2.frozen
      gi_wp2
      refine wpIn_round_held l 2 (by kernel_rfl) (by kernel_rfl) (fun ⟨_, _, h⟩ => h) (by kernel_rfl) (fun W' => W'.cell? ⟨b, 2, none⟩ = some (.int .i64 at_)) hc2 (fun _ _ _ _ _ h => h) ?_
      simp only [List.take_succ_cons, List.take_zero, List.drop_succ_cons, List.drop_zero]
      refine heads_cons (by rfl) (fun w' hS => by (go_simp <;> rfl)) ?_
      refine heads_cons (by rfl) (fun w' hS => by (go_simp <;> rfl)) ?_
      simp only [Act.put, List.setIfInBounds_toArray, List.set_cons_succ, List.set_cons_zero]
      refine heads_nil ?_
      refine opL_do rfl ?_
      go_simp
      refine opL_do rfl ?_
      go_simp
      refine opL_do rfl ?_
      go_simp
      gi_wp2
      refine ⟨(keeps_drew' (((KeepsOthers.setCell W ⟨w.heap.size, 0, none⟩ (.slice none 0 0)).trans (KeepsOthers.setCell _ ⟨w.heap.size + 1, 0, none⟩ (.int .i64 at_))).trans (KeepsOthers.setCell _ ⟨w.heap.size + 1 + 1, 0, none⟩ (.int .i64 70)))).from _, rfl, ?_, ?_, ?_, ?_, HG.out, by rw [HY.out]⟩
      · exact ((hv.set _).other (by omega) _).other (by omega) _
      · rw [HY.out]; exact ((h1.other (by omega) _).set _).other (by omega) _
      · exact ((h2.other (by omega) _).other (by omega) _).set _
      · exact (((hB.setCell (p := ⟨w.heap.size, 0, none⟩) (Nat.le_refl _) _).setCell (p := ⟨w.heap.size + 1, 0, none⟩) (by simp) _).setCell (p := ⟨w.heap.size + 1 + 1, 0, none⟩) (by simp; omega) _).drew
    · have hgn : good ((yields 0 s.data.toList).take (i + 1)) := by
        rw [List.take_succ_eq_append_getElem hiN]
        intro y hy
        rcases List.mem_append.1 hy with hy | hy
        · exact hg y hy
        · obtain rfl := List.mem_singleton.1 hy
          simpa [List.getD_eq_getElem?_getD, hiN] using hm
      have htk : tokCells (((yields 0 s.data.toList).take (i + 1)).map (·.t)) = tokCells (((yields 0 s.data.toList).take i).map (·.t)) ++ [.int .u8 ((yields 0 s.data.toList).getD i ⟨⟨0, 0, 0⟩, 0⟩).t.kind, .int .i64 ((yields 0 s.data.toList).getD i ⟨⟨0, 0, 0⟩, 0⟩).t.n, .int .i64 ((yields 0 s.data.toList).getD i ⟨⟨0, 0, 0⟩, 0⟩).t.at'] := by
        rw [List.take_succ_eq_append_getElem hiN, List.map_append, List.map_singleton, tokCells_snoc]
        simp [List.getD_eq_getElem?_getD, hiN]
      have hi2 : i < 2001 := by
        have := yields_len _ 0 s.data.toList (Nat.le_refl _)
        have hl : s.data.toList.length = s.size := by simp
        omega
      have HT := Lib.hid htk; clear htk
      have HG := Lib.hid hgn; clear hgn hg
      generalize hy : (yields 0 s.data.toList).getD i ⟨⟨0, 0, 0⟩, 0⟩ = y at *
      obtain ⟨⟨kd, n, at_⟩, m⟩ := y
      simp only at hm
      have hmz : ((m : Int) == 0) = false := by simp only [beq_eq_false_iff_ne]; omega
      obtain ⟨hc0, hc1, hc2⟩ := tok_cells hh
      have hbv := hv.cell
      clear hm hy
      have hn0 : w.heap.size ≤ (W.alloc (.cells #[.int .u8 kd, .int .i64 n, .int .i64 at_] 51)).heap.size := by have := hB.size; simp; omega
      have hz0' := boxed_new (rfl : W.heap.size = W.heap.size) 51 (.int .u8 kd)
      gi_wp2_with (gi_at_builtin; refine wpListIn_append_own _ rfl (.tmp 18) (.tmp 20) 46 rfl w.heap.size 51 i0 (.agg #[.int .u8 0, .int .i64 0, .int .i64 0]) 3 24 Tryd.underlying46 hi hz0 hz1 hz2 rfl (by decide) v i (tokCells (((yields 0 s.data.toList).take i).map (·.t))) rfl (hr.alloc _) ⟨W.heap.size, 0, none⟩ 1 1 [.int .u8 kd, .int .i64 n, .int .i64 at_] rfl rfl ?c1 ?c2 ?c3 ?c4 hn0 ?_)
      case c2 => exact ⟨rfl, rfl, rfl⟩
      case c3 => unfold maxLen; omega
      case c4 => omega
      intro v' w1 hown' hgrow _
      obtain ⟨g', cap', rfl⟩ := ownsRow_form hown'
      obtain ⟨hv1, hv2, hr2, hk2, hb2⟩ := hv.appended (by decide) hr hB.size (Nat.le_refl _) hown' hgrow
      have far : ∀ r o, W.heap[r]? = some o → v.ownBlock ≠ some r → w1.heap[r]? = some o := fun r o hr' hne =>
        (hgrow.block r (by have := (Array.getElem?_eq_some_iff.1 hr').1; simp; omega) (fun e => hne e.symm)).trans ((Below.heap_alloc W _ r (Array.getElem?_eq_some_iff.1 hr').1).trans hr')
      have k1 : Boxed w1 (w.heap.size + 1) 3 (.int .i64 0) := far _ _ h1 (fun e => (h1.not_row (by decide) hr) e.symm)
      have k2 : Boxed w1 (w.heap.size + 1 + 1) 34 (.int .i64 0) := far _ _ h2 (fun e => (h2.not_row (by decide) hr) e.symm)
      have k3 : Boxed w1 (w.heap.size + 1 + 1 + 1) 9 (.string s) := far _ _ h3 (fun e => (h3.not_row (by decide) hr) e.symm)
      have kv := hv1.cell
      have kf := hv1.frozen
      gi_wp2
      refine ⟨hk2.from _, ⟨_, hv2, ?_⟩, k1.other (by omega) _, k2.other (by omega) _, k3.other (by omega) _, hB.trans hb2, HG.out⟩
      rw [HT.out]
      simpa using hr2
  · rintro D W hD ⟨⟨v, hv, hr⟩, h1, h2, h3, hB, hg⟩ hKd
    have hall : allOf s.data.toList = ((yields 0 s.data.toList).map (·.t) ++ [⟨0, 0, s.data.toList.length⟩], 0, 0) := by
      unfold allOf
      rw [if_neg (by simp; omega), List.find?_eq_none.2 ?_]
      intro y hy
      rw [List.take_length] at hg
      have := hg y hy
      simpa using this
    rw [List.take_length] at hr
    have hlen := yields_len _ 0 s.data.toList (Nat.le_refl _)
    rw [show s.data.toList.length = s.size from by simp] at hall hlen
    have HA := Lib.hid hall; clear hall hg
    have hbv := hv.cell
    have hn0 : w.heap.size ≤ (W.alloc (.cells #[.int .u8 0, .int .i64 0, .int .i64 s.size] 51)).heap.size := by have := hB.size; simp; omega
    go_wp2_with (at_builtin; refine wpList_append_own _ rfl (.tmp 22) (.tmp 26) 46 rfl w.heap.size 51 i0 (.agg #[.int .u8 0, .int .i64 0, .int .i64 0]) 3 24 Tryd.underlying46 hi hz0 hz1 hz2 rfl (by decide) v (yields 0 s.data.toList).length (tokCells ((yields 0 s.data.toList).map (·.t))) rfl (hr.alloc _) ⟨W.heap.size, 0, none⟩ 1 1 [.int .u8 0, .int .i64 0, .int .i64 s.size] rfl rfl ?d1 ?d2 ?d3 ?d4 hn0 ?_)
    case d1 => exact new_cells W [.int .u8 0, .int .i64 0, .int .i64 s.size] 51
    case d2 =>
      intro u hu
      simp only [List.mem_cons, List.not_mem_nil, or_false] at hu
      rcases hu with rfl | rfl | rfl <;> rfl
    case d3 => unfold maxLen; omega
    case d4 => omega
    intro v' w1 hown' hgrow _
    obtain ⟨g', cap', rfl⟩ := ownsRow_form hown'
    obtain ⟨hv1, hv2, hr2, hk2, hb2⟩ := hv.appended (by decide) hr hB.size (Nat.le_refl _) hown' hgrow
    have far : ∀ r o, W.heap[r]? = some o → v.ownBlock ≠ some r → w1.heap[r]? = some o := fun r o hr' hne =>
      (hgrow.block r (by have := (Array.getElem?_eq_some_iff.1 hr').1; simp; omega) (fun e => hne e.symm)).trans ((Below.heap_alloc W _ r (Array.getElem?_eq_some_iff.1 hr').1).trans hr')
    have k1 : Boxed w1 (w.heap.size + 1) 3 (.int .i64 0) := far _ _ h1 (fun e => (h1.not_row (by decide) hr) e.symm)
    have k2 : Boxed w1 (w.heap.size + 1 + 1) 34 (.int .i64 0) := far _ _ h2 (fun e => (h2.not_row (by decide) hr) e.symm)
    have kv := hv1.cell
    have kf := hv1.frozen
    have kv1 := k1.cell
    have kf1 := k1.frozen
    have kv2 := k2.cell
    have kf2 := k2.frozen
    go_wp2_with fail
    have g1 := (hv2.other (show w.heap.size ≠ w.heap.size + 1 by omega) (.int .i64 0)).other (show w.heap.size ≠ w.heap.size + 1 + 1 by omega) (.int .i64 0)
    have g2 := ((k1.other (show w.heap.size + 1 ≠ w.heap.size by omega) (.slice g' ((yields 0 s.data.toList).length + 1) cap')).set (.int .i64 0)).other (show w.heap.size + 1 ≠ w.heap.size + 1 + 1 by omega) (.int .i64 0)
    have g3 := ((k2.other (show w.heap.size + 1 + 1 ≠ w.heap.size by omega) (.slice g' ((yields 0 s.data.toList).length + 1) cap')).other (show w.heap.size + 1 + 1 ≠ w.heap.size + 1 by omega) (.int .i64 0)).set (.int .i64 0)
    have hKe := (KeepsOthers.setCell _ ⟨w.heap.size + 1 + 1, 0, none⟩ (.int .i64 0)).same D _ ((KeepsOthers.setCell _ ⟨w.heap.size + 1, 0, none⟩ (.int .i64 0)).same D _ (hk2.same D _ hKd rfl) rfl) rfl
    have hr3 := (hr2.kept (grownBy_setCell' _ (w.heap.size + 1) (.int .i64 0)) (.inr ((k1.other (show w.heap.size + 1 ≠ w.heap.size by omega) _).not_row (by decide) hr2).symm))
    have hr4 := hr3.kept (grownBy_setCell' _ (w.heap.size + 1 + 1) (.int .i64 0)) (.inr (((k2.other (show w.heap.size + 1 + 1 ≠ w.heap.size by omega) _).other (show w.heap.size + 1 + 1 ≠ w.heap.size + 1 by omega) _).not_row (by decide) hr3).symm)
    have q1 := putObj_cell (o' := .deferred none) hKe rfl g1.cell
    have q2 := putObj_cell (o' := .deferred none) hKe rfl g2.cell
    have q3 := putObj_cell (o' := .deferred none) hKe rfl g3.cell
    refine ret_mark (v := .tuple #[.slice g' ((yields 0 s.data.toList).length + 1) cap', .int .i64 0, .int .i64 0]) hKe (by simp [results, Tryd.results50, go_sem, q1, q2, q3]) (allPost_of HA.out rfl ?_ (putObj_below (((hB.trans hb2).setCell (p := ⟨w.heap.size + 1, 0, none⟩) (by simp) _).setCell (p := ⟨w.heap.size + 1 + 1, 0, none⟩) (by simp; omega) _) hKe (by simp at hD; omega)))
    rw [tokCells_snoc]
    have hr5 := ownsRow_putObj hr4 (.deferred none) hKe rfl
    simpa using hr5
  · rintro D c i W hD hiN ⟨rfl, h1, h2, h3, hB, hg, hm⟩ hKd
    have hall : allOf s.data.toList = ([], ((yields 0 s.data.toList).getD i ⟨⟨0, 0, 0⟩, 0⟩).t.at', 70) := by
      have hf : (yields 0 s.data.toList).find? (fun y => y.m == 0) = some ((yields 0 s.data.toList).getD i ⟨⟨0, 0, 0⟩, 0⟩) := by
        rw [List.find?_eq_some_iff_append]
        refine ⟨by simpa using hm, (yields 0 s.data.toList).take i, (yields 0 s.data.toList).drop (i + 1), ?_, fun y hy => by have := hg y hy; simpa using this⟩
        rw [List.getD_eq_getElem?_getD, List.getElem?_eq_getElem hiN, Option.getD_some, ← List.drop_eq_getElem_cons hiN, List.take_append_drop]
      unfold allOf
      rw [if_neg (by simp; omega), hf]
    have HA := Lib.hid hall; clear hall hg hm
    generalize ((yields 0 s.data.toList).getD i ⟨⟨0, 0, 0⟩, 0⟩).t.at' = p at *
    apply wp_ret
    have q1 := putObj_cell (o' := .deferred none) hKd rfl h1.cell
    have q2 := putObj_cell (o' := .deferred none) hKd rfl h2.cell
    have q3 := putObj_cell (o' := .deferred none) hKd rfl h3.cell
    refine ret_mark (v := .tuple #[.slice none 0 0, .int .i64 p, .int .i64 70]) hKd (by simp [results, Tryd.results50, go_sem, q1, q2, q3]) (allPost_of HA.out rfl (World.ownsRow_nil _ _ _ _) (putObj_below hB hKd (by simp at hD; omega)))

theorem lex_All (s : ByteArray) (hs : s.size ≤ 140737488351232) (w : World) (hG : GL w) : Calls Tryd.prog 50 #[.string s] w (AllPost s.data.toList w) := by
  by_cases h : s.size ≤ 2000
  · exact all_short s h w hG
  · exact all_long s hs (by omega) w
end Go.Proofs.YtafgincpoahefaaDoor

namespace Go.Proofs.YtafgincpoahefaaDoor
open Go.RowKit

/-- a slice of tokens at a, that holds ts -/
def ToksAt (w : World) (a : Option Addr) (ts : List Tok) : Prop :=
  ts = [] ∨ ∃ b off, a = some ⟨b, off, none⟩ ∧ ∀ i (h : i < ts.length), w.cell? ⟨b, off + i * 3, none⟩ = some (.int .u8 ts[i].kind) ∧ w.cell? ⟨b, off + i * 3 + 1, none⟩ = some (.int .i64 ts[i].n) ∧ w.cell? ⟨b, off + i * 3 + 2, none⟩ = some (.int .i64 ts[i].at')
theorem ToksAt.mono {w w' : World} {B : Nat} {a : Option Addr} {ts : List Tok} (hb : Below B w w') (hB : w.heap.size ≤ B) (h : ToksAt w a ts) : ToksAt w' a ts := by
  rcases h with rfl | ⟨b, off, rfl, hc⟩
  · exact .inl rfl
  · exact .inr ⟨b, off, rfl, fun i hi => ⟨cell_mono hb hB (hc i hi).1, cell_mono hb hB (hc i hi).2.1, cell_mono hb hB (hc i hi).2.2⟩⟩
theorem ToksAt.get {w : World} {a : Option Addr} {ts : List Tok} (h : ToksAt w a ts) (i : Nat) (hi : i < ts.length) : ∃ b off, a = some ⟨b, off, none⟩ ∧
    w.cell? ⟨b, off + i * 3, none⟩ = some (.int .u8 ts[i].kind) ∧ w.cell? ⟨b, off + i * 3 + 1, none⟩ = some (.int .i64 ts[i].n) ∧ w.cell? ⟨b, off + i * 3 + 2, none⟩ = some (.int .i64 ts[i].at') := by
  rcases h with rfl | ⟨b, off, rfl, hc⟩
  · simp at hi
  · exact ⟨b, off, rfl, hc i hi⟩
theorem tokCells_get : ∀ (ts : List Tok) (i : Nat) (h : i < ts.length), (tokCells ts)[i * 3]? = some (.int .u8 ts[i].kind) ∧ (tokCells ts)[i * 3 + 1]? = some (.int .i64 ts[i].n) ∧ (tokCells ts)[i * 3 + 2]? = some (.int .i64 ts[i].at')
  | [], _, h => by simp at h
  | t :: ts, 0, _ => by simp [tokCells]
  | t :: ts, i + 1, h => by
    have := tokCells_get ts i (by simpa using h)
    have e : tokCells (t :: ts) = .int .u8 t.kind :: .int .i64 t.n :: .int .i64 t.at' :: tokCells ts := by simp [tokCells]
    rw [e, show (i + 1) * 3 = i * 3 + 1 + 1 + 1 from by omega]
    simpa using this
theorem toks_of_row {w : World} {n₀ k : Nat} {E : TypeId} {v : Value} {ts : List Tok} (h : w.ownsRow n₀ E 3 v k (tokCells ts)) (hk : ts.length = k) : ∃ a cap, v = .slice a ts.length cap ∧ ts.length ≤ cap ∧ ToksAt w a ts := by
  rcases h.2 with ⟨rfl, he⟩ | ⟨g, cap, cur, rfl, _, hg, hc, _⟩
  · have : k = 0 := by have := h.1; rw [he] at this; simp at this; omega
    subst this
    obtain rfl := List.eq_nil_of_length_eq_zero hk
    exact ⟨none, 0, rfl, Nat.le_refl _, .inl rfl⟩
  · refine ⟨some ⟨g, 0, none⟩, cap, by rw [hk], by omega, .inr ⟨g, 0, rfl, fun i hi => ?_⟩⟩
    obtain ⟨e1, e2, e3⟩ := tokCells_get ts i hi
    refine ⟨?_, ?_, ?_⟩
    · rw [Nat.zero_add, h.cellAt (i * 3) (by omega), e1]
    · rw [Nat.zero_add, h.cellAt (i * 3 + 1) (by omega), e2]
    · rw [Nat.zero_add, h.cellAt (i * 3 + 2) (by omega), e3]

theorem tok_ext {x y : Tok} (h0 : x.kind = y.kind) (h1 : x.n = y.n) (h2 : x.at' = y.at') : x = y := by
  cases x; cases y; simp_all

set_option maxRecDepth 100000 in
set_option maxHeartbeats 1000000 in
theorem ref_Tokens (a b : Option Addr) (c d : Nat) (s t : List Tok) (w : World) (hs : ToksAt w a s) (ht : ToksAt w b t) (hsl : s.length ≤ 140737488351232) (htl : t.length ≤ 140737488351232) :
    Calls Tryd.prog 51 #[.slice a s.length c, .slice b t.length d] w fun e w' => e = .returned (.bool (decide (s = t))) ∧ ∃ n, w' = w.drewN n := by
  by_cases hl : s.length = t.length
  · obtain ⟨m, hm⟩ : ∃ m, s.length = m := ⟨_, rfl⟩
    have hm' : t.length = m := by omega
    have key : ∀ k, k < m → ∃ b1 o1 b2 o2 x0 x1 x2 y0 y1 y2, a = some ⟨b1, o1, none⟩ ∧ b = some ⟨b2, o2, none⟩ ∧
        (w.cell? ⟨b1, o1 + k * 3, none⟩ = some (.int .u8 x0) ∧ w.cell? ⟨b1, o1 + k * 3 + 1, none⟩ = some (.int .i64 x1) ∧ w.cell? ⟨b1, o1 + k * 3 + 2, none⟩ = some (.int .i64 x2)) ∧
        (w.cell? ⟨b2, o2 + k * 3, none⟩ = some (.int .u8 y0) ∧ w.cell? ⟨b2, o2 + k * 3 + 1, none⟩ = some (.int .i64 y1) ∧ w.cell? ⟨b2, o2 + k * 3 + 2, none⟩ = some (.int .i64 y2)) ∧
        (s[k]? = some ⟨x0, x1, x2⟩ ∧ t[k]? = some ⟨y0, y1, y2⟩) := by
      intro k hk
      obtain ⟨b1, o1, e1, hx⟩ := hs.get k (by omega)
      obtain ⟨b2, o2, e2, hy⟩ := ht.get k (by omega)
      exact ⟨b1, o1, b2, o2, _, _, _, _, _, _, e1, e2, hx, hy, List.getElem?_eq_getElem (by omega), List.getElem?_eq_getElem (by omega)⟩
    have hyes : s.take m = t.take m → decide (s = t) = true := fun h => by
      rw [List.take_of_length_le (by omega), List.take_of_length_le (by omega)] at h
      simpa using h
    have hno : ∀ (k : Nat) (x y : Tok), s[k]? = some x → t[k]? = some y → x ≠ y → decide (s = t) = false := fun k x y h1 h2 h3 => by
      rw [decide_eq_false_iff_not]
      rintro rfl
      rw [h1] at h2
      exact h3 (Option.some.inj h2)
    rw [hm] at hsl ⊢
    rw [hm']
    have HK := Lib.hid key; clear key
    have HY := Lib.hid hyes; clear hyes
    have HN := Lib.hid hno; clear hno
    clear hs ht htl hl hm hm'
    go_enter Tryd.func51, Tryd.ntmps51
    go_wp2_with fail
    go_loopw [5] (fun i wr => ∃ (k n : Nat), k ≤ m ∧ i = .int .i64 k ∧ Hid (s.take k = t.take k) ∧ wr = w.drewN n) (fun i _ => m - (intOf i).toNat)
    case atStart => exact ⟨0, 0, Nat.zero_le _, rfl, Lib.hid (by simp), rfl⟩
    case round =>
      obtain ⟨k, n, hk, rfl, HT, rfl⟩ := hrel
      by_cases hlt : k < m
      · obtain ⟨b1, o1, b2, o2, x0, x1, x2, y0, y1, y2, rfl, rfl, ⟨p0, p1, p2⟩, ⟨q0, q1, q2⟩, hs, ht⟩ := HK.out k hlt
        have HS := Lib.hid hs; clear hs
        have HU := Lib.hid ht; clear ht
        by_cases e0 : x0 = y0
        · subst e0
          by_cases e1 : x1 = y1
          · subst e1
            by_cases e2 : x2 = y2
            · subst e2
              go_wp2_with fail
              go_quiet (fail)
              go_wp2_with fail
              go_roundw
              case rel =>
                refine ⟨k + 1, _, by omega, by go_num, Lib.hid ?_, rfl⟩
                rw [List.take_add_one, List.take_add_one, HS.out, HU.out, HT.out]
              case measure => simp [intOf]; omega
            · go_wp2_with fail
              go_quiet (fail)
              go_wp2_with fail
              go_ret
              exact ⟨by rw [HN.out k _ _ HS.out HU.out (fun h => e2 (Tok.mk.inj h).2.2)]; rfl, _, World.drewN_drewN _ _ _⟩
          · go_wp2_with fail
            go_quiet (fail)
            go_wp2_with fail
            go_ret
            exact ⟨by rw [HN.out k _ _ HS.out HU.out (fun h => e1 (Tok.mk.inj h).2.1)]; rfl, _, World.drewN_drewN _ _ _⟩
        · go_wp2_with fail
          go_quiet (fail)
          go_wp2_with fail
          go_ret
          exact ⟨by rw [HN.out k _ _ HS.out HU.out (fun h => e0 (Tok.mk.inj h).1)]; rfl, _, World.drewN_drewN _ _ _⟩
      · obtain rfl : k = m := by omega
        go_wp2_with fail
        go_ret
        exact ⟨by rw [HY.out HT.out]; rfl, _, rfl⟩
  · have hd : decide (s = t) = false := by
      rw [decide_eq_false_iff_not]; rintro rfl; exact hl rfl
    rw [hd]
    have hne : ((s.length : Int) == (t.length : Int)) = false := by simp only [beq_eq_false_iff_ne]; omega
    clear hl hd
    generalize s.length = m at *
    generalize t.length = m' at *
    have hne' : ((m : Int) != (m' : Int)) = true := by simp only [bne, hne]; rfl
    clear hs ht
    go_enter Tryd.func51, Tryd.ntmps51
    go_wp2_with fail
    go_ret
    exact ⟨rfl, 0, rfl⟩
end Go.Proofs.YtafgincpoahefaaDoor

namespace Go.Proofs.YtafgincpoahefaaDoor
open Go.RowKit

/-- blocks of cells of type T stay -/
def Mem (T : TypeId) (W W' : World) : Prop := ∀ b cs, Holds W b T cs → Holds W' b T cs
theorem Mem.refl (T : TypeId) (W : World) : Mem T W W := fun _ _ h => h
theorem Mem.trans {T : TypeId} {W W' W'' : World} (h : Mem T W W') (h' : Mem T W' W'') : Mem T W W'' := fun b cs hb => h' b cs (h b cs hb)
theorem Mem.below {T : TypeId} {W W' : World} (h : Below W.heap.size W W') : Mem T W W' := fun _ _ hb => hb.later h
theorem Mem.putObj {T : TypeId} {W : World} {l : Nat} {o : Obj} (o' : Obj) (hl : W.heap[l]? = some o) (ho : o.isCells = false) : Mem T W (W.putObj l o') := fun b cs hb => by
  have hne : b ≠ l := by
    rintro rfl
    have hb' : W.heap[b]? = some (.cells cs T (0, 0)) := hb
    rw [hb'] at hl
    cases hl
    cases ho
  exact (World.putObj_heap_other hne).trans hb
theorem Mem.grown {T E : TypeId} {W W' : World} {n₀ size n : Nat} {v : Value} {xs : List Value} (hr : W.ownsRow n₀ E size v n xs) (hne : T ≠ E) (hg : W.grownBy W' v.ownBlock) : Mem T W W' := fun b cs hb => by
  refine hb.grown hg fun e => ?_
  rcases hr.2 with ⟨rfl, _⟩ | ⟨g, cap, cur, rfl, _, hgb, _⟩
  · simp [Value.ownBlock] at e
  · obtain rfl : b = g := by simpa [Value.ownBlock] using e
    have hb' : W.heap[b]? = some (.cells cs T (0, 0)) := hb
    rw [hb'] at hgb
    cases hgb
    exact hne rfl
theorem Mem.set {T t : TypeId} {W : World} {b : Nat} {cs : Array Value} (hb : Holds W b t cs) (hne : T ≠ t) (i : Nat) (v : Value) : Mem T W (W.setCell ⟨b, i, none⟩ v) := fun b' cs' hb' => by
  refine hb'.far (p := ⟨b, i, none⟩) (fun e => ?_) v
  subst e
  have h1 : W.heap[b']? = some (.cells cs' T (0, 0)) := hb'
  have h2 : W.heap[b']? = some (.cells cs t (0, 0)) := hb
  rw [h1] at h2
  cases h2
  exact hne rfl

/-- The iterator g tells encs 0 .. encs (N - 1), in this order, wherever Fp holds, to a body that always goes on. -/
def IterT (P : Program) (g : Nat) (lb : Array Value) (encs : Nat → Array Value) (N : Nat) (Fp : World → Prop) (T : TypeId) : Prop :=
  ∀ (l : Nat) (J : Nat → World → Prop) (W : World), (∀ i, Stable W.heap.size (J i)) → (∀ i W, J i W → Fp W) →
    (∀ i W1, i < N → J i W1 → YieldAt Fence.wide 0 P l (encs i) W1 fun e W' => e = .returned (.bool true) ∧ J (i + 1) W' ∧ Mem T W1 W') →
    J 0 W → CallsIn Fence.wide 0 P g (#[.func (.yield l) #[] #[]] ++ lb) W fun e W' => (∃ v, e = .returned v) ∧ J N W'

def tpost (B : Nat) (I : Nat → World → Prop) (T : TypeId) (i : Nat) (W : World) : Exit → Act → World → Prop
  | .normal, _, W' => KeepsFrom B W W' ∧ I (i + 1) W' ∧ Mem T W W'
  | _, _, _ => False

theorem wp_range_t {P : Program} {g : Operand} {ps : Array Tmp} {assign body : Code} {Q : Exit → Act → World → Prop} {a : Act} {w : World}
    {gf : Nat} {lb : Array Value} (hg : a.eval g = .func (.func gf) #[] lb) (eg : ∀ args w, (callFunc gf args).run P w = .ok (.enter gf args) w)
    {encs : Nat → Array Value} {N : Nat} {Fp : World → Prop} {T : TypeId} (hit : IterT P gf lb encs N Fp T) (hps : ∀ i, (encs i).size = ps.size)
    (I : Nat → World → Prop) (hI : ∀ i, Stable w.heap.size (I i)) (hFp : ∀ i W, I i W → Fp W) (h0 : I 0 w)
    (a₁ : Nat → Act)
    (hassign : ∀ (l i : Nat) (W : World) (K : Act → World → Prop), i < N → K (a₁ i) W →
      assign.wpIn (Fence.wide.inRound l) 0 P (Exit.then K (fun _ _ _ => False)) { tmps := (ps.zip (encs i)).foldl (fun t (p, v) => t.setIfInBounds p v) a.tmps, defers := [] } W)
    (hbody : ∀ (l i : Nat) (W : World), w.heap.size ≤ l → i < N → I i W → body.wpIn (Fence.wide.inRound l) 0 P (tpost w.heap.size I T i W) (a₁ i) W)
    (hdone : ∀ (D : Nat) (W : World), w.heap.size ≤ D → I N W → W.heap[D]? = some (.deferred (some [])) → Q .normal { a with defers := mark D :: a.defers } W) :
    (Code.rangeFunc g ps assign body).wp P Q a w := by
  refine (wpIn_wide (n := 0)).1 (wpIn_rangeFunc ?_)
  intro fn hfn
  rw [show Fence.wide.round = none from rfl]
  obtain ⟨rec, hrec⟩ : ∃ rec : LoopState → Option Code → Loop, rec = fun st pe => { state := st, pending := pe, fn, tmps := a.tmps, params := ps, assign, body, defers := w.heap.size } := ⟨_, rfl⟩
  obtain ⟨W1, hW1⟩ : ∃ W1, (w.alloc (.deferred (some []))).alloc (.loop (rec .ready none)) = W1 := ⟨_, rfl⟩
  have hL1 : W1.heap[w.heap.size + 1]? = some (.loop (rec .ready none)) := by
    rw [← hW1]; have := World.alloc_heap_new (w.alloc (.deferred (some []))) (.loop (rec .ready none)); rwa [World.size_alloc] at this
  have hK1 : W1.heap[w.heap.size]? = some (.deferred (some [])) := by
    rw [← hW1]; exact (Below.heap_alloc _ _ _ (by simp)).trans (World.alloc_heap_new w _)
  have hI1 : I 0 W1 := by rw [← hW1]; exact (hI 0).alloc _ ((hI 0).alloc _ h0)
  have hsz : w.heap.size ≤ W1.heap.size := by rw [← hW1]; simp; omega
  refine ⟨w.heap.size + 1, [mark w.heap.size], W1, { target := .fn (.func gf) lb, args := #[.func (.yield (w.heap.size + 1)) #[] #[]] }, W1, gf,
    #[.func (.yield (w.heap.size + 1)) #[] #[]] ++ lb, W1, ?_, ?_, ?_, ?_, fun h => by simp [Fence.wide] at h, ?_⟩
  · rw [← hW1, hrec]; exact run_enterLoop_outer _ _ _ _ _
  · simp only [resolve, hg]
    simp [go_sem]
  · intro f' _; trivial
  · simp [invoke, go_sem, eg]
  · refine (hit (w.heap.size + 1)
      (fun i W => I i W ∧ W.heap[w.heap.size + 1]? = some (.loop (rec .ready none)) ∧ W.heap[w.heap.size]? = some (.deferred (some [])))
      W1 ?_ (fun i W h => hFp i W h.1) ?_ ⟨hI1, hL1, hK1⟩).mono ?_
    · intro i A B row hs hg' hr
      refine ⟨hI i A B row hs.1 hg' (fun r e => ⟨Nat.le_trans hsz (hr r e).1, (hr r e).2⟩), ?_, ?_⟩
      · exact (hg'.block _ (Array.getElem?_eq_some_iff.1 hs.2.1).1 (fun e => by have := (hr _ e.symm).1; rw [← hW1] at this; simp at this; omega)).trans hs.2.1
      · exact (hg'.block _ (Array.getElem?_eq_some_iff.1 hs.2.2).1 (fun e => by have := (hr _ e.symm).1; rw [← hW1] at this; simp at this; omega)).trans hs.2.2
    · -- one round
      rintro i W hiN ⟨hi, hl, hk⟩
      have hlt : w.heap.size + 1 < W.heap.size := (Array.getElem?_eq_some_iff.1 hl).1
      have hy := run_yield (P := P) (args := encs i) hl (by rw [hrec]; exact hps i)
      rw [hrec] at hy
      refine ⟨fn, _, assign, body, hy, roundIn_of_wpIn hfn (hassign _ i W _ hiN ?_)⟩
      clear hy
      refine ⟨_, run_beginRound hl (by rw [hrec]), ?_⟩
      have hl2 : (W.putObj (w.heap.size + 1) (.loop { rec .ready none with state := .busy })).heap[w.heap.size + 1]? = some (.loop { rec .ready none with state := .busy }) := World.putObj_heap_same hlt
      have hk2 : (W.putObj (w.heap.size + 1) (.loop { rec .ready none with state := .busy })).heap[w.heap.size]? = some (.deferred (some [])) := (World.putObj_heap_other (by omega)).trans hk
      refine wpIn_mono (hbody _ i _ (by omega) hiN ((hI i).putObj _ hi (by omega) hl rfl)) ?_
      rintro e a3 W3 hp
      cases e with
      | normal =>
        obtain ⟨hk3, hi3, hm3⟩ := hp
        have hl3 := hk3.same _ _ (by omega) hl2 rfl
        have hr := run_endRound (P := P) none hl3
        rw [hrec] at hr
        refine ⟨_, _, hr, rfl, ⟨(hI _).putObj _ hi3 (by omega) hl3 rfl, ?_, ?_⟩, ?_⟩
        · rw [hrec]; exact World.putObj_heap_same (Array.getElem?_eq_some_iff.1 hl3).1
        · exact (World.putObj_heap_other (by omega)).trans (hk3.same _ _ (Nat.le_refl _) hk2 rfl)
        · exact ((Mem.putObj _ hl rfl).trans hm3).trans (Mem.putObj _ hl3 rfl)
      | ret => exact hp.elim
      | exit id => exact hp.elim
      | goto t => exact hp.elim
      | panic ch => exact hp.elim
      | outgrown => exact hp.elim
    · rintro e W2 ⟨⟨v, rfl⟩, hi, hl, hk⟩
      exact ⟨none, _, by have := run_endLoop (P := P) hl (by rw [hrec]; simp); rw [hrec] at this; exact this, hdone _ _ (Nat.le_refl _) ((hI _).putObj _ hi (by omega) hl rfl) ((World.putObj_heap_other (by omega)).trans hk)⟩
end Go.Proofs.YtafgincpoahefaaDoor
