/-
  lex: tokens, the iterator.
-/
import Derived.Test.YtafgincpoahefaaDoorLex3
import Derived.Test.YtafgincpoahefaaDoorJumps
import Derived.Test.YtafgincpoahefaaDoorHeld
namespace Go.Proofs.YtafgincpoahefaaDoor
open Go.RowKit
attribute [local go_sem] Oper.semAt_some

theorem grown_of_below {W W' : World} (hb : Below W.heap.size W W') : W.grownBy W' none := ⟨hb.os, hb.tape, hb.output, hb.size, fun k hk _ => hb.block k hk⟩
theorem Stable.later {B : Nat} {I : World → Prop} (h : Stable B I) {W W' : World} (hs : I W) (hb : Below W.heap.size W W') : I W' := h W W' none hs (grown_of_below hb) (fun r e => by cases e)

/-- wpIn_scope_jumps, what stands behind the label walked once -/
theorem wpIn_scope_back {F : Fence} {n : Nat} {P : Program} {Q : Exit → Act → World → Prop} {a : Act} {w : World} {c rest : Code} (l : Nat) (J : Act → World → Prop) (μ : Act → World → Nat) (hf : findLabel c l = some (Code.skip.seq rest))
    (pass : ∀ a w, J a w → rest.wpIn F n P (Exit.jump l (fun a' w' => J a' w' ∧ μ a' w' < μ a w) Q) a w)
    (first : (∀ a w, J a w → rest.wpIn F n P (Exit.jump l J Q) a w) → c.wpIn F n P (Exit.jump l J Q) a w) : (Code.scope c).wpIn F n P Q a w := by
  refine wpIn_scope_jumps l J μ hf (first fun a w h => wpIn_mono (pass a w h) fun e a' w' he => ?_) fun a w h => wpIn_seq (wpIn_skip (pass a w h))
  cases e <;> first | exact he | exact ⟨he.1, he.2.1⟩

theorem jump_ret {l : Nat} {J : Act → World → Prop} {Q : Exit → Act → World → Prop} {a : Act} {w : World} (h : Q .ret a w) : Exit.jump l J Q .ret a w := h

def tokV (t : Tok) : Value := .agg #[.int .u8 t.kind, .int .i64 t.n, .int .i64 t.at']
def tokEnc (ys : List Y) (i : Nat) : Array Value := #[tokV (ys.getD i ⟨⟨0, 0, 0⟩, 0⟩).t, .int .i64 (ys.getD i ⟨⟨0, 0, 0⟩, 0⟩).m]

/-- where the round begins: so many told, the rest from place at_ on -/
def TkAt (s : ByteArray) (l B : Nat) (J : Nat → World → Prop) (at_ : Nat) (a : Act) (w : World) : Prop :=
  ∃ i : Nat, i ≤ (yields 0 s.data.toList).length ∧ at_ ≤ s.size ∧ (yields 0 s.data.toList).drop i = yields at_ (s.data.toList.drop at_) ∧ J i w ∧
    ∃ u4 u5 u6 u7 u8 u9 u10 u11 u12 u13 u14 u15 u16 u17 u18 u19 u20 u21 u22 u23 u24 u25 u26 u27 u28 u29 u30 u31 u32 u33 u34 u35 u36 : Value, a = { tmps := #[.func (.yield l) #[] #[], .pointer (some ⟨B, 0, none⟩), undef, .int .i64 at_, u4, u5, u6, u7, u8, u9, u10, u11, u12, u13, u14, u15, u16, u17, u18, u19, u20, u21, u22, u23, u24, u25, u26, u27, u28, u29, u30, u31, u32, u33, u34, u35, u36], defers := [] }

theorem lead_blank_from (s : ByteArray) (k : Nat) (w : World) : CallsIn Fence.wide 0 Tryd.prog 119 #[.string (s.extract k s.size), .func (.func 120) #[] #[]] w fun e w' => e = .returned (.int .i64 (lead blB (s.data.toList.drop k))) ∧ Below w.heap.size w w' := by
  have h : (s.extract k s.size).data.toList = s.data.toList.drop k := by
    rw [Lib.extract_data, List.take_of_length_le (by simp)]
  have := lead_blank (s.extract k s.size) w
  rw [h] at this
  exact callsIn_wide.2 this
theorem token_from (s : ByteArray) (hs : s.size ≤ 140737488351232) (k : Nat) (hk : k < s.size) (w : World) (hG : GL w) : CallsIn Fence.wide 0 Tryd.prog 121 #[.string (s.extract k s.size)] w fun e w' =>
    e = .returned (.tuple #[.agg #[.int .u8 (tokOf (s.data.toList.drop k)).1, .int .i64 (tokOf (s.data.toList.drop k)).2.1, .int .i64 0], .int .i64 (tokOf (s.data.toList.drop k)).2.2]) ∧ Below w.heap.size w w' := by
  have h : (s.extract k s.size).data.toList = s.data.toList.drop k := by
    rw [Lib.extract_data, List.take_of_length_le (by simp)]
  have := lex_token (s.extract k s.size) (by simp; omega) (by simp; omega) w hG
  unfold TokPost at this
  rw [h] at this
  exact callsIn_wide.2 this

set_option maxRecDepth 100000 in
set_option maxHeartbeats 1000000 in
theorem tokens_iter (s : ByteArray) (hs : s.size ≤ 140737488351232) (B : Nat) : Iter Tryd.prog 118 #[.pointer (some ⟨B, 0, none⟩)] (tokEnc (yields 0 s.data.toList)) (yields 0 s.data.toList).length
    (fun W => W.cell? ⟨B, 0, none⟩ = some (.string s) ∧ GL W) := by
  intro l J Jx W hJ hJx hF hY h0
  refine callsIn_of_wp Tryd.func118 rfl trivial ?_ rfl
  simp only [Tryd.ntmps118, List.size_toArray, List.length_cons, List.length_nil, Nat.reduceAdd, Nat.reduceSub, Array.replicate_succ, Array.replicate_zero, List.push_toArray, List.append_toArray, List.nil_append, List.cons_append]
  gi_wp2
  refine wpIn_scope_back 0 (fun a w => ∃ at_, TkAt s l B J at_ a w) (fun a _ => s.size - (intOf (a.tmps.getD 3 undef)).toNat) rfl ?_ ?_
  · rintro a w ⟨at_, i, hi, hat, hys, hj, u4, u5, u6, u7, u8, u9, u10, u11, u12, u13, u14, u15, u16, u17, u18, u19, u20, u21, u22, u23, u24, u25, u26, u27, u28, u29, u30, u31, u32, u33, u34, u35, u36, rfl⟩
    obtain ⟨hc, hG⟩ := hF i w hj
    have c1 := lead_blank_from s at_
    have hlen : (s.data.toList.drop at_).length = s.size - at_ := by simp
    have hle := lead_le blB (s.data.toList.drop at_)
    have hks : at_ + lead blB (s.data.toList.drop at_) ≤ s.size := by omega
    have hdrop : (s.data.toList.drop at_).drop (lead blB (s.data.toList.drop at_)) = s.data.toList.drop (at_ + lead blB (s.data.toList.drop at_)) := by rw [List.drop_drop]
    by_cases he : (s.data.toList.drop at_).drop (lead blB (s.data.toList.drop at_)) = []
    · rw [yields_end _ _ he] at hys
      have hk := (drop_lead_nil blB _).1 he
      have hN : (yields 0 s.data.toList).length = i := by
        have := List.drop_eq_nil_iff.1 hys; omega
      have hz : at_ + lead blB (s.data.toList.drop at_) = s.size := by omega
      generalize lead blB (s.data.toList.drop at_) = k at *
      have C1 := Lib.hid c1; clear c1
      have HZ : ((at_ : Int) + (k : Int) == (s.size : Int)) = true := by simp only [beq_iff_eq]; omega
      have HY := Lib.hid hY; clear hY
      have HF := Lib.hid hF; clear hF
      have HS := Lib.hid hys; clear hys
      have HN := Lib.hid hN; clear hN
      clear hlen he hk hz hdrop hle
      gi_wp2
      refine ⟨trivial, rfl, (C1.out _).mono ?_⟩
      rintro e w1 ⟨rfl, hb1⟩
      have hj1 := (hJ i).later hj hb1
      obtain ⟨hc1, hG1⟩ := HF.out i w1 hj1
      gi_wp2
      refine jump_ret (bodyPost_ret (results_none rfl _ _ _) rfl ?_)
      exact ⟨⟨_, rfl⟩, .inl (by rw [HN.out]; exact hj1)⟩
    · have hk1 : lead blB (s.data.toList.drop at_) ≠ (s.data.toList.drop at_).length := fun e => he ((drop_lead_nil blB _).2 e)
      have hlt : at_ + lead blB (s.data.toList.drop at_) < s.size := by omega
      have c2 := fun w => token_from s hs (at_ + lead blB (s.data.toList.drop at_)) hlt w
      rw [← hdrop] at c2
      have htl := tokOf_le ((s.data.toList.drop at_).drop (lead blB (s.data.toList.drop at_)))
      have hpl : ((s.data.toList.drop at_).drop (lead blB (s.data.toList.drop at_))).length = s.size - (at_ + lead blB (s.data.toList.drop at_)) := by rw [hdrop]; simp
      have hHZ : ((at_ : Int) + (lead blB (s.data.toList.drop at_) : Int) == (s.size : Int)) = false := by simp only [beq_eq_false_iff_ne]; omega
      by_cases h0 : (tokOf ((s.data.toList.drop at_).drop (lead blB (s.data.toList.drop at_)))).2.2 = 0
      · rw [yields_none _ _ he h0] at hys
        rw [h0] at c2
        have hiN : i < (yields 0 s.data.toList).length ∧ (yields 0 s.data.toList).length = i + 1 := by
          have := congrArg List.length hys
          simp only [List.length_drop, List.length_cons, List.length_nil] at this
          omega
        have henc : tokEnc (yields 0 s.data.toList) i = #[.agg #[.int .u8 (tokOf ((s.data.toList.drop at_).drop (lead blB (s.data.toList.drop at_)))).1, .int .i64 (tokOf ((s.data.toList.drop at_).drop (lead blB (s.data.toList.drop at_)))).2.1, .int .i64 (at_ + lead blB (s.data.toList.drop at_))], .int .i64 0] := by
          have : (yields 0 s.data.toList)[i]? = ((yields 0 s.data.toList).drop i)[0]? := by simp
          unfold tokEnc
          rw [List.getD_eq_getElem?_getD, this, hys]
          rfl
        generalize tokOf ((s.data.toList.drop at_).drop (lead blB (s.data.toList.drop at_))) = t at *
        generalize lead blB (s.data.toList.drop at_) = k at *
        have C1 := Lib.hid c1; clear c1
        have C2 := Lib.hid c2; clear c2
        have HY := Lib.hid hY; clear hY
        have HF := Lib.hid hF; clear hF
        have HE := Lib.hid henc; clear henc
        have HN := Lib.hid hiN.2
        have hin := hiN.1
        clear hlen he hdrop hle hk1 htl hpl h0 hys hiN
        gi_wp2
        refine ⟨trivial, rfl, (C1.out _).mono ?_⟩
        rintro e w1 ⟨rfl, hb1⟩
        have hj1 := (hJ i).later hj hb1
        obtain ⟨hc1, hG1⟩ := HF.out i w1 hj1
        gi_wp2
        refine ⟨trivial, rfl, (C2.out _ hG1).mono ?_⟩
        rintro e w2 ⟨rfl, hb2⟩
        have hj2 := (hJ i).later hj1 hb2
        obtain ⟨fn, tmps, assign, body, hy, hR⟩ := HY.out i _ hin ((hJ i).alloc (.cells #[.int .u8 t.1, .int .i64 t.2.1, .int .i64 (at_ + k)] 51) hj2)
        rw [HE.out] at hy
        gi_wp2
        refine ⟨rfl, hR.mono ?_⟩
        rintro e W' (⟨rfl, hj'⟩ | ⟨rfl, hjx⟩)
        · gi_wp2
          refine jump_ret (bodyPost_ret (results_none rfl _ _ _) rfl ?_)
          exact ⟨⟨_, rfl⟩, .inl (by rw [HN.out]; exact hj')⟩
        · gi_wp2
          refine jump_ret (bodyPost_ret (results_none rfl _ _ _) rfl ?_)
          exact ⟨⟨_, rfl⟩, .inr ⟨i, hin, hjx⟩⟩
      · have hys0 := hys
        rw [yields_more _ _ he h0] at hys
        have hin : i < (yields 0 s.data.toList).length := by
          have := congrArg List.length hys
          simp only [List.length_drop, List.length_cons] at this
          omega
        have henc : tokEnc (yields 0 s.data.toList) i = #[.agg #[.int .u8 (tokOf ((s.data.toList.drop at_).drop (lead blB (s.data.toList.drop at_)))).1, .int .i64 (tokOf ((s.data.toList.drop at_).drop (lead blB (s.data.toList.drop at_)))).2.1, .int .i64 (at_ + lead blB (s.data.toList.drop at_))], .int .i64 (tokOf ((s.data.toList.drop at_).drop (lead blB (s.data.toList.drop at_)))).2.2] := by
          have : (yields 0 s.data.toList)[i]? = ((yields 0 s.data.toList).drop i)[0]? := by simp
          unfold tokEnc
          rw [List.getD_eq_getElem?_getD, this, hys]
          rfl
        have hnext : (yields 0 s.data.toList).drop (i + 1) = yields (at_ + lead blB (s.data.toList.drop at_) + (tokOf ((s.data.toList.drop at_).drop (lead blB (s.data.toList.drop at_)))).2.2) (s.data.toList.drop (at_ + lead blB (s.data.toList.drop at_) + (tokOf ((s.data.toList.drop at_).drop (lead blB (s.data.toList.drop at_)))).2.2)) := by
          rw [← List.drop_drop (i := 1), hys, List.drop_succ_cons, List.drop_zero, List.drop_drop, List.drop_drop]
        generalize tokOf ((s.data.toList.drop at_).drop (lead blB (s.data.toList.drop at_))) = t at *
        obtain ⟨kd, n, m⟩ := t
        simp only at *
        generalize lead blB (s.data.toList.drop at_) = k at *
        have C1 := Lib.hid c1; clear c1
        have C2 := Lib.hid c2; clear c2
        have HY := Lib.hid hY; clear hY
        have HF := Lib.hid hF; clear hF
        have HE := Lib.hid henc; clear henc
        have HN := Lib.hid hnext; clear hnext
        have hm0 : 0 < m := by omega
        have hmz : ((m : Int) == 0) = false := by simp only [beq_eq_false_iff_ne]; omega
        have hms : at_ + k + m ≤ s.size := by omega
        clear hlen he hdrop hle hk1 htl hpl h0 hys hys0
        gi_wp2
        refine ⟨trivial, rfl, (C1.out _).mono ?_⟩
        rintro e w1 ⟨rfl, hb1⟩
        have hj1 := (hJ i).later hj hb1
        obtain ⟨hc1, hG1⟩ := HF.out i w1 hj1
        gi_wp2
        refine ⟨trivial, rfl, (C2.out _ hG1).mono ?_⟩
        rintro e w2 ⟨rfl, hb2⟩
        have hj2 := (hJ i).later hj1 hb2
        obtain ⟨fn, tmps, assign, body, hy, hR⟩ := HY.out i _ hin ((hJ i).alloc (.cells #[.int .u8 kd, .int .i64 n, .int .i64 (at_ + k)] 51) hj2)
        rw [HE.out] at hy
        gi_wp2
        refine ⟨rfl, hR.mono ?_⟩
        rintro e W' (⟨rfl, hj'⟩ | ⟨rfl, hjx⟩)
        · gi_wp2
          apply wpIn_goto
          refine ⟨rfl, ⟨at_ + k + m, i + 1, hin, hms, HN.out, hj', _, _, _, _, _, _, _, _, _, _, _, _, _, _, _, _, _, _, _, _, _, _, _, _, _, _, _, _, _, _, _, _, _, rfl⟩, ?_⟩
          simp [intOf]
          omega
        · gi_wp2
          refine jump_ret (bodyPost_ret (results_none rfl _ _ _) rfl ?_)
          exact ⟨⟨_, rfl⟩, .inr ⟨i, hin, hjx⟩⟩
  · intro hp
    gi_wp2
    apply wpIn_label
    rename_i hK
    refine hK _ _ (hp _ _ ⟨0, 0, Nat.zero_le _, Nat.zero_le _, rfl, h0, _, _, _, _, _, _, _, _, _, _, _, _, _, _, _, _, _, _, _, _, _, _, _, _, _, _, _, _, _, _, _, _, _, rfl⟩)
end Go.Proofs.YtafgincpoahefaaDoor
