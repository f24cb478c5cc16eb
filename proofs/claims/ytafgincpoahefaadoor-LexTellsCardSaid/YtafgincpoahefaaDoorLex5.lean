/-
  lex: All.
-/
import Derived.Test.YtafgincpoahefaaDoorLex4
import Derived.RegionIn
import Derived.BigRegionIn
namespace Go.Proofs.YtafgincpoahefaaDoor
open Go.RowKit
attribute [local go_sem] Oper.semAt_some

theorem Stable.holds {B : Nat} (b : Nat) (t : TypeId) (cs : Array Value) : Stable B (fun W => Holds W b t cs) :=
  fun W W' row hs hg hr => hs.grown hg (fun e => by
    obtain ⟨_, o, ho, hc⟩ := hr b e.symm
    have hs' : W.heap[b]? = some (.cells cs t (0, 0)) := hs
    rw [hs'] at ho; cases ho; cases hc)

theorem lex_tokens (s : ByteArray) (w : World) : Calls Tryd.prog 89 #[.string s] w fun e w' =>
    e = .returned (.func (.func 118) #[] #[.pointer (some ⟨w.heap.size, 0, none⟩)]) ∧ w.alloc (.cells #[.string s] 9) = w' := by
  go_enter Tryd.func89, Tryd.ntmps89
  go_wp2_with fail
  go_ret
  exact ⟨rfl, rfl⟩
theorem enters_tokens : ∀ args w, (callFunc 118 args).run Tryd.prog w = .ok (.enter 118 args) w := enters_of Tryd.func118 (by kernel_rfl) rfl

theorem keeps_drew' {W W' : World} (k : KeepsOthers W W') : KeepsOthers W W'.drew := ⟨k.size, k.same⟩
theorem yields_len : ∀ (n a : Nat) (l : List UInt8), l.length ≤ n → (yields a l).length ≤ l.length := by
  intro n
  induction n with
  | zero =>
    intro a l hn
    obtain rfl : l = [] := List.eq_nil_of_length_eq_zero (by omega)
    rw [yields_end a [] (by simp)]
    simp
  | succ n ih =>
    intro a l hn
    by_cases h : l.drop (lead blB l) = []
    · rw [yields_end a l h]; simp
    · have hpos : 0 < (l.drop (lead blB l)).length := by
        rcases e : l.drop (lead blB l) with _ | ⟨c, r⟩
        · exact absurd e h
        · simp
      by_cases h0 : (tokOf (l.drop (lead blB l))).2.2 = 0
      · rw [yields_none a l h h0]
        simp only [List.length_drop] at hpos
        simp only [List.length_cons, List.length_nil]; omega
      · rw [yields_more a l h h0]
        have := ih (a + lead blB l + (tokOf (l.drop (lead blB l))).2.2) ((l.drop (lead blB l)).drop (tokOf (l.drop (lead blB l))).2.2) (by simp only [List.length_drop] at hpos ⊢; omega)
        simp only [List.length_drop] at hpos this
        simp only [List.length_cons]; omega
theorem new_cells (W : World) (cs : List Value) (t : TypeId) (j : Nat) (u : Value) (hj : cs[j]? = some u) : (W.alloc (.cells cs.toArray t)).cell? ((⟨W.heap.size, 0, none⟩ : Addr).add j) = some u := by
  have hb : (W.alloc (.cells cs.toArray t)).heap[W.heap.size]? = some (.cells cs.toArray t) := World.alloc_heap_new W _
  have e : (⟨W.heap.size, 0, none⟩ : Addr).add j = ⟨W.heap.size, j, none⟩ := by unfold Addr.add; split <;> simp_all
  rw [e, cell_of_row _ _ _ _ _ _ hb]
  simpa using hj
def tokCells (ts : List Tok) : List Value := ts.flatMap fun t => [.int .u8 t.kind, .int .i64 t.n, .int .i64 t.at']
theorem tokCells_snoc (ts : List Tok) (t : Tok) : tokCells (ts ++ [t]) = tokCells ts ++ [.int .u8 t.kind, .int .i64 t.n, .int .i64 t.at'] := by simp [tokCells]

/-- what All tells -/
def AllPost (l : List UInt8) (w : World) (e : Ending) (w' : World) : Prop :=
  ∃ v, e = .returned (.tuple #[v, .int .i64 (allOf l).2.1, .int .i64 (allOf l).2.2]) ∧ w'.ownsRow w.heap.size 51 3 v (allOf l).1.length (tokCells (allOf l).1) ∧ Below w.heap.size w w'
theorem allPost_of {l : List UInt8} {w w' : World} {v u : Value} {ts : List Tok} {p c : Int} (h : allOf l = (ts, p, c)) (hu : u = .tuple #[v, .int .i64 p, .int .i64 c]) (hr : w'.ownsRow w.heap.size 51 3 v ts.length (tokCells ts)) (hb : Below w.heap.size w w') :
    AllPost l w (.returned u) w' := by
  unfold AllPost; rw [h]; exact ⟨v, by rw [hu], hr, hb⟩

theorem all_long (s : ByteArray) (hs : s.size ≤ 140737488351232) (h : 2000 < s.size) (w : World) : Calls Tryd.prog 50 #[.string s] w (AllPost s.data.toList w) := by
  have ha : allOf s.data.toList = ([], 2000, 91) := by unfold allOf; rw [if_pos (by simpa using h)]
  have HA := Lib.hid ha; clear ha
  refine calls_marks Tryd.func50 rfl ?_
  simp only [Tryd.ntmps50, List.size_toArray, List.length_cons, List.length_nil, Nat.reduceAdd, Nat.reduceSub, Array.replicate_succ, Array.replicate_zero, List.push_toArray, List.append_toArray, List.nil_append, List.cons_append]
  go_wp2_with fail
  refine ret_nomark (v := .tuple #[.slice none 0 0, .int .i64 2000, .int .i64 91]) (by simp [results, Tryd.results50, go_sem]) (allPost_of HA.out rfl (World.ownsRow_nil _ _ _ _) ?_)
  exact (((Below.refl _ _).alloc (Nat.le_refl _) _).alloc (by simp) _).alloc (by simp; omega) _

/-- ahead of round i -/
def AllInv (s : ByteArray) (w : World) (i : Nat) (W : World) : Prop :=
  (∃ v, Boxed W w.heap.size 46 v ∧ W.ownsRow w.heap.size 51 3 v i (tokCells (((yields 0 s.data.toList).take i).map (·.t)))) ∧
    Boxed W (w.heap.size + 1) 3 (.int .i64 0) ∧ Boxed W (w.heap.size + 1 + 1) 34 (.int .i64 0) ∧ Boxed W (w.heap.size + 1 + 1 + 1) 9 (.string s) ∧ Below w.heap.size w W ∧ good ((yields 0 s.data.toList).take i)
def AllOut (s : ByteArray) (w : World) (c : Code) (i : Nat) (W : World) : Prop :=
  c = .ret ∧ Boxed W w.heap.size 46 (.slice none 0 0) ∧ Boxed W (w.heap.size + 1) 3 (.int .i64 ((yields 0 s.data.toList).getD i ⟨⟨0, 0, 0⟩, 0⟩).t.at') ∧ Boxed W (w.heap.size + 1 + 1) 34 (.int .i64 70) ∧ Below w.heap.size w W ∧
    good ((yields 0 s.data.toList).take i) ∧ ((yields 0 s.data.toList).getD i ⟨⟨0, 0, 0⟩, 0⟩).m = 0

set_option maxRecDepth 100000 in
set_option maxHeartbeats 1000000 in
theorem all_short (s : ByteArray) (h : s.size ≤ 2000) (w : World) (hG : GL w) : Calls Tryd.prog 50 #[.string s] w (AllPost s.data.toList w) := by
  refine calls_marks Tryd.func50 rfl ?_
  simp only [Tryd.ntmps50, List.size_toArray, List.length_cons, List.length_nil, Nat.reduceAdd, Nat.reduceSub, Array.replicate_succ, Array.replicate_zero, List.push_toArray, List.append_toArray, List.nil_append, List.cons_append]
  go_wp2_with fail
  refine (lex_tokens _ _).mono ?_
  rintro e w1 ⟨rfl, rfl⟩
  go_wp2_with fail
  obtain ⟨i0, hi, hz0, hz1, hz2⟩ := info_parts (by kernel_rfl : (Tryd.prog.info? 51).map (fun i => (i.zero, i.size, i.bytes)) = some (some (.agg #[.int .u8 0, .int .i64 0, .int .i64 0]), 3, 24))
  refine wp_range_ax rfl enters_tokens (tokens_iter s (by omega) (w.heap.size + 1 + 1 + 1)) (fun _ => rfl) (AllInv s w) (AllOut s w) ?_ ?_ ?_ ?_
    (fun i a' W => ∃ b, w.heap.size + 1 + 1 + 1 < b ∧ Holds W b 51 #[.int .u8 ((yields 0 s.data.toList).getD i ⟨⟨0, 0, 0⟩, 0⟩).t.kind, .int .i64 ((yields 0 s.data.toList).getD i ⟨⟨0, 0, 0⟩, 0⟩).t.n, .int .i64 ((yields 0 s.data.toList).getD i ⟨⟨0, 0, 0⟩, 0⟩).t.at'] ∧
      a' = { tmps := #[.string s, undef, .pointer (some ⟨w.heap.size, 0, none⟩), .pointer (some ⟨w.heap.size + 1, 0, none⟩), .pointer (some ⟨w.heap.size + 1 + 1, 0, none⟩), .pointer (some ⟨b, 0, none⟩), .int .i64 ((yields 0 s.data.toList).getD i ⟨⟨0, 0, 0⟩, 0⟩).m,
        .string s, .int .i64 s.size, .bool (decide (2000 < (s.size : Int))), .string s, .func (.func 118) #[] #[.pointer (some ⟨w.heap.size + 1 + 1 + 1, 0, none⟩)],
        tokV ((yields 0 s.data.toList).getD i ⟨⟨0, 0, 0⟩, 0⟩).t, .int .i64 ((yields 0 s.data.toList).getD i ⟨⟨0, 0, 0⟩, 0⟩).m, undef, undef, undef, undef, undef, undef, undef, undef, undef, undef, undef, undef, undef, undef], defers := [] })
    ?_ ?_ ?_ ?_ ?_
  · intro i
    exact (Stable.row _ _ _ _ _ _ _).and ((Stable.boxed _ _ _).and ((Stable.boxed _ _ _).and ((Stable.boxed _ _ _).and ((Stable.below (by simp; omega) (Nat.le_refl _)).and (Stable.pure _)))))
  · intro c i
    exact (Stable.pure _).and ((Stable.boxed _ _ _).and ((Stable.boxed _ _ _).and ((Stable.boxed _ _ _).and ((Stable.below (by simp; omega) (Nat.le_refl _)).and ((Stable.pure _).and (Stable.pure _))))))
  · rintro i W ⟨_, _, _, h3, hB, _⟩
    exact ⟨h3.cell, hG.mono' hB (Nat.le_refl _)⟩
  · refine ⟨⟨_, (((boxed_new rfl _ _).alloc _).alloc _).alloc _, World.ownsRow_nil _ _ _ _⟩, ((boxed_new (by simp) _ _).alloc _).alloc _, (boxed_new (by simp) _ _).alloc _, boxed_new (by simp) _ _, ?_, fun y hy => by simp at hy⟩
    exact ((((Below.refl _ _).alloc (Nat.le_refl _) _).alloc (by simp) _).alloc (by simp; omega) _).alloc (by simp; omega) _
  · intro i a'
    exact Stable.ex fun b => (Stable.pure _).and ((Stable.holds _ _ _).and (Stable.pure _))
  · intro l i W K hi hI hK
    have hsz : w.heap.size + 1 + 1 + 1 < W.heap.size := hI.2.2.2.1.lt
    have hI2 := fun o => (show Stable w.heap.size (AllInv s w i) from (Stable.row _ _ _ _ _ _ _).and ((Stable.boxed _ _ _).and ((Stable.boxed _ _ _).and ((Stable.boxed _ _ _).and ((Stable.below (Nat.le_refl _) (Nat.le_refl _)).and (Stable.pure _)))))).alloc o hI
    have HI := Lib.hid hI2; clear hI2 hI
    unfold tokEnc tokV
    unfold tokV at hK
    generalize (yields 0 s.data.toList).getD i ⟨⟨0, 0, 0⟩, 0⟩ = y at *
    gi_wp2
    exact hK _ _ ((KeepsOthers.alloc W _).from _) (HI.out _) ⟨W.heap.size, hsz, Holds.fresh _ _ _, rfl⟩
  · rintro l i a' W hl hiN ⟨⟨v, hv, hr⟩, h1, h2, h3, hB, hg⟩ ⟨b, hb, hh, rfl⟩
    have hyi : (yields 0 s.data.toList)[i]? = some ((yields 0 s.data.toList).getD i ⟨⟨0, 0, 0⟩, 0⟩) := by simp [hiN]
    have HYI := Lib.hid hyi; clear hyi
    by_cases hm : ((yields 0 s.data.toList).getD i ⟨⟨0, 0, 0⟩, 0⟩).m = 0
    · have hout : AllOut s w .ret i = fun W => (Code.ret = .ret ∧ Boxed W w.heap.size 46 (.slice none 0 0) ∧ Boxed W (w.heap.size + 1) 3 (.int .i64 ((yields 0 s.data.toList).getD i ⟨⟨0, 0, 0⟩, 0⟩).t.at') ∧ Boxed W (w.heap.size + 1 + 1) 34 (.int .i64 70) ∧ Below w.heap.size w W ∧
    good ((yields 0 s.data.toList).take i) ∧ ((yields 0 s.data.toList).getD i ⟨⟨0, 0, 0⟩, 0⟩).m = 0) := rfl
      have HO := Lib.hid hout; clear hout
      have HG := Lib.hid hg; clear hg
      generalize hy : (yields 0 s.data.toList).getD i ⟨⟨0, 0, 0⟩, 0⟩ = y at *
      obtain ⟨⟨kd, n, at_⟩, m⟩ := y
      simp only at hm
      subst hm
      have HY := Lib.hid hy; clear hy
      have hc2 : W.cell? ⟨b, 2, none⟩ = some (.int .i64 at_) := hh.cell 2
      have hbv := hv.cell
      have hb1 := h1.cell
      have hb2 := h2.cell
      have hf0 := hv.frozen
      have hf1 := h1.frozen
      have hf2 := h2.frozen
      gi_wp2
      refine wpIn_round_held l 2 (by kernel_rfl) (by kernel_rfl) (fun ⟨_, _, h⟩ => h) (by kernel_rfl) (fun W' => W'.cell? ⟨b, 2, none⟩ = some (.int .i64 at_)) hc2 (fun _ _ _ _ _ h => h) ?_
      simp only [List.take_succ_cons, List.take_zero, List.drop_succ_cons, List.drop_zero]
      refine heads_cons (by rfl) (fun w' hS => by (go_simp <;> rfl)) ?_
      refine heads_cons (by rfl) (fun w' hS => by (go_simp <;> rfl)) ?_
      simp only [Act.put, List.setIfInBounds_toArray, List.set_cons_succ, List.set_cons_zero]
      refine heads_nil ?_
      refine opL_do rfl ?_
      go_simp
      refine opL_do rfl ?_
      go_simp
      refine opL_do rfl ?_
      go_simp
      gi_wp2
      refine ⟨(keeps_drew' (((KeepsOthers.setCell W ⟨w.heap.size, 0, none⟩ (.slice none 0 0)).trans (KeepsOthers.setCell _ ⟨w.heap.size + 1, 0, none⟩ (.int .i64 at_))).trans (KeepsOthers.setCell _ ⟨w.heap.size + 1 + 1, 0, none⟩ (.int .i64 70)))).from _, rfl, ?_, ?_, ?_, ?_, HG.out, by rw [HY.out]⟩
      · exact ((hv.set _).other (by omega) _).other (by omega) _
      · rw [HY.out]; exact ((h1.other (by omega) _).set _).other (by omega) _
      · exact ((h2.other (by omega) _).other (by omega) _).set _
      · exact (((hB.setCell (p := ⟨w.heap.size, 0, none⟩) (Nat.le_refl _) _).setCell (p := ⟨w.heap.size + 1, 0, none⟩) (by simp) _).setCell (p := ⟨w.heap.size + 1 + 1, 0, none⟩) (by simp; omega) _).drew
    · have hgn : good ((yields 0 s.data.toList).take (i + 1)) := by
        rw [List.take_succ_eq_append_getElem hiN]
        intro y hy
        rcases List.mem_append.1 hy with hy | hy
        · exact hg y hy
        · obtain rfl := List.mem_singleton.1 hy
          simpa [List.getD_eq_getElem?_getD, hiN] using hm
      have htk : tokCells (((yields 0 s.data.toList).take (i + 1)).map (·.t)) = tokCells (((yields 0 s.data.toList).take i).map (·.t)) ++ [.int .u8 ((yields 0 s.data.toList).getD i ⟨⟨0, 0, 0⟩, 0⟩).t.kind, .int .i64 ((yields 0 s.data.toList).getD i ⟨⟨0, 0, 0⟩, 0⟩).t.n, .int .i64 ((yields 0 s.data.toList).getD i ⟨⟨0, 0, 0⟩, 0⟩).t.at'] := by
        rw [List.take_succ_eq_append_getElem hiN, List.map_append, List.map_singleton, tokCells_snoc]
        simp [List.getD_eq_getElem?_getD, hiN]
      have hi2 : i < 2001 := by
        have := yields_len _ 0 s.data.toList (Nat.le_refl _)
        have hl : s.data.toList.length = s.size := by simp
        omega
      have HT := Lib.hid htk; clear htk
      have HG := Lib.hid hgn; clear hgn hg
      generalize hy : (yields 0 s.data.toList).getD i ⟨⟨0, 0, 0⟩, 0⟩ = y at *
      obtain ⟨⟨kd, n, at_⟩, m⟩ := y
      simp only at hm
      have hmz : ((m : Int) == 0) = false := by simp only [beq_eq_false_iff_ne]; omega
      obtain ⟨hc0, hc1, hc2⟩ := tok_cells hh
      have hbv := hv.cell
      clear hm hy
      have hn0 : w.heap.size ≤ (W.alloc (.cells #[.int .u8 kd, .int .i64 n, .int .i64 at_] 51)).heap.size := by have := hB.size; simp; omega
      have hz0' := boxed_new (rfl : W.heap.size = W.heap.size) 51 (.int .u8 kd)
      gi_wp2_with (gi_at_builtin; refine wpListIn_append_own _ rfl (.tmp 18) (.tmp 20) 46 rfl w.heap.size 51 i0 (.agg #[.int .u8 0, .int .i64 0, .int .i64 0]) 3 24 Tryd.underlying46 hi hz0 hz1 hz2 rfl (by decide) v i (tokCells (((yields 0 s.data.toList).take i).map (·.t))) rfl (hr.alloc _) ⟨W.heap.size, 0, none⟩ 1 1 [.int .u8 kd, .int .i64 n, .int .i64 at_] rfl rfl ?c1 ?c2 ?c3 ?c4 hn0 ?_)
      case c2 => exact ⟨rfl, rfl, rfl⟩
      case c3 => unfold maxLen; omega
      case c4 => omega
      intro v' w1 hown' hgrow _
      obtain ⟨g', cap', rfl⟩ := ownsRow_form hown'
      obtain ⟨hv1, hv2, hr2, hk2, hb2⟩ := hv.appended (by decide) hr hB.size (Nat.le_refl _) hown' hgrow
      have far : ∀ r o, W.heap[r]? = some o → v.ownBlock ≠ some r → w1.heap[r]? = some o := fun r o hr' hne =>
        (hgrow.block r (by have := (Array.getElem?_eq_some_iff.1 hr').1; simp; omega) (fun e => hne e.symm)).trans ((Below.heap_alloc W _ r (Array.getElem?_eq_some_iff.1 hr').1).trans hr')
      have k1 : Boxed w1 (w.heap.size + 1) 3 (.int .i64 0) := far _ _ h1 (fun e => (h1.not_row (by decide) hr) e.symm)
      have k2 : Boxed w1 (w.heap.size + 1 + 1) 34 (.int .i64 0) := far _ _ h2 (fun e => (h2.not_row (by decide) hr) e.symm)
      have k3 : Boxed w1 (w.heap.size + 1 + 1 + 1) 9 (.string s) := far _ _ h3 (fun e => (h3.not_row (by decide) hr) e.symm)
      have kv := hv1.cell
      have kf := hv1.frozen
      gi_wp2
      refine ⟨hk2.from _, ⟨_, hv2, ?_⟩, k1.other (by omega) _, k2.other (by omega) _, k3.other (by omega) _, hB.trans hb2, HG.out⟩
      rw [HT.out]
      simpa using hr2
  · rintro D W hD ⟨⟨v, hv, hr⟩, h1, h2, h3, hB, hg⟩ hKd
    have hall : allOf s.data.toList = ((yields 0 s.data.toList).map (·.t) ++ [⟨0, 0, s.data.toList.length⟩], 0, 0) := by
      unfold allOf
      rw [if_neg (by simp; omega), List.find?_eq_none.2 ?_]
      intro y hy
      rw [List.take_length] at hg
      have := hg y hy
      simpa using this
    rw [List.take_length] at hr
    have hlen := yields_len _ 0 s.data.toList (Nat.le_refl _)
    rw [show s.data.toList.length = s.size from by simp] at hall hlen
    have HA := Lib.hid hall; clear hall hg
    have hbv := hv.cell
    have hn0 : w.heap.size ≤ (W.alloc (.cells #[.int .u8 0, .int .i64 0, .int .i64 s.size] 51)).heap.size := by have := hB.size; simp; omega
    go_wp2_with (at_builtin; refine wpList_append_own _ rfl (.tmp 22) (.tmp 26) 46 rfl w.heap.size 51 i0 (.agg #[.int .u8 0, .int .i64 0, .int .i64 0]) 3 24 Tryd.underlying46 hi hz0 hz1 hz2 rfl (by decide) v (yields 0 s.data.toList).length (tokCells ((yields 0 s.data.toList).map (·.t))) rfl (hr.alloc _) ⟨W.heap.size, 0, none⟩ 1 1 [.int .u8 0, .int .i64 0, .int .i64 s.size] rfl rfl ?d1 ?d2 ?d3 ?d4 hn0 ?_)
    case d1 => exact new_cells W [.int .u8 0, .int .i64 0, .int .i64 s.size] 51
    case d2 =>
      intro u hu
      simp only [List.mem_cons, List.not_mem_nil, or_false] at hu
      rcases hu with rfl | rfl | rfl <;> rfl
    case d3 => unfold maxLen; omega
    case d4 => omega
    intro v' w1 hown' hgrow _
    obtain ⟨g', cap', rfl⟩ := ownsRow_form hown'
    obtain ⟨hv1, hv2, hr2, hk2, hb2⟩ := hv.appended (by decide) hr hB.size (Nat.le_refl _) hown' hgrow
    have far : ∀ r o, W.heap[r]? = some o → v.ownBlock ≠ some r → w1.heap[r]? = some o := fun r o hr' hne =>
      (hgrow.block r (by have := (Array.getElem?_eq_some_iff.1 hr').1; simp; omega) (fun e => hne e.symm)).trans ((Below.heap_alloc W _ r (Array.getElem?_eq_some_iff.1 hr').1).trans hr')
    have k1 : Boxed w1 (w.heap.size + 1) 3 (.int .i64 0) := far _ _ h1 (fun e => (h1.not_row (by decide) hr) e.symm)
    have k2 : Boxed w1 (w.heap.size + 1 + 1) 34 (.int .i64 0) := far _ _ h2 (fun e => (h2.not_row (by decide) hr) e.symm)
    have kv := hv1.cell
    have kf := hv1.frozen
    have kv1 := k1.cell
    have kf1 := k1.frozen
    have kv2 := k2.cell
    have kf2 := k2.frozen
    go_wp2_with fail
    have g1 := (hv2.other (show w.heap.size ≠ w.heap.size + 1 by omega) (.int .i64 0)).other (show w.heap.size ≠ w.heap.size + 1 + 1 by omega) (.int .i64 0)
    have g2 := ((k1.other (show w.heap.size + 1 ≠ w.heap.size by omega) (.slice g' ((yields 0 s.data.toList).length + 1) cap')).set (.int .i64 0)).other (show w.heap.size + 1 ≠ w.heap.size + 1 + 1 by omega) (.int .i64 0)
    have g3 := ((k2.other (show w.heap.size + 1 + 1 ≠ w.heap.size by omega) (.slice g' ((yields 0 s.data.toList).length + 1) cap')).other (show w.heap.size + 1 + 1 ≠ w.heap.size + 1 by omega) (.int .i64 0)).set (.int .i64 0)
    have hKe := (KeepsOthers.setCell _ ⟨w.heap.size + 1 + 1, 0, none⟩ (.int .i64 0)).same D _ ((KeepsOthers.setCell _ ⟨w.heap.size + 1, 0, none⟩ (.int .i64 0)).same D _ (hk2.same D _ hKd rfl) rfl) rfl
    have hr3 := (hr2.kept (grownBy_setCell' _ (w.heap.size + 1) (.int .i64 0)) (.inr ((k1.other (show w.heap.size + 1 ≠ w.heap.size by omega) _).not_row (by decide) hr2).symm))
    have hr4 := hr3.kept (grownBy_setCell' _ (w.heap.size + 1 + 1) (.int .i64 0)) (.inr (((k2.other (show w.heap.size + 1 + 1 ≠ w.heap.size by omega) _).other (show w.heap.size + 1 + 1 ≠ w.heap.size + 1 by omega) _).not_row (by decide) hr3).symm)
    have q1 := putObj_cell (o' := .deferred none) hKe rfl g1.cell
    have q2 := putObj_cell (o' := .deferred none) hKe rfl g2.cell
    have q3 := putObj_cell (o' := .deferred none) hKe rfl g3.cell
    refine ret_mark (v := .tuple #[.slice g' ((yields 0 s.data.toList).length + 1) cap', .int .i64 0, .int .i64 0]) hKe (by simp [results, Tryd.results50, go_sem, q1, q2, q3]) (allPost_of HA.out rfl ?_ (putObj_below (((hB.trans hb2).setCell (p := ⟨w.heap.size + 1, 0, none⟩) (by simp) _).setCell (p := ⟨w.heap.size + 1 + 1, 0, none⟩) (by simp; omega) _) hKe (by simp at hD; omega)))
    rw [tokCells_snoc]
    have hr5 := ownsRow_putObj hr4 (.deferred none) hKe rfl
    simpa using hr5
  · rintro D c i W hD hiN ⟨rfl, h1, h2, h3, hB, hg, hm⟩ hKd
    have hall : allOf s.data.toList = ([], ((yields 0 s.data.toList).getD i ⟨⟨0, 0, 0⟩, 0⟩).t.at', 70) := by
      have hf : (yields 0 s.data.toList).find? (fun y => y.m == 0) = some ((yields 0 s.data.toList).getD i ⟨⟨0, 0, 0⟩, 0⟩) := by
        rw [List.find?_eq_some_iff_append]
        refine ⟨by simpa using hm, (yields 0 s.data.toList).take i, (yields 0 s.data.toList).drop (i + 1), ?_, fun y hy => by have := hg y hy; simpa using this⟩
        rw [List.getD_eq_getElem?_getD, List.getElem?_eq_getElem hiN, Option.getD_some, ← List.drop_eq_getElem_cons hiN, List.take_append_drop]
      unfold allOf
      rw [if_neg (by simp; omega), hf]
    have HA := Lib.hid hall; clear hall hg hm
    generalize ((yields 0 s.data.toList).getD i ⟨⟨0, 0, 0⟩, 0⟩).t.at' = p at *
    apply wp_ret
    have q1 := putObj_cell (o' := .deferred none) hKd rfl h1.cell
    have q2 := putObj_cell (o' := .deferred none) hKd rfl h2.cell
    have q3 := putObj_cell (o' := .deferred none) hKd rfl h3.cell
    refine ret_mark (v := .tuple #[.slice none 0 0, .int .i64 p, .int .i64 70]) hKd (by simp [results, Tryd.results50, go_sem, q1, q2, q3]) (allPost_of HA.out rfl (World.ownsRow_nil _ _ _ _) (putObj_below hB hKd (by simp at hD; omega)))

theorem lex_All (s : ByteArray) (hs : s.size ≤ 140737488351232) (w : World) (hG : GL w) : Calls Tryd.prog 50 #[.string s] w (AllPost s.data.toList w) := by
  by_cases h : s.size ≤ 2000
  · exact all_short s h w hG
  · exact all_long s hs (by omega) w
end Go.Proofs.YtafgincpoahefaaDoor
