/-
  print: term, the iterator over a term's parts.
  print: term, the iterator over the parts of a term of two names; a term's text.
-/
import Derived.Test.YtafgincpoahefaaDoorPr4
namespace Go.Proofs.YtafgincpoahefaaDoor
open Go.RowKit
attribute [local go_sem] Oper.semAt_some

theorem enters_term : ∀ args w, (callFunc 102 args).run Tryd.prog w = .ok (.enter 102 args) w := enters_of Tryd.func102 (by kernel_rfl) rfl
theorem print_term (t : Tm) (w : World) : Calls Tryd.prog 67 #[tmA t] w fun e w' =>
    e = .returned (.func (.func 102) #[] #[.pointer (some ⟨w.heap.size, 0, none⟩)]) ∧ w.alloc (.cells (tmV t).toArray 29) = w' := by
  obtain ⟨k, n, s, r⟩ := t
  simp only [tmA, tmV]
  go_enter Tryd.func67, Tryd.ntmps67
  go_wp2_with fail
  go_ret
  exact ⟨rfl, rfl⟩
/-- the parts of a term's text -/
def tailL (n : Int) : List (List UInt8) := if 0 < n then [[43], Lib.itoa n] else if n < 0 then [Lib.itoa n] else []
def partsOf (t : Tm) : List (List UInt8) :=
  if t.kind = 0 then [Lib.itoa t.n] else [headC t.kind.toNat, [40], letterT t.s] ++ ((if twoB t = true then [[44], letterT t.r] else []) ++ ([[41]] ++ tailL t.n))
theorem parts_flat (t : Tm) : (partsOf t).flatten = termT0 t := by
  unfold partsOf termT0 tailL tailT
  by_cases h0 : t.kind = 0
  · simp [h0]
  · by_cases h1 : twoB t = true <;> by_cases h2 : 0 < t.n <;> by_cases h3 : t.n < 0 <;> simp [h0, h1, h2, h3]
theorem names_row {w : World} {B : Nat} {v : Value} {l : List Int} {n : Nat} (h : w.ownsRow B 3 1 v n (l.map (Value.int .i64))) (hn : l.length = n) (h0 : 0 < n) :
    ∃ g cap cur, v = .slice (some ⟨g, 0, none⟩) n cap ∧ n ≤ cap ∧ Holds w g 3 cur ∧ ∀ (i : Nat) (x : Int), l[i]? = some x → cur[i]? = some (.int .i64 x) := by
  rcases h.2 with ⟨_, h1⟩ | ⟨g, cap, cur, rfl, h1, h2, h3, h4⟩
  · omega
  · have h2' : Holds w g 3 cur := h2
    refine ⟨g, cap, cur, rfl, by omega, h2', fun i x hx => ?_⟩
    have hi : i < n := by rw [← hn]; exact (List.getElem?_eq_some_iff.1 hx).1
    have hc := h.cellAt i (by omega)
    rw [h2'.cell i] at hc
    rw [hc, List.getElem?_map, hx]; rfl

set_option maxRecDepth 100000 in
set_option maxHeartbeats 2000000 in
theorem term_iter_num (n s r : Int) (B : Nat) (hn : bnd n) : IterT Tryd.prog 102 #[.pointer (some ⟨B, 0, none⟩)] (fun i => #[sV (atL [Lib.itoa n] i)]) 1
    (fun W => Holds W B 29 #[.int .u8 0, .int .i64 n, .int .i64 s, .int .i64 r] ∧ GP W) 3 := by
  intro l J W hJ hF hY h0
  obtain ⟨hh, hG⟩ := hF 0 W h0
  have cn := (callsIn_wide (n := 0)).2 (num_TextP n hn W hG)
  obtain ⟨c0, c1, c2, c3⟩ : W.cell? ⟨B, 0, none⟩ = some (.int .u8 0) ∧ W.cell? ⟨B, 1, none⟩ = some (.int .i64 n) ∧ W.cell? ⟨B, 2, none⟩ = some (.int .i64 s) ∧ W.cell? ⟨B, 3, none⟩ = some (.int .i64 r) := ⟨hh.cell 0, hh.cell 1, hh.cell 2, hh.cell 3⟩
  have hl := hh.size
  have HJ := Lib.hid hJ; clear hJ
  have HY := Lib.hid hY; clear hY hF
  have CN := Lib.hid cn; clear cn
  refine callsIn_of_wp Tryd.func102 rfl trivial ?_ rfl
  simp only [Tryd.ntmps102, List.size_toArray, List.length_cons, List.length_nil, Nat.reduceAdd, Nat.reduceSub, Array.replicate_succ, Array.replicate_zero, List.push_toArray, List.append_toArray, List.nil_append, List.cons_append]
  gi_wp2
  refine ⟨trivial, rfl, CN.out.mono ?_⟩
  rintro e w1 ⟨rfl, hb1⟩
  have hj1 := (HJ.out 0).later h0 hb1
  obtain ⟨fn, tmps, assign, body, hy, hR⟩ := HY.out 0 w1 (by simp) hj1
  rw [show (#[sV (atL [Lib.itoa n] 0)] : Array Value) = #[sV (Lib.itoa n)] from rfl] at hy
  gi_wp2
  refine ⟨rfl, hR.mono ?_⟩
  rintro e W' ⟨rfl, hj2, _⟩
  gi_wp2
  refine bodyPost_ret (results_none rfl _ _ _) rfl ?_
  exact ⟨⟨_, rfl⟩, hj2⟩

set_option maxRecDepth 100000 in
set_option maxHeartbeats 4000000 in
theorem term_iter_one (k n s r : Int) (hk0 : 0 < k) (hk7 : k < 7) (htw : twoB ⟨k, n, s, r⟩ = false) (B : Nat) (hn : bnd n) (T : List (List UInt8)) (hT : tailL n = T) : IterT Tryd.prog 102 #[.pointer (some ⟨B, 0, none⟩)] (fun i => #[sV (atL ([headC k.toNat, [40], letterT s, [41]] ++ T) i)]) (4 + T.length)
    (fun W => Holds W B 29 #[.int .u8 k, .int .i64 n, .int .i64 s, .int .i64 r] ∧ GP W) 3 := by
  intro l J W hJ hF hY h0
  obtain ⟨hh, hG⟩ := hF 0 W h0
  have hkz : (k == 0) = false := by simp only [beq_eq_false_iff_ne]; omega
  have cn := (callsIn_wide (n := 0)).2 (tree_Names ⟨k, n, s, r⟩ W)
  rw [names_one (by simp only; omega) htw] at cn
  simp only [tmA] at cn
  obtain ⟨c0, c1, c2, c3⟩ : W.cell? ⟨B, 0, none⟩ = some (.int .u8 k) ∧ W.cell? ⟨B, 1, none⟩ = some (.int .i64 n) ∧ W.cell? ⟨B, 2, none⟩ = some (.int .i64 s) ∧ W.cell? ⟨B, 3, none⟩ = some (.int .i64 r) := ⟨hh.cell 0, hh.cell 1, hh.cell 2, hh.cell 3⟩
  have hl := hh.size
  have HJ := Lib.hid hJ; clear hJ
  have HY := Lib.hid hY; clear hY
  have HF := Lib.hid hF; clear hF htw
  have CN := Lib.hid cn; clear cn hG
  refine callsIn_of_wp Tryd.func102 rfl trivial ?_ rfl
  simp only [Tryd.ntmps102, List.size_toArray, List.length_cons, List.length_nil, Nat.reduceAdd, Nat.reduceSub, Array.replicate_succ, Array.replicate_zero, List.push_toArray, List.append_toArray, List.nil_append, List.cons_append]
  gi_wp2
  refine ⟨trivial, rfl, CN.out.mono ?_⟩
  rintro e w1 ⟨v, rfl, hrow, hb1⟩
  have hj1 := (HJ.out 0).later h0 hb1
  obtain ⟨g, cap, cur, rfl, hcap, hcur, hget⟩ := names_row hrow rfl (by simp)
  obtain ⟨hh1, hG1⟩ := HF.out 0 w1 hj1
  obtain ⟨d0, d1⟩ : w1.cell? ⟨B, 0, none⟩ = some (.int .u8 k) ∧ w1.cell? ⟨B, 1, none⟩ = some (.int .i64 n) := ⟨hh1.cell 0, hh1.cell 1⟩
  obtain ⟨m, rfl⟩ := Int.eq_ofNat_of_zero_le (show 0 ≤ k by omega)
  have hhd := hG1.head m (by omega)
  obtain ⟨fn, tmps, assign, body, hy, hR⟩ := HY.out 0 w1 (by omega) hj1
  rw [show (#[sV (atL ([headC ((m : Nat) : Int).toNat, [40], letterT s, [41]] ++ T) 0)] : Array Value) = #[.string (headS m)] from rfl] at hy
  clear hh1 hG1 hrow hh c0 c1 c2 c3
  gi_wp2
  refine ⟨rfl, hR.mono ?_⟩
  rintro e W2 ⟨rfl, hj2, hm2⟩
  replace hcur := hm2 _ _ hcur
  obtain ⟨fn2, tmps2, assign2, body2, hy, hR⟩ := HY.out 1 W2 (by omega) hj2
  rw [show (#[sV (atL ([headC ((m : Nat) : Int).toNat, [40], letterT s, [41]] ++ T) 1)] : Array Value) = #[.string ⟨#[40]⟩] from rfl] at hy
  clear d0 d1 hhd hm2
  have f0 : W2.cell? ⟨g, 0, none⟩ = some (.int .i64 s) := (hcur.cell 0).trans (hget 0 s rfl)
  gi_wp2
  refine ⟨rfl, hR.mono ?_⟩
  rintro e W3 ⟨rfl, hj3, hm3⟩
  replace hcur := hm3 _ _ hcur
  have f0 : W3.cell? ⟨g, 0, none⟩ = some (.int .i64 s) := (hcur.cell 0).trans (hget 0 s rfl)
  have hG3 := hcur.size
  obtain ⟨fn3, tmps3, assign3, body3, hy, hR⟩ := HY.out 2 W3 (by omega) hj3
  rw [show (#[sV (atL ([headC ((m : Nat) : Int).toNat, [40], letterT s, [41]] ++ T) 2)] : Array Value) = #[sV (letterT s)] from rfl] at hy
  have cl := (callsIn_wide (n := 0)).2 (print_Letter s W3)
  have CL := Lib.hid cl; clear cl hm3
  gi_wp2
  refine ⟨trivial, rfl, CL.out.mono ?_⟩
  rintro e w3 ⟨rfl, rfl⟩
  gi_wp2
  refine ⟨rfl, hR.mono ?_⟩
  rintro e W4 ⟨rfl, hj4, hm4⟩
  replace hcur := hm4 _ _ hcur
  gi_wp2
  all_goals
    gi_loopw [40] (fun p wr => p = .int .i64 0 ∧ W4 = wr) (fun _ _ => 0)
    case atStart => exact ⟨rfl, rfl⟩
    case round =>
      obtain ⟨rfl, rfl⟩ := hrel
      obtain ⟨fn4, tmps4, assign4, body4, hy, hR⟩ := HY.out 3 W4 (by omega) hj4
      rw [show (#[sV (atL ([headC ((m : Nat) : Int).toNat, [40], letterT s, [41]] ++ T) 3)] : Array Value) = #[.string ⟨#[41]⟩] from rfl] at hy
      gi_wp2
      refine ⟨rfl, hR.mono ?_⟩
      rintro e W5 ⟨rfl, hj5, hm5⟩
      obtain ⟨hh5, hG5⟩ := HF.out 4 W5 hj5
      have d1 : W5.cell? ⟨B, 1, none⟩ = some (.int .i64 n) := hh5.cell 1
      by_cases hp : 0 < n
      · obtain rfl : T = [[43], Lib.itoa n] := by rw [← hT]; unfold tailL; rw [if_pos hp]
        obtain ⟨fn5, tmps5, assign5, body5, hy, hR⟩ := HY.out 4 W5 (by simp) hj5
        rw [show (#[sV (atL ([headC ((m : Nat) : Int).toNat, [40], letterT s, [41]] ++ [[43], Lib.itoa n]) 4)] : Array Value) = #[.string ⟨#[43]⟩] from rfl] at hy
        gi_wp2
        refine ⟨rfl, hR.mono ?_⟩
        rintro e W6 ⟨rfl, hj6, hm6⟩
        obtain ⟨hh6, hG6⟩ := HF.out 5 W6 hj6
        have d2 : W6.cell? ⟨B, 1, none⟩ = some (.int .i64 n) := hh6.cell 1
        have ct := (callsIn_wide (n := 0)).2 (num_TextP n hn W6 hG6)
        have CT := Lib.hid ct; clear ct
        gi_wp2
        refine ⟨trivial, rfl, CT.out.mono ?_⟩
        rintro e w6 ⟨rfl, hb6⟩
        have hj6' := (HJ.out 5).later hj6 hb6
        obtain ⟨fn6, tmps6, assign6, body6, hy, hR⟩ := HY.out 5 w6 (by simp) hj6'
        rw [show (#[sV (atL ([headC ((m : Nat) : Int).toNat, [40], letterT s, [41]] ++ [[43], Lib.itoa n]) 5)] : Array Value) = #[sV (Lib.itoa n)] from rfl] at hy
        gi_wp2
        refine ⟨rfl, hR.mono ?_⟩
        rintro e W7 ⟨rfl, hj7, hm7⟩
        gi_wp2
        first
          | (go_end0; exact ⟨⟨_, rfl⟩, hj7⟩)
          | (refine bodyPost_ret (results_none rfl _ _ _) rfl ?_; exact ⟨⟨_, rfl⟩, hj7⟩)
      · by_cases hm : n < 0
        · obtain rfl : T = [Lib.itoa n] := by rw [← hT]; unfold tailL; rw [if_neg hp, if_pos hm]
          have ct := (callsIn_wide (n := 0)).2 (num_TextP n hn W5 hG5)
          have CT := Lib.hid ct; clear ct
          gi_wp2
          refine ⟨trivial, rfl, CT.out.mono ?_⟩
          rintro e w6 ⟨rfl, hb6⟩
          have hj6' := (HJ.out 4).later hj5 hb6
          obtain ⟨fn6, tmps6, assign6, body6, hy, hR⟩ := HY.out 4 w6 (by simp) hj6'
          rw [show (#[sV (atL ([headC ((m : Nat) : Int).toNat, [40], letterT s, [41]] ++ [Lib.itoa n]) 4)] : Array Value) = #[sV (Lib.itoa n)] from rfl] at hy
          gi_wp2
          refine ⟨rfl, hR.mono ?_⟩
          rintro e W7 ⟨rfl, hj7, hm7⟩
          gi_wp2
          first
            | (go_end0; exact ⟨⟨_, rfl⟩, hj7⟩)
            | (refine bodyPost_ret (results_none rfl _ _ _) rfl ?_; exact ⟨⟨_, rfl⟩, hj7⟩)
        · obtain rfl : T = [] := by rw [← hT]; unfold tailL; rw [if_neg hp, if_neg hm]
          gi_wp2
          first
            | (go_end0; exact ⟨⟨_, rfl⟩, hj5⟩)
            | (refine bodyPost_ret (results_none rfl _ _ _) rfl ?_; exact ⟨⟨_, rfl⟩, hj5⟩)
end Go.Proofs.YtafgincpoahefaaDoor

namespace Go.Proofs.YtafgincpoahefaaDoor
open Go.RowKit
attribute [local go_sem] Oper.semAt_some

set_option maxRecDepth 100000 in
set_option maxHeartbeats 4000000 in
theorem term_iter_two (k n s r : Int) (hk0 : 0 < k) (hk7 : k < 7) (htw : twoB ⟨k, n, s, r⟩ = true) (B : Nat) (hn : bnd n) (T : List (List UInt8)) (hT : tailL n = T) : IterT Tryd.prog 102 #[.pointer (some ⟨B, 0, none⟩)] (fun i => #[sV (atL ([headC k.toNat, [40], letterT s, [44], letterT r, [41]] ++ T) i)]) (6 + T.length)
    (fun W => Holds W B 29 #[.int .u8 k, .int .i64 n, .int .i64 s, .int .i64 r] ∧ GP W) 3 := by
  intro l J W hJ hF hY h0
  obtain ⟨hh, hG⟩ := hF 0 W h0
  have hkz : (k == 0) = false := by simp only [beq_eq_false_iff_ne]; omega
  have cn := (callsIn_wide (n := 0)).2 (tree_Names ⟨k, n, s, r⟩ W)
  rw [names_two (by simp only; omega) htw] at cn
  simp only [tmA] at cn
  obtain ⟨c0, c1, c2, c3⟩ : W.cell? ⟨B, 0, none⟩ = some (.int .u8 k) ∧ W.cell? ⟨B, 1, none⟩ = some (.int .i64 n) ∧ W.cell? ⟨B, 2, none⟩ = some (.int .i64 s) ∧ W.cell? ⟨B, 3, none⟩ = some (.int .i64 r) := ⟨hh.cell 0, hh.cell 1, hh.cell 2, hh.cell 3⟩
  have hl := hh.size
  have HJ := Lib.hid hJ; clear hJ
  have HY := Lib.hid hY; clear hY
  have HF := Lib.hid hF; clear hF htw
  have CN := Lib.hid cn; clear cn hG
  refine callsIn_of_wp Tryd.func102 rfl trivial ?_ rfl
  simp only [Tryd.ntmps102, List.size_toArray, List.length_cons, List.length_nil, Nat.reduceAdd, Nat.reduceSub, Array.replicate_succ, Array.replicate_zero, List.push_toArray, List.append_toArray, List.nil_append, List.cons_append]
  gi_wp2
  refine ⟨trivial, rfl, CN.out.mono ?_⟩
  rintro e w1 ⟨v, rfl, hrow, hb1⟩
  have hj1 := (HJ.out 0).later h0 hb1
  obtain ⟨g, cap, cur, rfl, hcap, hcur, hget⟩ := names_row hrow rfl (by simp)
  obtain ⟨hh1, hG1⟩ := HF.out 0 w1 hj1
  obtain ⟨d0, d1⟩ : w1.cell? ⟨B, 0, none⟩ = some (.int .u8 k) ∧ w1.cell? ⟨B, 1, none⟩ = some (.int .i64 n) := ⟨hh1.cell 0, hh1.cell 1⟩
  obtain ⟨m, rfl⟩ := Int.eq_ofNat_of_zero_le (show 0 ≤ k by omega)
  have hhd := hG1.head m (by omega)
  obtain ⟨fn, tmps, assign, body, hy, hR⟩ := HY.out 0 w1 (by omega) hj1
  rw [show (#[sV (atL ([headC ((m : Nat) : Int).toNat, [40], letterT s, [44], letterT r, [41]] ++ T) 0)] : Array Value) = #[.string (headS m)] from rfl] at hy
  clear hh1 hG1 hrow hh c0 c1 c2 c3
  gi_wp2
  refine ⟨rfl, hR.mono ?_⟩
  rintro e W2 ⟨rfl, hj2, hm2⟩
  replace hcur := hm2 _ _ hcur
  obtain ⟨fn2, tmps2, assign2, body2, hy, hR⟩ := HY.out 1 W2 (by omega) hj2
  rw [show (#[sV (atL ([headC ((m : Nat) : Int).toNat, [40], letterT s, [44], letterT r, [41]] ++ T) 1)] : Array Value) = #[.string ⟨#[40]⟩] from rfl] at hy
  clear d0 d1 hhd hm2
  have f0 : W2.cell? ⟨g, 0, none⟩ = some (.int .i64 s) := (hcur.cell 0).trans (hget 0 s rfl)
  gi_wp2
  refine ⟨rfl, hR.mono ?_⟩
  rintro e W3 ⟨rfl, hj3, hm3⟩
  replace hcur := hm3 _ _ hcur
  have f0 : W3.cell? ⟨g, 0, none⟩ = some (.int .i64 s) := (hcur.cell 0).trans (hget 0 s rfl)
  have hG3 := hcur.size
  obtain ⟨fn3, tmps3, assign3, body3, hy, hR⟩ := HY.out 2 W3 (by omega) hj3
  rw [show (#[sV (atL ([headC ((m : Nat) : Int).toNat, [40], letterT s, [44], letterT r, [41]] ++ T) 2)] : Array Value) = #[sV (letterT s)] from rfl] at hy
  have cl := (callsIn_wide (n := 0)).2 (print_Letter s W3)
  have CL := Lib.hid cl; clear cl hm3
  gi_wp2
  refine ⟨trivial, rfl, CL.out.mono ?_⟩
  rintro e w3 ⟨rfl, rfl⟩
  gi_wp2
  refine ⟨rfl, hR.mono ?_⟩
  rintro e W4 ⟨rfl, hj4, hm4⟩
  replace hcur := hm4 _ _ hcur
  have f0 : W4.cell? ⟨g, 0, none⟩ = some (.int .i64 s) := (hcur.cell 0).trans (hget 0 s rfl)
  have f1 : W4.cell? ⟨g, 1, none⟩ = some (.int .i64 r) := (hcur.cell 1).trans (hget 1 r rfl)
  have hcap1 : ¬ cap = 1 := by simp at hcap; omega
  have hg4 := hcur.size
  gi_wp2
  gi_loopw [40] (fun p wr => (p = .int .i64 0 ∧ W4 = wr) ∨ (p = .int .i64 1 ∧ J 5 wr)) (fun p _ => 2 - (intOf p).toNat)
  case atStart => exact .inl ⟨rfl, rfl⟩
  case round =>
    rcases hrel with ⟨rfl, rfl⟩ | ⟨rfl, hj4⟩
    · obtain ⟨fn4, tmps4, assign4, body4, hy, hR⟩ := HY.out 3 W4 (by omega) hj4
      rw [show (#[sV (atL ([headC ((m : Nat) : Int).toNat, [40], letterT s, [44], letterT r, [41]] ++ T) 3)] : Array Value) = #[.string ⟨#[44]⟩] from rfl] at hy
      have cl := fun w => (callsIn_wide (n := 0)).2 (print_Letter r w)
      have CL := Lib.hid cl; clear cl
      gi_wp2
      refine ⟨rfl, hR.mono ?_⟩
      rintro e W5 ⟨rfl, hj5, hm5⟩
      obtain ⟨fn5, tmps5, assign5, body5, hy, hR⟩ := HY.out 4 W5 (by omega) hj5
      rw [show (#[sV (atL ([headC ((m : Nat) : Int).toNat, [40], letterT s, [44], letterT r, [41]] ++ T) 4)] : Array Value) = #[sV (letterT r)] from rfl] at hy
      gi_wp2
      refine ⟨trivial, rfl, (CL.out _).mono ?_⟩
      rintro e w5 ⟨rfl, rfl⟩
      gi_wp2
      refine ⟨rfl, hR.mono ?_⟩
      rintro e W6 ⟨rfl, hj6, hm6⟩
      gi_wp2
      go_roundw
      case rel => exact .inr ⟨by go_num, hj6⟩
      case measure => simp [intOf]
    · obtain ⟨fn4, tmps4, assign4, body4, hy, hR⟩ := HY.out 5 wr (by omega) hj4
      rw [show (#[sV (atL ([headC ((m : Nat) : Int).toNat, [40], letterT s, [44], letterT r, [41]] ++ T) 5)] : Array Value) = #[.string ⟨#[41]⟩] from rfl] at hy
      gi_wp2
      refine ⟨rfl, hR.mono ?_⟩
      rintro e W5 ⟨rfl, hj5, hm5⟩
      obtain ⟨hh5, hG5⟩ := HF.out 6 W5 hj5
      have d1 : W5.cell? ⟨B, 1, none⟩ = some (.int .i64 n) := hh5.cell 1
      by_cases hp : 0 < n
      · obtain rfl : T = [[43], Lib.itoa n] := by rw [← hT]; unfold tailL; rw [if_pos hp]
        obtain ⟨fn5, tmps5, assign5, body5, hy, hR⟩ := HY.out 6 W5 (by simp) hj5
        rw [show (#[sV (atL ([headC ((m : Nat) : Int).toNat, [40], letterT s, [44], letterT r, [41]] ++ [[43], Lib.itoa n]) 6)] : Array Value) = #[.string ⟨#[43]⟩] from rfl] at hy
        gi_wp2
        refine ⟨rfl, hR.mono ?_⟩
        rintro e W6 ⟨rfl, hj6, hm6⟩
        obtain ⟨hh6, hG6⟩ := HF.out 7 W6 hj6
        have d2 : W6.cell? ⟨B, 1, none⟩ = some (.int .i64 n) := hh6.cell 1
        have ct := (callsIn_wide (n := 0)).2 (num_TextP n hn W6 hG6)
        have CT := Lib.hid ct; clear ct
        gi_wp2
        refine ⟨trivial, rfl, CT.out.mono ?_⟩
        rintro e w6 ⟨rfl, hb6⟩
        have hj6' := (HJ.out 7).later hj6 hb6
        obtain ⟨fn6, tmps6, assign6, body6, hy, hR⟩ := HY.out 7 w6 (by simp) hj6'
        rw [show (#[sV (atL ([headC ((m : Nat) : Int).toNat, [40], letterT s, [44], letterT r, [41]] ++ [[43], Lib.itoa n]) 7)] : Array Value) = #[sV (Lib.itoa n)] from rfl] at hy
        gi_wp2
        refine ⟨rfl, hR.mono ?_⟩
        rintro e W7 ⟨rfl, hj7, hm7⟩
        gi_wp2
        first
          | (go_end0; exact ⟨⟨_, rfl⟩, hj7⟩)
          | (refine bodyPost_ret (results_none rfl _ _ _) rfl ?_; exact ⟨⟨_, rfl⟩, hj7⟩)
      · by_cases hm : n < 0
        · obtain rfl : T = [Lib.itoa n] := by rw [← hT]; unfold tailL; rw [if_neg hp, if_pos hm]
          have ct := (callsIn_wide (n := 0)).2 (num_TextP n hn W5 hG5)
          have CT := Lib.hid ct; clear ct
          gi_wp2
          refine ⟨trivial, rfl, CT.out.mono ?_⟩
          rintro e w6 ⟨rfl, hb6⟩
          have hj6' := (HJ.out 6).later hj5 hb6
          obtain ⟨fn6, tmps6, assign6, body6, hy, hR⟩ := HY.out 6 w6 (by simp) hj6'
          rw [show (#[sV (atL ([headC ((m : Nat) : Int).toNat, [40], letterT s, [44], letterT r, [41]] ++ [Lib.itoa n]) 6)] : Array Value) = #[sV (Lib.itoa n)] from rfl] at hy
          gi_wp2
          refine ⟨rfl, hR.mono ?_⟩
          rintro e W7 ⟨rfl, hj7, hm7⟩
          gi_wp2
          first
            | (go_end0; exact ⟨⟨_, rfl⟩, hj7⟩)
            | (refine bodyPost_ret (results_none rfl _ _ _) rfl ?_; exact ⟨⟨_, rfl⟩, hj7⟩)
        · obtain rfl : T = [] := by rw [← hT]; unfold tailL; rw [if_neg hp, if_neg hm]
          gi_wp2
          first
            | (go_end0; exact ⟨⟨_, rfl⟩, hj5⟩)
            | (refine bodyPost_ret (results_none rfl _ _ _) rfl ?_; exact ⟨⟨_, rfl⟩, hj5⟩)
end Go.Proofs.YtafgincpoahefaaDoor
