/-
  print: Letter, Op; straggleref10: Letter, Op; straggleref08: Names; what print's rows list.
  tree: names, Names.
-/
import Derived.Test.YtafgincpoahefaaDoorTree2
import Derived.Test.YtafgincpoahefaaDoorRef8b
import Derived.Test.YtafgincpoahefaaDoorParR
import Derived.Test.YtafgincpoahefaaDoorLex6
import Derived.Test.YtafgincpoahefaaDoorRef1
import Derived.Test.YtafgincpoahefaaDoorGround
namespace Go.Proofs.YtafgincpoahefaaDoor
open Go.RowKit

theorem gPOps : Tryd.prog.globalNamed "straggle/print.ops" = some 0 := by kernel_rfl
theorem gPOpsType : (Tryd.prog.globals[0]?).map (·.type) = some 95 := by kernel_rfl
theorem gHeads : Tryd.prog.globalNamed "straggle/print.heads" = some 3 := by kernel_rfl
theorem gHeadsType : (Tryd.prog.globals[3]?).map (·.type) = some 95 := by kernel_rfl
/-- the library's table, print's texts -/
structure GP (w : World) : Prop where
  pow : Lib.TabIs Tryd.prog w "internal/strconv.uint64pow10" .u64 Lib.pow10Tab
  ops : w.var? Tryd.prog "straggle/print.ops" = some (strs ((List.range 7).map opText))
  heads : w.var? Tryd.prog "straggle/print.heads" = some (strs ((List.range 7).map headC))
theorem GP.mono' {w w' : World} {B : Nat} (hb : Below B w w') (hB : w.heap.size ≤ B) (h : GP w) : GP w' := ⟨Joins.tab_stays gPow h.pow hb hB, Joins.var_stays gPOps h.ops hb hB, Joins.var_stays gHeads h.heads hb hB⟩
theorem GP.mono {w w' : World} (hb : Below w.heap.size w w') (h : GP w) : GP w' := h.mono' hb (Nat.le_refl _)
theorem GP.alloc {w : World} (h : GP w) (o : Obj) : GP (w.alloc o) := h.mono ((Below.refl _ _).alloc (Nat.le_refl _) o)
def headS (k : Nat) : ByteArray := ⟨(headC k).toArray⟩
theorem GP.op {w : World} (h : GP w) (k : Nat) (hk : k < 7) : w.cell? ⟨0, k, none⟩ = some (.string (opS k)) := by
  rw [World.var?_cell gPOps h.ops]
  have : k = 0 ∨ k = 1 ∨ k = 2 ∨ k = 3 ∨ k = 4 ∨ k = 5 ∨ k = 6 := by omega
  rcases this with rfl | rfl | rfl | rfl | rfl | rfl | rfl <;> rfl
theorem GP.head {w : World} (h : GP w) (k : Nat) (hk : k < 7) : w.cell? ⟨3, k, none⟩ = some (.string (headS k)) := by
  rw [World.var?_cell gHeads h.heads]
  have : k = 0 ∨ k = 1 ∨ k = 2 ∨ k = 3 ∨ k = 4 ∨ k = 5 ∨ k = 6 := by omega
  rcases this with rfl | rfl | rfl | rfl | rfl | rfl | rfl <;> rfl

/-- a string's value -/
def sV (l : List UInt8) : Value := .string ⟨l.toArray⟩
theorem ret_str {a : ByteArray} {l : List UInt8} (h : a = ⟨l.toArray⟩) : Ending.returned (.string a) = .returned (sV l) := by rw [h]; rfl
theorem num_TextP (n : Int) (h : bnd n) (w : World) (hG : GP w) : Calls Tryd.prog 45 #[.int .i64 n] w fun e w' => e = .returned (sV (Lib.itoa n)) ∧ Below w.heap.size w w' := by
  go_enter Tryd.func45, Tryd.ntmps45
  go_wp2_with fail
  refine (Tryd.strconv_Itoa n h.1 h.2 _ hG.pow).mono ?_
  rintro e w' ⟨rfl, k, os, rfl⟩
  go_wp2_with fail
  go_ret
  exact ⟨rfl, below_grow _ _ _⟩
theorem ref_TextP (n : Int) (h : bnd n) (w : World) : Calls Tryd.prog 40 #[.int .i64 n] w fun e w' => e = .returned (sV (Lib.itoa n)) ∧ Below w.heap.size w w' := ref_Text n h.1 h.2 w

theorem letters_at (k : Nat) (hk : k < 26) : (⟨#[97, 98, 99, 100, 101, 102, 103, 104, 105, 106, 107, 108, 109, 110, 111, 112, 113, 114, 115, 116, 117, 118, 119, 120, 121, 122]⟩ : ByteArray).extract k (k + 1) = ⟨[UInt8.ofNat (97 + k)].toArray⟩ := by
  have : ∀ k : Fin 26, (⟨#[97, 98, 99, 100, 101, 102, 103, 104, 105, 106, 107, 108, 109, 110, 111, 112, 113, 114, 115, 116, 117, 118, 119, 120, 121, 122]⟩ : ByteArray).extract k (k + 1) = ⟨[UInt8.ofNat (97 + k)].toArray⟩ := by decide +kernel
  exact this ⟨k, hk⟩
set_option maxRecDepth 100000 in
set_option maxHeartbeats 1000000 in
theorem print_Letter (i : Int) (w : World) : Calls Tryd.prog 33 #[.int .i64 i] w fun e w' => e = .returned (sV (letterT i)) ∧ w = w' := by
  by_cases h : 0 ≤ i ∧ i < 26
  · obtain ⟨k, rfl⟩ := Int.eq_ofNat_of_zero_le h.1
    have hk : k < 26 := by omega
    have ht : letterT (k : Int) = [UInt8.ofNat (97 + k)] := by unfold letterT; rw [if_pos h]; rfl
    have hl := letters_at k hk
    rw [ht]
    have HL := Lib.hid hl; clear hl ht h
    go_enter Tryd.func33, Tryd.ntmps33
    go_wp2_with fail
    go_ret
    exact ⟨ret_str HL.out, rfl⟩
  · have ht : letterT i = [] := by unfold letterT; rw [if_neg h]
    rw [ht]
    clear ht
    go_enter Tryd.func33, Tryd.ntmps33
    go_wp2_with fail
    all_goals first
      | (exfalso; omega)
      | (go_ret; exact ⟨rfl, rfl⟩)
set_option maxRecDepth 100000 in
set_option maxHeartbeats 1000000 in
theorem ref10_Letter (i : Int) (w : World) : Calls Tryd.prog 34 #[.int .i64 i] w fun e w' => e = .returned (sV (letterT i)) ∧ Below w.heap.size w w' := by
  by_cases h : 0 ≤ i ∧ i < 26
  · obtain ⟨h0, h1⟩ := h
    have ht : letterT i = [UInt8.ofNat (97 + i).toNat] := by unfold letterT; rw [if_pos ⟨h0, h1⟩, show 97 + i.toNat = (97 + i).toNat from by omega]
    rw [ht]
    have hcv := one_byte w (97 + i)
    clear ht
    go_enter Tryd.func34, Tryd.ntmps34
    go_wp2_with fail
    go_ret
    exact ⟨rfl, (Below.refl _ _).alloc (Nat.le_refl _) _⟩
  · have ht : letterT i = [] := by unfold letterT; rw [if_neg h]
    rw [ht]
    clear ht
    go_enter Tryd.func34, Tryd.ntmps34
    go_wp2_with fail
    all_goals first
      | (exfalso; omega)
      | (go_ret; exact ⟨rfl, Below.refl _ _⟩)
set_option maxRecDepth 100000 in
set_option maxHeartbeats 1000000 in
theorem print_Op (op : Int) (h : bnd8 op) (w : World) (hG : GP w) : Calls Tryd.prog 31 #[.int .u8 op] w fun e w' => e = .returned (sV (opT op)) ∧ w = w' := by
  obtain ⟨h0, h1⟩ := h
  by_cases h7 : op < 7
  · obtain ⟨k, rfl⟩ := Int.eq_ofNat_of_zero_le h0
    have ht : sV (opT (k : Int)) = .string (opS k) := by unfold opT; rw [if_pos ⟨h0, h7⟩]; rfl
    have hc := hG.op k (by omega)
    rw [ht]
    clear ht hG
    go_enter Tryd.func31, Tryd.ntmps31
    go_wp2_with fail
    go_ret
    exact ⟨rfl, rfl⟩
  · have ht : opT op = [] := by unfold opT; rw [if_neg (by omega)]
    rw [ht]
    clear ht hG
    go_enter Tryd.func31, Tryd.ntmps31
    go_wp2_with fail
    go_ret
    exact ⟨rfl, rfl⟩
set_option maxRecDepth 100000 in
set_option maxHeartbeats 1000000 in
theorem ref10_Op (op : Int) (w : World) : Calls Tryd.prog 32 #[.int .u8 op] w fun e w' => e = .returned (sV (opT op)) ∧ w = w' := by
  by_cases h : op = 1 ∨ op = 2 ∨ op = 3 ∨ op = 4 ∨ op = 5 ∨ op = 6
  · rcases h with rfl | rfl | rfl | rfl | rfl | rfl
    all_goals
      go_enter Tryd.func32, Tryd.ntmps32
      go_wp2_with fail
      go_ret
      exact ⟨rfl, rfl⟩
  · have ht : opT op = [] := by
      unfold opT
      split
      · rw [show op = 0 from by omega]; rfl
      · rfl
    have g1 : (op == 1) = false := by simp only [beq_eq_false_iff_ne]; omega
    have g2 : (op == 2) = false := by simp only [beq_eq_false_iff_ne]; omega
    have g3 : (op == 3) = false := by simp only [beq_eq_false_iff_ne]; omega
    have g4 : (op == 4) = false := by simp only [beq_eq_false_iff_ne]; omega
    have g5 : (op == 5) = false := by simp only [beq_eq_false_iff_ne]; omega
    have g6 : (op == 6) = false := by simp only [beq_eq_false_iff_ne]; omega
    rw [ht]
    clear ht h
    go_enter Tryd.func32, Tryd.ntmps32
    go_wp2_with fail
    go_ret
    exact ⟨rfl, rfl⟩

/-- a slice of numbers that a call told -/
def IntsV (w : World) (v : Value) (l : List Int) : Prop := ∃ a c, v = .slice a l.length c ∧ l.length ≤ c ∧ IntsAt w .i64 a l
set_option maxRecDepth 100000 in
set_option maxHeartbeats 1000000 in
theorem ref8_Names (t : Tm) (w : World) : Calls Tryd.prog 69 #[tmA t] w fun e w' => ∃ v, e = .returned v ∧ IntsV w' v (namesOf t) ∧ Below w.heap.size w w' := by
  have h0 : t.kind = 0 → namesOf t = [] := fun h => by unfold namesOf; rw [if_pos h]
  have h2 : t.kind = 5 ∨ t.kind = 6 → namesOf t = [t.s, t.r] := fun h => by
    unfold namesOf
    rw [if_neg (by omega), if_pos]
    unfold twoB
    rcases h with h | h <;> simp [h]
  have h1 : ¬ t.kind = 0 → ¬ (t.kind = 5 ∨ t.kind = 6) → namesOf t = [t.s] := fun h h' => by
    unfold namesOf
    rw [if_neg h, if_neg]
    unfold twoB
    simp; omega
  obtain ⟨k, n, s, r⟩ := t
  simp only [tmA] at *
  by_cases k0 : k = 0
  · subst k0
    rw [h0 rfl]
    clear h0 h1 h2
    go_enter Tryd.func69, Tryd.ntmps69
    go_wp2_with fail
    go_ret
    exact ⟨_, rfl, ⟨none, 0, rfl, Nat.le_refl _, IntsAt.none _ _ _⟩, (Below.refl _ _).alloc (Nat.le_refl _) _⟩
  · by_cases k5 : k = 5 ∨ k = 6
    · rw [h2 k5]
      clear h0 h1 h2
      have hW : ∀ (W : World) (b : Nat), W.heap.size = b → IntsAt (W.alloc (.cells #[.int .i64 s, .int .i64 r] 3)) .i64 (some ⟨b, 0, none⟩) [s, r] := fun W b hb =>
        ⟨by simp, .inr ⟨_, 0, rfl, fun i hi => by
          have hh := Holds.fresh' hb 3 #[.int .i64 s, .int .i64 r]
          have : i = 0 ∨ i = 1 := by simp at hi; omega
          rcases this with rfl | rfl
          · exact hh.cell 0
          · exact hh.cell 1⟩⟩
      have HW := Lib.hid hW; clear hW
      rcases k5 with rfl | rfl
      all_goals
        clear k0
        go_enter Tryd.func69, Tryd.ntmps69
        go_wp2_with fail
        go_ret
        exact ⟨_, rfl, ⟨_, 2, rfl, Nat.le_refl _, HW.out _ _ (by simp)⟩, ((Below.refl _ _).alloc (Nat.le_refl _) _).alloc (by simp) _⟩
    · rw [h1 k0 k5]
      have g0 : (k == 0) = false := by simpa using k0
      have g5 : (k == 5) = false := by simp only [beq_eq_false_iff_ne]; omega
      have g6 : (k == 6) = false := by simp only [beq_eq_false_iff_ne]; omega
      have hW : ∀ (W : World) (b : Nat), W.heap.size = b → IntsAt (W.alloc (.cells #[.int .i64 s] 3)) .i64 (some ⟨b, 0, none⟩) [s] := fun W b hb =>
        ⟨by simp, .inr ⟨_, 0, rfl, fun i hi => by
          have hh := Holds.fresh' hb 3 #[.int .i64 s]
          have : i = 0 := by simp at hi; omega
          subst this
          exact hh.cell 0⟩⟩
      have HW := Lib.hid hW; clear hW
      clear h0 h1 h2 k0 k5
      go_enter Tryd.func69, Tryd.ntmps69
      go_wp2_with fail
      go_ret
      exact ⟨_, rfl, ⟨_, 1, rfl, Nat.le_refl _, HW.out _ _ (by simp)⟩, ((Below.refl _ _).alloc (Nat.le_refl _) _).alloc (by simp) _⟩
end Go.Proofs.YtafgincpoahefaaDoor

namespace Go.Proofs.YtafgincpoahefaaDoor
open Go.RowKit
attribute [local go_sem] Oper.semAt_some

def atI (l : List Int) (i : Nat) : Int := l.getD i 0
theorem enters_names : ∀ args w, (callFunc 155 args).run Tryd.prog w = .ok (.enter 155 args) w := enters_of Tryd.func155 (by kernel_rfl) rfl
theorem tree_names (t : Tm) (w : World) : Calls Tryd.prog 130 #[tmA t] w fun e w' =>
    e = .returned (.func (.func 155) #[] #[.pointer (some ⟨w.heap.size, 0, none⟩)]) ∧ w.alloc (.cells (tmV t).toArray 29) = w' := by
  obtain ⟨k, n, s, r⟩ := t
  simp only [tmA, tmV]
  go_enter Tryd.func130, Tryd.ntmps130
  go_wp2_with fail
  go_ret
  exact ⟨rfl, rfl⟩
theorem names_none {t : Tm} (h : t.kind = 0) : namesOf t = [] := by unfold namesOf; rw [if_pos h]
theorem names_one {t : Tm} (h : t.kind ≠ 0) (h' : twoB t = false) : namesOf t = [t.s] := by unfold namesOf; rw [if_neg h, h']; rfl
theorem names_two {t : Tm} (h : t.kind ≠ 0) (h' : twoB t = true) : namesOf t = [t.s, t.r] := by unfold namesOf; rw [if_neg h, h']; rfl

set_option maxRecDepth 100000 in
set_option maxHeartbeats 1000000 in
theorem names_iter (t : Tm) (B : Nat) : Iter Tryd.prog 155 #[.pointer (some ⟨B, 0, none⟩)] (fun i => #[.int .i64 (atI (namesOf t) i)]) (namesOf t).length
    (fun W => Holds W B 29 (tmV t).toArray) := by
  intro l J Jx W hJ hJx hF hY h0
  have hh := hF 0 W h0
  have ctwo : ∀ w, CallsIn Fence.wide 0 Tryd.prog 153 #[tmA t] w fun e w' => e = .returned (.bool (twoB t)) ∧ Below w.heap.size w w' := fun w => callsIn_wide.2 (tree_two t w)
  have hn0 := names_none (t := t)
  have hn1 := names_one (t := t)
  have hn2 := names_two (t := t)
  have hcell : ∀ W', J 1 W' → W'.cell? ⟨B, 0, none⟩ = some (.int .u8 t.kind) ∧ W'.cell? ⟨B, 1, none⟩ = some (.int .i64 t.n) ∧ W'.cell? ⟨B, 2, none⟩ = some (.int .i64 t.s) ∧ W'.cell? ⟨B, 3, none⟩ = some (.int .i64 t.r) := fun W' hj => by
    have := hF 1 W' hj
    exact ⟨this.cell 0, this.cell 1, this.cell 2, this.cell 3⟩
  obtain ⟨c0, c1, c2, c3⟩ : W.cell? ⟨B, 0, none⟩ = some (.int .u8 t.kind) ∧ W.cell? ⟨B, 1, none⟩ = some (.int .i64 t.n) ∧ W.cell? ⟨B, 2, none⟩ = some (.int .i64 t.s) ∧ W.cell? ⟨B, 3, none⟩ = some (.int .i64 t.r) := ⟨hh.cell 0, hh.cell 1, hh.cell 2, hh.cell 3⟩
  have hl := hh.size
  obtain ⟨k, n, s, r⟩ := t
  simp only [tmA] at *
  by_cases hk : k = 0
  · subst hk
    have hn := hn0 rfl
    simp only [hn] at hY
    simp only [hn]
    have H0 := Lib.hid h0
    clear hn0 hn1 hn2 hn hY hF hcell ctwo hh h0 hJ hJx
    refine callsIn_of_wp Tryd.func155 rfl trivial ?_ rfl
    simp only [Tryd.ntmps155, List.size_toArray, List.length_cons, List.length_nil, Nat.reduceAdd, Nat.reduceSub, Array.replicate_succ, Array.replicate_zero, List.push_toArray, List.append_toArray, List.nil_append, List.cons_append]
    gi_wp2
    refine ⟨(fun f h => nomatch h), ?_⟩
    gi_wp2
    refine ⟨trivial, ?_⟩
    gi_wp2
    go_end0
    exact ⟨⟨_, rfl⟩, .inl H0.out⟩
  · have hk' : (k != 0) = true := by simpa using hk
    cases htw : twoB ⟨k, n, s, r⟩
    · have hn := hn1 hk htw
      simp only [hn, htw] at hY ctwo
      simp only [hn]
      obtain ⟨fn, tmps, assign, body, hy, hR⟩ := hY 0 W (by simp) h0
      simp only [atI, List.getD_cons_zero] at hy
      have CT := Lib.hid ctwo; clear ctwo
      have HC := Lib.hid hcell; clear hcell
      have HJ := Lib.hid hJ; clear hJ
      clear hn0 hn1 hn2 hn hY hF hh hk htw hJx h0
      refine callsIn_of_wp Tryd.func155 rfl trivial ?_ rfl
      simp only [Tryd.ntmps155, List.size_toArray, List.length_cons, List.length_nil, Nat.reduceAdd, Nat.reduceSub, Array.replicate_succ, Array.replicate_zero, List.push_toArray, List.append_toArray, List.nil_append, List.cons_append]
      gi_wp2
      refine ⟨rfl, hR.mono ?_⟩
      rintro e W' (⟨rfl, hj'⟩ | ⟨rfl, hjx⟩)
      · obtain ⟨d0, d1, d2, d3⟩ := HC.out W' hj'
        gi_wp2
        refine ⟨trivial, rfl, (CT.out _).mono ?_⟩
        rintro e w1 ⟨rfl, hb1⟩
        have hj1 := (HJ.out 1).later hj' hb1
        gi_wp2
        go_end0
        exact ⟨⟨_, rfl⟩, .inl hj1⟩
      · gi_wp2
        refine ⟨trivial, ?_⟩
        gi_wp2
        go_end0
        exact ⟨⟨_, rfl⟩, .inr ⟨0, by simp, hjx⟩⟩
    · have hn := hn2 hk htw
      simp only [hn, htw] at hY ctwo
      simp only [hn]
      obtain ⟨fn, tmps, assign, body, hy, hR⟩ := hY 0 W (by simp) h0
      simp only [atI, List.getD_cons_zero] at hy
      have CT := Lib.hid ctwo; clear ctwo
      have HC := Lib.hid hcell; clear hcell
      have HJ := Lib.hid hJ; clear hJ
      have HY := Lib.hid hY; clear hY
      clear hn0 hn1 hn2 hn hF hh hk htw hJx h0
      refine callsIn_of_wp Tryd.func155 rfl trivial ?_ rfl
      simp only [Tryd.ntmps155, List.size_toArray, List.length_cons, List.length_nil, Nat.reduceAdd, Nat.reduceSub, Array.replicate_succ, Array.replicate_zero, List.push_toArray, List.append_toArray, List.nil_append, List.cons_append]
      gi_wp2
      refine ⟨rfl, hR.mono ?_⟩
      rintro e W' (⟨rfl, hj'⟩ | ⟨rfl, hjx⟩)
      · obtain ⟨d0, d1, d2, d3⟩ := HC.out W' hj'
        clear hy hR
        gi_wp2
        refine ⟨trivial, rfl, (CT.out _).mono ?_⟩
        rintro e w1 ⟨rfl, hb1⟩
        have hj1 := (HJ.out 1).later hj' hb1
        obtain ⟨e0, e1, e2, e3⟩ := HC.out w1 hj1
        obtain ⟨fn2, tmps2, assign2, body2, hy, hR⟩ := HY.out 1 w1 (by simp) hj1
        simp only [atI, List.getD_cons_zero, List.getD_cons_succ] at hy
        gi_wp2
        refine ⟨rfl, hR.mono ?_⟩
        rintro e W'' (⟨rfl, hj2⟩ | ⟨rfl, hjx⟩)
        · gi_wp2
          go_end0
          exact ⟨⟨_, rfl⟩, .inl hj2⟩
        · gi_wp2
          go_end0
          exact ⟨⟨_, rfl⟩, .inr ⟨1, by simp, hjx⟩⟩
      · gi_wp2
        refine ⟨trivial, ?_⟩
        gi_wp2
        go_end0
        exact ⟨⟨_, rfl⟩, .inr ⟨0, by simp, hjx⟩⟩

theorem names_len (t : Tm) : (namesOf t).length ≤ 2 := by
  unfold namesOf
  split
  · simp
  · split <;> simp
theorem names_take (t : Tm) (i : Nat) (h : i < (namesOf t).length) : ((namesOf t).take (i + 1)).map (Value.int .i64) = ((namesOf t).take i).map (Value.int .i64) ++ [.int .i64 (atI (namesOf t) i)] := by
  rw [List.take_succ_eq_append_getElem h, List.map_append]
  simp [atI, List.getD_eq_getElem?_getD, h]
set_option maxRecDepth 100000 in
set_option maxHeartbeats 1000000 in
theorem tree_Names (t : Tm) (w : World) : Calls Tryd.prog 103 #[tmA t] w fun e w' => ∃ v, e = .returned v ∧ w'.ownsRow w.heap.size 3 1 v (namesOf t).length ((namesOf t).map (Value.int .i64)) ∧ Below w.heap.size w w' := by
  refine calls_marks Tryd.func103 rfl ?_
  simp only [Tryd.ntmps103, List.size_toArray, List.length_cons, List.length_nil, Nat.reduceAdd, Nat.reduceSub, Array.replicate_succ, Array.replicate_zero, List.push_toArray, List.append_toArray, List.nil_append, List.cons_append]
  have cn := fun w => tree_names t w
  have hit := names_iter t (w.heap.size + 1 + 1)
  have htk := names_take t
  have hln := names_len t
  obtain ⟨k, n, s, r⟩ := t
  simp only [tmA, tmV] at *
  generalize namesOf ⟨k, n, s, r⟩ = L at *
  have CN := Lib.hid cn; clear cn
  have HT := Lib.hid htk; clear htk
  have HI := Lib.hid hit; clear hit
  go_wp2_with fail
  refine (CN.out _).mono ?_
  rintro e w1 ⟨rfl, rfl⟩
  go_wp2_with fail
  obtain ⟨i0, hi, hz0, hz1, hz2⟩ := info_parts (by kernel_rfl : (Tryd.prog.info? 3).map (fun i => (i.zero, i.size, i.bytes)) = some (some (.int .i64 0), 1, 8))
  refine wp_range rfl enters_names HI.out (fun _ => rfl)
    (fun i W => (∃ v, Boxed W (w.heap.size + 1) 63 v ∧ W.ownsRow w.heap.size 3 1 v i ((L.take i).map (Value.int .i64))) ∧
      Holds W (w.heap.size + 1 + 1) 29 #[.int .u8 k, .int .i64 n, .int .i64 s, .int .i64 r] ∧ Below w.heap.size w W)
    (fun _ _ _ => False) (fun i => (Stable.row _ _ _ _ _ _ _).and ((Stable.holds _ _ _).and (Stable.below (by simp; omega) (Nat.le_refl _)))) (fun _ _ => Stable.pure _) (fun i W h => h.2.1) ?_
    (fun i => { tmps := #[.agg #[.int .u8 k, .int .i64 n, .int .i64 s, .int .i64 r], .pointer (some ⟨w.heap.size, 0, none⟩), .pointer (some ⟨w.heap.size + 1, 0, none⟩), .int .i64 (atI L i), .agg #[.int .u8 k, .int .i64 n, .int .i64 s, .int .i64 r],
      .func (.func 155) #[] #[.pointer (some ⟨w.heap.size + 1 + 1, 0, none⟩)], .int .i64 (atI L i), undef, undef, undef, undef, undef], defers := [] }) ?_ ?_ ?_ (fun _ _ _ _ _ _ h _ => h.elim)
  · refine ⟨⟨_, (boxed_new (by simp) _ _).alloc _, World.ownsRow_nil _ _ _ _⟩, Holds.fresh' (by simp) _ _, ?_⟩
    exact (((Below.refl _ _).alloc (Nat.le_refl _) _).alloc (by simp) _).alloc (by simp; omega) _
  · intro l i W K hi hK
    gi_wp2
    exact hK
  · rintro l i W hl hiN ⟨⟨v, hv, hr⟩, hc2, hB⟩
    have hx := HT.out i hiN
    have HX := Lib.hid hx; clear hx
    have hn0 : w.heap.size ≤ (W.alloc (.cells #[.int .i64 (atI L i)] 3)).heap.size := by have := hB.size; simp; omega
    have hbv := hv.cell
    gi_wp2_with (gi_at_builtin; refine wpListIn_append_own _ rfl (.tmp 7) (.tmp 9) 63 rfl w.heap.size 3 i0 (.int .i64 0) 1 8 Tryd.underlying63 hi hz0 hz1 hz2 rfl (by decide) v i ((L.take i).map (Value.int .i64)) rfl (hr.alloc _) ⟨W.heap.size, 0, none⟩ 1 1 [.int .i64 (atI L i)] rfl rfl ?c1 ?c2 ?c3 ?c4 hn0 ?_)
    case c1 => exact new_cells W [.int .i64 (atI L i)] 3
    case c2 =>
      intro u hu
      obtain rfl := List.mem_singleton.1 hu
      rfl
    case c3 => unfold maxLen; omega
    case c4 => omega
    intro v' w1 hown' hgrow _
    obtain ⟨g', cap', rfl⟩ := ownsRow_form hown'
    obtain ⟨hv1, hv2, hr2, hk2, hb2⟩ := hv.appended (by decide) hr hB.size (Nat.le_succ _) hown' hgrow
    have k3 : Holds w1 (w.heap.size + 1 + 1) 29 #[.int .u8 k, .int .i64 n, .int .i64 s, .int .i64 r] := by
      have hne : v.ownBlock ≠ some (w.heap.size + 1 + 1) := by
        intro e
        rcases hr.2 with ⟨rfl, _⟩ | ⟨g, cap, cur, rfl, _, hgb, _⟩
        · simp [Value.ownBlock] at e
        · obtain rfl : g = w.heap.size + 1 + 1 := by simpa [Value.ownBlock] using e
          have h2 : W.heap[w.heap.size + 1 + 1]? = some (.cells #[.int .u8 k, .int .i64 n, .int .i64 s, .int .i64 r] 29 (0, 0)) := hc2
          rw [h2] at hgb
          cases hgb
      exact (hgrow.block _ (by have := hc2.size; simp; omega) (fun e => hne e.symm)).trans (hc2.alloc _)
    have kv := hv1.cell
    have kf := hv1.frozen
    gi_wp2
    refine ⟨hk2.from _, ⟨_, hv2, ?_⟩, k3.far (by simp) _, hB.trans hb2⟩
    rw [HX.out]
    simpa using hr2
  · rintro D W hD ⟨⟨v, hv, hr⟩, hc2, hB⟩ hK
    obtain ⟨av, cap, rfl⟩ := ownsRow_form hr
    have hc := hv.cell
    have hf := hv.frozen
    go_wp2_with fail
    have hv2 := hv.set (.slice av L.length cap)
    have hK2 := (KeepsOthers.setCell W ⟨w.heap.size + 1, 0, none⟩ (.slice av L.length cap)).same D _ hK rfl
    have hr2 := hr.kept (grownBy_setCell' W (w.heap.size + 1) (.slice av L.length cap)) (.inr (hv.not_row (by decide) hr).symm)
    have hB2 := hB.setCell (p := ⟨w.heap.size + 1, 0, none⟩) (by simp) (.slice av L.length cap)
    have hc3 := putObj_cell (o' := .deferred none) hK2 rfl hv2.cell
    refine ret_mark (v := .slice av L.length cap) hK2 (by simp [results, Tryd.results103, go_sem, hc3]) ⟨_, rfl, ?_, putObj_below hB2 hK2 (by simp at hD; omega)⟩
    rw [List.take_of_length_le (Nat.le_refl _)] at hr2
    exact ownsRow_putObj hr2 _ hK2 rfl
end Go.Proofs.YtafgincpoahefaaDoor
