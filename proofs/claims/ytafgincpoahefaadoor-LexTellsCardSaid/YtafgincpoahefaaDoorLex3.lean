/-
  lex: token.
-/
import Derived.Test.YtafgincpoahefaaDoorLex2
import Derived.Test.YtafgincpoahefaaDoorBlk
import Derived.Test.YtafgincpoahefaaDoorLexR
import Derived.StillTailTactics
namespace Go.Proofs.YtafgincpoahefaaDoor
open Go.RowKit

theorem enters_digit : ∀ args w, (callFunc 146 args).run Tryd.prog w = .ok (.enter 146 args) w := enters_of Tryd.func146 (by kernel_rfl) rfl
theorem enters_letter : ∀ args w, (callFunc 147 args).run Tryd.prog w = .ok (.enter 147 args) w := enters_of Tryd.func147 (by kernel_rfl) rfl
theorem enters_blank : ∀ args w, (callFunc 120 args).run Tryd.prog w = .ok (.enter 120 args) w := enters_of Tryd.func120 (by kernel_rfl) rfl
theorem lead_digit (s : ByteArray) (w : World) : Calls Tryd.prog 119 #[.string s, .func (.func 146) #[] #[]] w fun e w' => e = .returned (.int .i64 (lead digB s.data.toList)) ∧ Below w.heap.size w w' :=
  lex_lead 146 enters_digit (fun x => decide (48 ≤ (x : Int) ∧ (x : Int) ≤ 57)) (fun x W => lex_digit x W) digB (fun c _ => by unfold digB; congr 1; simp only [eq_iff_iff]; omega) (fun n hn => by simp; omega) (fun c hc => by simp [digB]; omega) s w
theorem lead_letter (s : ByteArray) (w : World) : Calls Tryd.prog 119 #[.string s, .func (.func 147) #[] #[]] w fun e w' => e = .returned (.int .i64 (lead letB s.data.toList)) ∧ Below w.heap.size w w' :=
  lex_lead 147 enters_letter (fun x => decide (97 ≤ (x : Int) ∧ (x : Int) ≤ 122)) (fun x W => lex_letter x W) letB (fun c _ => by unfold letB; congr 1; simp only [eq_iff_iff]; omega) (fun n hn => by simp; omega) (fun c hc => by simp [letB]; omega) s w
theorem lead_blank (s : ByteArray) (w : World) : Calls Tryd.prog 119 #[.string s, .func (.func 120) #[] #[]] w fun e w' => e = .returned (.int .i64 (lead blB s.data.toList)) ∧ Below w.heap.size w w' :=
  lex_lead 120 enters_blank (fun x => (x : Int) == 32) (fun x W => lex_blank x W) blB (fun c _ => by
    unfold blB
    by_cases h : c.toNat = 32
    · simp [h]
    · rw [decide_eq_false h]
      simp only [beq_eq_false_iff_ne]; omega) (fun n hn => by simp only [beq_eq_false_iff_ne]; omega) (fun c hc => by simp [blB]; omega) s w

theorem num_Read_take (s : ByteArray) (n : Nat) (hn : n ≤ s.size) (hs : s.size ≤ 140737488351232) (w : World) (hG : G w) :
    Calls Tryd.prog 44 #[.string (s.extract 0 n)] w fun e w' =>
    e = .returned (.tuple #[.int .i64 (readOf (s.data.toList.take n)).1, .int .i64 (readOf (s.data.toList.take n)).2]) ∧ Below w.heap.size w w' := by
  have h : (s.extract 0 n).data.toList = s.data.toList.take n := by simp
  have := num_Read (s.extract 0 n) (by simp; omega) w hG
  rwa [h] at this

theorem tokOf_dig (l : List UInt8) (h : 0 < lead digB l) : tokOf l = if (readOf (l.take (lead digB l))).2 = 0 ∧ (readOf (l.take (lead digB l))).1 ≤ 1099511627776 then (1, (readOf (l.take (lead digB l))).1, lead digB l) else (0, 0, 0) := by
  unfold tokOf; rw [if_pos h]
theorem tokOf_let (l : List UInt8) (h0 : ¬ 0 < lead digB l) (h : 0 < lead letB l) : tokOf l = if lead letB l = 1 then (2, ((l.headD 0).toNat : Int) - 97, 1) else if l.take (lead letB l) = within then (3, 0, lead letB l) else (0, 0, 0) := by
  unfold tokOf; rw [if_neg h0, if_pos h]
theorem tokOf_op (l : List UInt8) (h0 : ¬ 0 < lead digB l) (h1 : ¬ 0 < lead letB l) : tokOf l = if 0 < opOf l then (4, (opOf l : Int), (opText (opOf l)).length) else if signB (l.headD 0) = true then (5, ((l.headD 0).toNat : Int), 1) else (0, 0, 0) := by
  unfold tokOf; rw [if_neg h0, if_neg h1]

/-- what token tells -/
def TokPost (s : ByteArray) (w : World) (e : Ending) (w' : World) : Prop :=
  e = .returned (.tuple #[.agg #[.int .u8 (tokOf s.data.toList).1, .int .i64 (tokOf s.data.toList).2.1, .int .i64 0], .int .i64 (tokOf s.data.toList).2.2]) ∧ Below w.heap.size w w'
theorem tokPost_of {s : ByteArray} {w : World} {v : Value} {w' : World} {k n : Int} {m : Nat} (h : tokOf s.data.toList = (k, n, m)) (hv : v = .tuple #[.agg #[.int .u8 k, .int .i64 n, .int .i64 0], .int .i64 m]) (hb : Below w.heap.size w w') : TokPost s w (.returned v) w' := by
  unfold TokPost; rw [h, hv]; exact ⟨rfl, hb⟩

theorem token_end {s : ByteArray} {w W : World} {tmps : Array Value} {k n : Int} {m B : Nat} {cs : Array Value} (h2 : tmps.getD 2 undef = .pointer (some ⟨B, 0, none⟩)) (h3 : tmps.getD 3 undef = .int .i64 m) (hh : Holds W B 51 cs)
    (hcs : cs = #[.int .u8 k, .int .i64 n, .int .i64 0]) (ht : tokOf s.data.toList = (k, n, m)) (hb : Below w.heap.size w W) : bodyPost Tryd.prog Tryd.f121 (TokPost s w) .ret { tmps := tmps, defers := [] } W := by
  subst hcs
  refine bodyPost_ret (results_first rfl _ _ B _ _ _ h2 hh Tryd.underlying51 rfl (by kernel_rfl)) rfl (tokPost_of ht ?_ hb)
  rw [h3]

/-- the cells of a new token, in later worlds -/
theorem tok_cells {W : World} {b : Nat} {x y z : Value} (h : Holds W b 51 #[x, y, z]) : W.cell? ⟨b, 0, none⟩ = some x ∧ W.cell? ⟨b, 1, none⟩ = some y ∧ W.cell? ⟨b, 2, none⟩ = some z := ⟨h.cell 0, h.cell 1, h.cell 2⟩
theorem below_tok {w W : World} (h : Below w.heap.size w W) (x y z : Value) : Below w.heap.size w (((W.setCell ⟨w.heap.size, 0, none⟩ x).setCell ⟨w.heap.size, 1, none⟩ y).setCell ⟨w.heap.size, 2, none⟩ z) :=
  ((h.setCell (p := ⟨w.heap.size, 0, none⟩) (Nat.le_refl _) x).setCell (p := ⟨w.heap.size, 1, none⟩) (Nat.le_refl _) y).setCell (p := ⟨w.heap.size, 2, none⟩) (Nat.le_refl _) z

set_option maxRecDepth 100000 in
set_option maxHeartbeats 1000000 in
theorem token_number (s : ByteArray) (hs : s.size ≤ 140737488351232) (w : World) (hG : GL w) (hl : 0 < lead digB s.data.toList) : Calls Tryd.prog 121 #[.string s] w (TokPost s w) := by
  have hle : lead digB s.data.toList ≤ s.size := by have := lead_le digB s.data.toList; simpa using this
  have htok := tokOf_dig s.data.toList hl
  have c1 := fun w => lead_digit s w
  have c2 := fun w hG => num_Read_take s (lead digB s.data.toList) hle hs w hG
  have hrng := readOf_range (s.data.toList.take (lead digB s.data.toList))
  generalize lead digB s.data.toList = n at *
  generalize readOf (s.data.toList.take n) = r at *
  obtain ⟨m, er⟩ := r
  simp only at htok c2 hrng
  have C1 := Lib.hid c1; clear c1
  have C2 := Lib.hid c2; clear c2
  by_cases h0 : er = 0 ∧ m ≤ 1099511627776
  · obtain ⟨rfl, h1⟩ := h0
    rw [if_pos ⟨rfl, h1⟩] at htok
    have HT := Lib.hid htok; clear htok
    go_enter Tryd.func121, Tryd.ntmps121
    go_wp2_with fail
    refine wp_fwd 0 rfl ?_
    go_wp2_with fail
    refine (C1.out _).mono ?_
    rintro e w1 ⟨rfl, hb1⟩
    have hG1 := (hG.alloc _).mono hb1
    have hB1 := ((Below.refl w.heap.size w).alloc (Nat.le_refl _) _).trans (hb1.mono (by simp))
    have hz1 := (Holds.fresh w 51 #[.int .u8 0, .int .i64 0, .int .i64 0]).later hb1
    clear hb1
    go_wp2_with fail
    refine (C2.out _ hG1.g).mono ?_
    rintro e w2 ⟨rfl, hb2⟩
    have hB2 := hB1.trans (hb2.mono hB1.size)
    have hz2 := hz1.later hb2
    obtain ⟨z0, z1, z2⟩ := tok_cells hz2
    have zf := hz2.free
    have hs2 := hz2.size
    go_wp2_with fail
    rw [fwd_ret]
    exact token_end rfl rfl (((hz2.set 0 _).set 1 _).set 2 _) rfl HT.out (below_tok hB2 _ _ _)
  · rw [if_neg h0] at htok
    have HT := Lib.hid htok; clear htok
    by_cases he : er = 0
    · subst he
      have hm : ¬ m ≤ 1099511627776 := fun h => h0 ⟨rfl, h⟩
      clear h0
      go_enter Tryd.func121, Tryd.ntmps121
      go_wp2_with fail
      refine wp_fwd 0 rfl ?_
      go_wp2_with fail
      refine (C1.out _).mono ?_
      rintro e w1 ⟨rfl, hb1⟩
      have hG1 := (hG.alloc _).mono hb1
      have hB1 := ((Below.refl w.heap.size w).alloc (Nat.le_refl _) _).trans (hb1.mono (by simp))
      have hz1 := (Holds.fresh w 51 #[.int .u8 0, .int .i64 0, .int .i64 0]).later hb1
      clear hb1
      go_wp2_with fail
      refine (C2.out _ hG1.g).mono ?_
      rintro e w2 ⟨rfl, hb2⟩
      have hB2 := hB1.trans (hb2.mono hB1.size)
      have hz2 := hz1.later hb2
      obtain ⟨z0, z1, z2⟩ := tok_cells hz2
      have zf := hz2.free
      have hs2 := hz2.size
      go_wp2_with fail
      apply wp_goto
      refine fwd_goto ?_
      go_wp2_with fail
      rw [Exit.noGoto_ret]
      exact token_end rfl rfl (((hz2.set 0 _).set 1 _).set 2 _) rfl HT.out (below_tok hB2 _ _ _)
    · have he' : (er != 0) = true := by simpa using he
      clear h0
      go_enter Tryd.func121, Tryd.ntmps121
      go_wp2_with fail
      refine wp_fwd 0 rfl ?_
      go_wp2_with fail
      refine (C1.out _).mono ?_
      rintro e w1 ⟨rfl, hb1⟩
      have hG1 := (hG.alloc _).mono hb1
      have hB1 := ((Below.refl w.heap.size w).alloc (Nat.le_refl _) _).trans (hb1.mono (by simp))
      have hz1 := (Holds.fresh w 51 #[.int .u8 0, .int .i64 0, .int .i64 0]).later hb1
      clear hb1
      go_wp2_with fail
      refine (C2.out _ hG1.g).mono ?_
      rintro e w2 ⟨rfl, hb2⟩
      have hB2 := hB1.trans (hb2.mono hB1.size)
      have hz2 := hz1.later hb2
      obtain ⟨z0, z1, z2⟩ := tok_cells hz2
      have zf := hz2.free
      have hs2 := hz2.size
      go_wp2_with fail
      apply wp_goto
      refine fwd_goto ?_
      go_wp2_with fail
      rw [Exit.noGoto_ret]
      exact token_end rfl rfl (((hz2.set 0 _).set 1 _).set 2 _) rfl HT.out (below_tok hB2 _ _ _)

theorem head_get (s : ByteArray) (h : 0 < s.size) : s.data.toList.headD 0 = s[0] := by
  obtain ⟨⟨l⟩⟩ := s
  cases l with
  | nil => exact absurd h (Nat.lt_irrefl 0)
  | cons c r => rfl
theorem within_eq (s : ByteArray) (n : Nat) : (s.extract 0 n).toList = s.data.toList.take n := by
  rw [ByteArray.toList_eq, Lib.extract_data]; rfl

set_option maxRecDepth 100000 in
set_option maxHeartbeats 1000000 in
theorem token_letter (s : ByteArray) (hs : s.size ≤ 140737488351232) (w : World) (hd : ¬ 0 < lead digB s.data.toList) (hl : 0 < lead letB s.data.toList) : Calls Tryd.prog 121 #[.string s] w (TokPost s w) := by
  have hle : lead letB s.data.toList ≤ s.size := by have := lead_le letB s.data.toList; simpa using this
  have htok := tokOf_let s.data.toList hd hl
  have c1 := fun w => lead_digit s w
  rw [show lead digB s.data.toList = 0 from by omega] at c1
  have c2 := fun w => lead_letter s w
  have hpos : 0 < s.size := by omega
  have hc : 97 ≤ (s[0].toNat : Int) ∧ (s[0].toNat : Int) ≤ 122 := by
    obtain ⟨c, r, e, hc⟩ := (lead_pos letB s.data.toList).1 hl
    have h1 : s[0] = c := by rw [← head_get s hpos, e]; rfl
    rw [h1]
    have : 97 ≤ c.toNat ∧ c.toNat ≤ 122 := by simpa [letB] using hc
    omega
  obtain ⟨hc1, hc2⟩ := hc
  rw [head_get s hpos] at htok
  generalize lead letB s.data.toList = n at *
  have C1 := Lib.hid c1; clear c1 hd
  have C2 := Lib.hid c2; clear c2
  by_cases h1 : n = 1
  · subst h1
    rw [if_pos rfl] at htok
    have HT := Lib.hid htok; clear htok
    go_enter Tryd.func121, Tryd.ntmps121
    go_wp2_with fail
    refine wp_fwd 0 rfl ?_
    go_wp2_with fail
    refine (C1.out _).mono ?_
    rintro e w1 ⟨rfl, hb1⟩
    have hB1 := ((Below.refl w.heap.size w).alloc (Nat.le_refl _) _).trans (hb1.mono (by simp))
    have hz1 := (Holds.fresh w 51 #[.int .u8 0, .int .i64 0, .int .i64 0]).later hb1
    clear hb1
    go_wp2_with fail
    refine (C2.out _).mono ?_
    rintro e w2 ⟨rfl, hb2⟩
    have hB2 := hB1.trans (hb2.mono hB1.size)
    have hz2 := hz1.later hb2
    obtain ⟨z0, z1, z2⟩ := tok_cells hz2
    have zf := hz2.free
    have hs2 := hz2.size
    go_wp2_with fail
    rw [fwd_ret]
    exact token_end rfl rfl (((hz2.set 0 _).set 1 _).set 2 _) rfl HT.out (below_tok hB2 _ _ _)
  · rw [if_neg h1] at htok
    have hn1 : ((n : Int) == 1) = false := by simp only [beq_eq_false_iff_ne]; omega
    by_cases hw : s.data.toList.take n = within
    · rw [if_pos hw] at htok
      have hw1 : ((s.extract 0 n).toList == [119, 105, 116, 104, 105, 110]) = true := by rw [within_eq, hw]; rfl
      have HT := Lib.hid htok; clear htok hw
      go_enter Tryd.func121, Tryd.ntmps121
      go_wp2_with fail
      refine wp_fwd 0 rfl ?_
      go_wp2_with fail
      refine (C1.out _).mono ?_
      rintro e w1 ⟨rfl, hb1⟩
      have hB1 := ((Below.refl w.heap.size w).alloc (Nat.le_refl _) _).trans (hb1.mono (by simp))
      have hz1 := (Holds.fresh w 51 #[.int .u8 0, .int .i64 0, .int .i64 0]).later hb1
      clear hb1
      go_wp2_with fail
      refine (C2.out _).mono ?_
      rintro e w2 ⟨rfl, hb2⟩
      have hB2 := hB1.trans (hb2.mono hB1.size)
      have hz2 := hz1.later hb2
      obtain ⟨z0, z1, z2⟩ := tok_cells hz2
      have zf := hz2.free
      have hs2 := hz2.size
      go_wp2_with fail
      rw [fwd_ret]
      exact token_end rfl rfl (((hz2.set 0 _).set 1 _).set 2 _) rfl HT.out (below_tok hB2 _ _ _)
    · rw [if_neg hw] at htok
      have hw1 : ((s.extract 0 n).toList == [119, 105, 116, 104, 105, 110]) = false := by rw [within_eq]; simpa [within] using hw
      have HT := Lib.hid htok; clear htok hw
      go_enter Tryd.func121, Tryd.ntmps121
      go_wp2_with fail
      refine wp_fwd 0 rfl ?_
      go_wp2_with fail
      refine (C1.out _).mono ?_
      rintro e w1 ⟨rfl, hb1⟩
      have hB1 := ((Below.refl w.heap.size w).alloc (Nat.le_refl _) _).trans (hb1.mono (by simp))
      have hz1 := (Holds.fresh w 51 #[.int .u8 0, .int .i64 0, .int .i64 0]).later hb1
      clear hb1
      go_wp2_with fail
      refine (C2.out _).mono ?_
      rintro e w2 ⟨rfl, hb2⟩
      have hB2 := hB1.trans (hb2.mono hB1.size)
      have hz2 := hz1.later hb2
      obtain ⟨z0, z1, z2⟩ := tok_cells hz2
      have zf := hz2.free
      have hs2 := hz2.size
      go_wp2_with fail
      apply wp_goto
      refine fwd_goto ?_
      go_wp2_with fail
      rw [Exit.noGoto_ret]
      exact token_end rfl rfl (((hz2.set 0 _).set 1 _).set 2 _) rfl HT.out (below_tok hB2 _ _ _)

theorem indexByte_mem (c : UInt8) : ∀ l : List UInt8, (0 ≤ Lib.indexByte l c ↔ c ∈ l) ∧ -1 ≤ Lib.indexByte l c
  | [] => by simp [Lib.indexByte]
  | b :: l => by
    obtain ⟨h1, h2⟩ := indexByte_mem c l
    unfold Lib.indexByte
    by_cases hb : b = c
    · subst hb; simp
    · rw [if_neg (by simpa using hb)]
      by_cases hx : Lib.indexByte l c = -1
      · rw [if_pos (by simpa using hx)]
        have : c ∉ l := fun h => by have := h1.2 h; omega
        simp [this, Ne.symm hb]
      · rw [if_neg (by simpa using hx)]
        have : c ∈ l := h1.1 (by omega)
        exact ⟨⟨fun _ => List.mem_cons_of_mem _ this, fun _ => by omega⟩, by omega⟩
theorem indexByte_signs (c : UInt8) : 0 ≤ Lib.indexByte [33, 123, 125, 91, 93, 40, 41, 44, 59, 38, 43, 45] c ↔ signB c = true := by
  rw [(indexByte_mem c _).1]
  simp [signB, signL]
theorem cell_behind {W : World} {b b' o : Nat} {u : Value} (h : W.cell? ⟨b, o, none⟩ = some u) (hne : b ≠ b') (x y z : Value) :
    (((W.setCell ⟨b', 0, none⟩ x).setCell ⟨b', 1, none⟩ y).setCell ⟨b', 2, none⟩ z).drew.cell? ⟨b, o, none⟩ = some u := by
  show (((W.setCell ⟨b', 0, none⟩ x).setCell ⟨b', 1, none⟩ y).setCell ⟨b', 2, none⟩ z).cell? ⟨b, o, none⟩ = some u
  rw [World.cell?_setCell_other _ _ _ _ (fun e => hne (congrArg Addr.block e).symm), World.cell?_setCell_other _ _ _ _ (fun e => hne (congrArg Addr.block e).symm), World.cell?_setCell_other _ _ _ _ (fun e => hne (congrArg Addr.block e).symm)]
  exact h

set_option maxRecDepth 100000 in
set_option maxHeartbeats 1000000 in
theorem token_else (s : ByteArray) (hpos : 0 < s.size) (w : World) (hG : GL w) (hd : ¬ 0 < lead digB s.data.toList) (hl : ¬ 0 < lead letB s.data.toList) : Calls Tryd.prog 121 #[.string s] w (TokPost s w) := by
  have htok := tokOf_op s.data.toList hd hl
  have c1 := fun w => lead_digit s w
  have c2 := fun w => lead_letter s w
  have c3 := fun w hG => lex_op s w hG
  rw [show lead digB s.data.toList = 0 from by omega] at c1
  rw [show lead letB s.data.toList = 0 from by omega] at c2
  have hol : opOf s.data.toList < 7 := by
    cases e : s.data.toList with
    | nil => exact (by decide : 0 < 7)
    | cons c r =>
      rcases Nat.eq_zero_or_pos (opOf (c :: r)) with h | h
      · omega
      · exact (opText_app c r h).2
  rw [head_get s hpos] at htok
  generalize opOf s.data.toList = o at *
  have C1 := Lib.hid c1; clear c1 hd
  have C2 := Lib.hid c2; clear c2 hl
  have C3 := Lib.hid c3; clear c3
  by_cases h0 : 0 < o
  · rw [if_pos h0, ← opS_size] at htok
    have HT := Lib.hid htok; clear htok
    go_enter Tryd.func121, Tryd.ntmps121
    go_wp2_with fail
    refine wp_fwd 0 rfl ?_
    go_wp2_with fail
    refine (C1.out _).mono ?_
    rintro e w1 ⟨rfl, hb1⟩
    have hB1 := ((Below.refl w.heap.size w).alloc (Nat.le_refl _) _).trans (hb1.mono (by simp))
    have hz1 := (Holds.fresh w 51 #[.int .u8 0, .int .i64 0, .int .i64 0]).later hb1
    clear hb1
    go_wp2_with fail
    refine (C2.out _).mono ?_
    rintro e w2 ⟨rfl, hb2⟩
    have hB2 := hB1.trans (hb2.mono hB1.size)
    have hz2 := hz1.later hb2
    have hG2 := hG.mono' hB2 (Nat.le_refl _)
    obtain ⟨z0, z1, z2⟩ := tok_cells hz2
    have zf := hz2.free
    have hs2 := hz2.size
    go_wp2_with fail
    refine (C3.out _ hG2).mono ?_
    rintro e w3 ⟨rfl, rfl⟩
    have hcell := hG2.cell o hol
    have hlo : 2 ≠ w.heap.size := by have := cell_lt (hG.cell 0 (by omega)); simp only at this; omega
    go_wp2_with fail
    have hoi : (o : Int) < 7 := by omega
    have hcell2 := cell_behind hcell hlo (.int .u8 4) (.int .i64 o) (.int .i64 0)
    go_region
    go_wp2_with fail
    rw [fwd_ret]
    exact token_end rfl rfl (((hz2.set 0 _).set 1 _).set 2 _).drew rfl HT.out (below_tok hB2 _ _ _).drew
  · rw [if_neg h0] at htok
    obtain rfl : o = 0 := by omega
    have c4 : ∀ w, Calls Tryd.prog 90 #[.string ⟨#[33, 123, 125, 91, 93, 40, 41, 44, 59, 38, 43, 45]⟩, .int .u8 (s[0].toNat : Int)] w fun e w' => e = .returned (.int .i64 (Lib.indexByte [33, 123, 125, 91, 93, 40, 41, 44, 59, 38, 43, 45] s[0])) ∧ w = w' := by
      intro w
      have := Tryd.strings_IndexByte ⟨#[33, 123, 125, 91, 93, 40, 41, 44, 59, 38, 43, 45]⟩ (s[0].toNat : Int) w
      rw [show ((s[0].toNat : Int)).toNat.toUInt8 = s[0] from by simp] at this
      exact this.mono fun _ _ h => ⟨h.1, h.2.symm⟩
    have hx := indexByte_signs s[0]
    have hc0 : 0 ≤ (s[0].toNat : Int) := by omega
    have hc1 : (s[0].toNat : Int) < 256 := by have := s[0].toNat_lt; omega
    generalize Lib.indexByte [33, 123, 125, 91, 93, 40, 41, 44, 59, 38, 43, 45] s[0] = x at *
    have C4 := Lib.hid (c4); clear c4
    by_cases hsg : signB s[0] = true
    · rw [if_pos hsg] at htok
      have h0x := hx.2 hsg
      have HT := Lib.hid htok; clear htok hx hsg
      go_enter Tryd.func121, Tryd.ntmps121
      go_wp2_with fail
      refine wp_fwd 0 rfl ?_
      go_wp2_with fail
      refine (C1.out _).mono ?_
      rintro e w1 ⟨rfl, hb1⟩
      have hB1 := ((Below.refl w.heap.size w).alloc (Nat.le_refl _) _).trans (hb1.mono (by simp))
      have hz1 := (Holds.fresh w 51 #[.int .u8 0, .int .i64 0, .int .i64 0]).later hb1
      clear hb1
      go_wp2_with fail
      refine (C2.out _).mono ?_
      rintro e w2 ⟨rfl, hb2⟩
      have hB2 := hB1.trans (hb2.mono hB1.size)
      have hz2 := hz1.later hb2
      have hG2 := hG.mono' hB2 (Nat.le_refl _)
      obtain ⟨z0, z1, z2⟩ := tok_cells hz2
      have zf := hz2.free
      have hs2 := hz2.size
      go_wp2_with fail
      refine (C3.out _ hG2).mono ?_
      rintro e w3 ⟨rfl, rfl⟩
      go_wp2_with fail
      refine (C4.out _).mono ?_
      rintro e w3 ⟨rfl, rfl⟩
      go_wp2_with fail
      rw [fwd_ret]
      exact token_end rfl rfl (((hz2.set 0 _).set 1 _).set 2 _) rfl HT.out (below_tok hB2 _ _ _)
    · rw [if_neg hsg] at htok
      have h0x : ¬ 0 ≤ x := fun h => hsg (hx.1 h)
      have HT := Lib.hid htok; clear htok hx hsg
      go_enter Tryd.func121, Tryd.ntmps121
      go_wp2_with fail
      refine wp_fwd 0 rfl ?_
      go_wp2_with fail
      refine (C1.out _).mono ?_
      rintro e w1 ⟨rfl, hb1⟩
      have hB1 := ((Below.refl w.heap.size w).alloc (Nat.le_refl _) _).trans (hb1.mono (by simp))
      have hz1 := (Holds.fresh w 51 #[.int .u8 0, .int .i64 0, .int .i64 0]).later hb1
      clear hb1
      go_wp2_with fail
      refine (C2.out _).mono ?_
      rintro e w2 ⟨rfl, hb2⟩
      have hB2 := hB1.trans (hb2.mono hB1.size)
      have hz2 := hz1.later hb2
      have hG2 := hG.mono' hB2 (Nat.le_refl _)
      obtain ⟨z0, z1, z2⟩ := tok_cells hz2
      have zf := hz2.free
      have hs2 := hz2.size
      go_wp2_with fail
      refine (C3.out _ hG2).mono ?_
      rintro e w3 ⟨rfl, rfl⟩
      go_wp2_with fail
      refine (C4.out _).mono ?_
      rintro e w3 ⟨rfl, rfl⟩
      go_wp2_with fail
      go_step3
      go_wp2_with fail
      rw [fwd_ret]
      exact token_end rfl rfl (((hz2.set 0 _).set 1 _).set 2 _) rfl HT.out (below_tok hB2 _ _ _)

theorem lex_token (s : ByteArray) (hpos : 0 < s.size) (hs : s.size ≤ 140737488351232) (w : World) (hG : GL w) : Calls Tryd.prog 121 #[.string s] w (TokPost s w) := by
  by_cases h1 : 0 < lead digB s.data.toList
  · exact token_number s hs w hG h1
  · by_cases h2 : 0 < lead letB s.data.toList
    · exact token_letter s hs w h1 h2
    · exact token_else s hpos w hG h1 h2
end Go.Proofs.YtafgincpoahefaaDoor
