/-
  straggleref07: next.
-/
import Derived.Test.YtafgincpoahefaaDoorRef7p
import Derived.Test.YtafgincpoahefaaDoorRef7b
import Derived.Test.YtafgincpoahefaaDoorRef1r
namespace Go.Proofs.YtafgincpoahefaaDoor
open Go.RowKit

theorem results_one {P : Program} {fn : Func} {p : Tmp} {ty : TypeId} (h : fn.results = #[.cell p ty]) (tmps : Array Value) (w : World) (b : Nat) (t : TypeId) (cs : Array Value) (d : TypeDesc)
    (hp : tmps.getD p undef = .pointer (some ⟨b, 0, none⟩)) (hb : Holds w b t cs) (hu : P.underlying ty = some d) (hd : (match d with | .struct _ | .array _ _ => true | _ => false) = true) (hi : (P.info? ty).map (·.size) = some cs.size) :
    (results fn tmps).run P w = .ok (.agg cs) w := by
  have hp' : tmps[p]?.getD undef = .pointer (some ⟨b, 0, none⟩) := by simpa using hp
  simp [results, h, hp', asAddr, run_loadVar_row w b t ty cs (0, 0) d hb hu hd hi]

def opRS (k : Nat) : ByteArray := ⟨(opR k).toArray⟩
def opRs : Array Value := #[.string (opRS 0), .string (opRS 1), .string (opRS 2), .string (opRS 3), .string (opRS 4), .string (opRS 5)]
def opCs : Array Value := #[.int .u8 2, .int .u8 4, .int .u8 6, .int .u8 1, .int .u8 3, .int .u8 5]
set_option maxRecDepth 100000 in
set_option maxHeartbeats 1000000 in
theorem ref_ops (w : World) : Calls Tryd.prog 80 #[] w fun e w' => e = .returned (.agg opRs) ∧ Below w.heap.size w w' := by
  go_enter Tryd.func80, Tryd.ntmps80
  go_wp2_with fail
  exact bodyPost_ret (results_one rfl _ _ w.heap.size 110 _ _ rfl (Holds.fresh w _ _) Tryd.underlying110 rfl (by kernel_rfl)) rfl ⟨rfl, (Below.refl _ _).alloc (Nat.le_refl _) _⟩
set_option maxRecDepth 100000 in
set_option maxHeartbeats 1000000 in
theorem ref_codes (w : World) : Calls Tryd.prog 79 #[] w fun e w' => e = .returned (.agg opCs) ∧ Below w.heap.size w w' := by
  go_enter Tryd.func79, Tryd.ntmps79
  go_wp2_with fail
  exact bodyPost_ret (results_one rfl _ _ w.heap.size 108 _ _ rfl (Holds.fresh w _ _) Tryd.underlying108 rfl (by kernel_rfl)) rfl ⟨rfl, (Below.refl _ _).alloc (Nat.le_refl _) _⟩
theorem index_r0 (w : World) : (Instr.index 110 (.agg opRs) (.int .i64 0)).run Tryd.prog w = .ok (.string (opRS 0)) w := by kernel_rfl
theorem index_r1 (w : World) : (Instr.index 110 (.agg opRs) (.int .i64 1)).run Tryd.prog w = .ok (.string (opRS 1)) w := by kernel_rfl
theorem index_r2 (w : World) : (Instr.index 110 (.agg opRs) (.int .i64 2)).run Tryd.prog w = .ok (.string (opRS 2)) w := by kernel_rfl
theorem index_r3 (w : World) : (Instr.index 110 (.agg opRs) (.int .i64 3)).run Tryd.prog w = .ok (.string (opRS 3)) w := by kernel_rfl
theorem index_r4 (w : World) : (Instr.index 110 (.agg opRs) (.int .i64 4)).run Tryd.prog w = .ok (.string (opRS 4)) w := by kernel_rfl
theorem index_r5 (w : World) : (Instr.index 110 (.agg opRs) (.int .i64 5)).run Tryd.prog w = .ok (.string (opRS 5)) w := by kernel_rfl
theorem index_rs (k : Nat) (hk : k < 6) (w : World) : (Instr.index 110 (.agg opRs) (.int .i64 k)).run Tryd.prog w = .ok (.string (opRS k)) w := by
  match k, hk with
  | 0, _ => exact index_r0 w
  | 1, _ => exact index_r1 w
  | 2, _ => exact index_r2 w
  | 3, _ => exact index_r3 w
  | 4, _ => exact index_r4 w
  | 5, _ => exact index_r5 w
theorem index_c0 (w : World) : (Instr.index 108 (.agg opCs) (.int .i64 0)).run Tryd.prog w = .ok (.int .u8 (opC 0 : Nat)) w := by kernel_rfl
theorem index_c1 (w : World) : (Instr.index 108 (.agg opCs) (.int .i64 1)).run Tryd.prog w = .ok (.int .u8 (opC 1 : Nat)) w := by kernel_rfl
theorem index_c2 (w : World) : (Instr.index 108 (.agg opCs) (.int .i64 2)).run Tryd.prog w = .ok (.int .u8 (opC 2 : Nat)) w := by kernel_rfl
theorem index_c3 (w : World) : (Instr.index 108 (.agg opCs) (.int .i64 3)).run Tryd.prog w = .ok (.int .u8 (opC 3 : Nat)) w := by kernel_rfl
theorem index_c4 (w : World) : (Instr.index 108 (.agg opCs) (.int .i64 4)).run Tryd.prog w = .ok (.int .u8 (opC 4 : Nat)) w := by kernel_rfl
theorem index_c5 (w : World) : (Instr.index 108 (.agg opCs) (.int .i64 5)).run Tryd.prog w = .ok (.int .u8 (opC 5 : Nat)) w := by kernel_rfl
theorem index_cs (k : Nat) (hk : k < 6) (w : World) : (Instr.index 108 (.agg opCs) (.int .i64 k)).run Tryd.prog w = .ok (.int .u8 (opC k : Nat)) w := by
  match k, hk with
  | 0, _ => exact index_c0 w
  | 1, _ => exact index_c1 w
  | 2, _ => exact index_c2 w
  | 3, _ => exact index_c3 w
  | 4, _ => exact index_c4 w
  | 5, _ => exact index_c5 w

/-- what next tells -/
def NextPost (s : ByteArray) (a : Nat) (w : World) (e : Ending) (w' : World) : Prop :=
  e = .returned (.tuple #[.agg #[.int .u8 (tokOf (s.data.toList.drop a)).1, .int .i64 (tokOf (s.data.toList.drop a)).2.1, .int .i64 (if (tokOf (s.data.toList.drop a)).2.2 = 0 then 0 else (a : Int))], .int .i64 (tokOf (s.data.toList.drop a)).2.2]) ∧ Below w.heap.size w w'
theorem next_end {s : ByteArray} {a : Nat} {w W : World} {tmps : Array Value} {k n : Int} {m B : Nat} {x : Int} {cs : Array Value} (h2 : tmps.getD 4 undef = .pointer (some ⟨B, 0, none⟩)) (h3 : tmps.getD 5 undef = .int .i64 m) (hh : Holds W B 51 cs)
    (hcs : cs = #[.int .u8 k, .int .i64 n, .int .i64 x]) (hx : x = if m = 0 then 0 else (a : Int)) (ht : tokOf (s.data.toList.drop a) = (k, n, m)) (hb : Below w.heap.size w W) : bodyPost Tryd.prog Tryd.f78 (NextPost s a w) .ret { tmps := tmps, defers := [] } W := by
  subst hcs
  refine bodyPost_ret (results_first rfl _ _ B _ _ _ h2 hh Tryd.underlying51 rfl (by kernel_rfl)) rfl ?_
  unfold NextPost
  rw [ht, h3, hx]
  exact ⟨rfl, hb⟩

theorem extract_take (s : ByteArray) (a n : Nat) : (s.extract a (a + n)).data.toList = (s.data.toList.drop a).take n := by
  rw [Lib.extract_data, show a + n - a = n from by omega]
set_option maxRecDepth 100000 in
set_option maxHeartbeats 1000000 in
theorem next_number (s : ByteArray) (hs : s.size ≤ 140737488351232) (a : Nat) (ha : a < s.size) (w : World) (hl : 0 < lead digB (s.data.toList.drop a)) : Calls Tryd.prog 78 #[.string s, .int .i64 a] w (NextPost s a w) := by
  have hle : a + lead digB (s.data.toList.drop a) ≤ s.size := by have := lead_le digB (s.data.toList.drop a); simp at this; omega
  have htok := tokOf_dig (s.data.toList.drop a) hl
  have c1 := fun w => ref_run_digits s hs a (by omega) w
  have hall := all_take_lead digB (s.data.toList.drop a)
  have hrng := readOf_range ((s.data.toList.drop a).take (lead digB (s.data.toList.drop a)))
  generalize lead digB (s.data.toList.drop a) = n at *
  have c2 := fun w => ref_Read_digits (s.extract a (a + n)) (by simp; omega) (by rw [extract_take]; exact hall) (by simp; omega) w
  rw [extract_take] at c2
  generalize readOf ((s.data.toList.drop a).take n) = r at *
  obtain ⟨m, er⟩ := r
  simp only at htok c2 hrng
  have C1 := Lib.hid c1; clear c1
  have C2 := Lib.hid c2; clear c2 hall
  by_cases h0 : er = 0 ∧ m ≤ 1099511627776
  · obtain ⟨rfl, h1⟩ := h0
    rw [if_pos ⟨rfl, h1⟩] at htok
    have HT := Lib.hid htok; clear htok
    have hx : (a : Int) = if n = 0 then 0 else (a : Int) := by rw [if_neg (by omega)]
    have HX := Lib.hid hx; clear hx
    go_enter Tryd.func78, Tryd.ntmps78
    go_wp2_with fail
    refine (C1.out _).mono ?_
    rintro e w1 ⟨rfl, rfl⟩
    go_wp2_with fail
    refine (C2.out _).mono ?_
    rintro e w1 ⟨rfl, rfl⟩
    go_wp2_with fail
    exact next_end rfl rfl (Holds.fresh w _ _) rfl HX.out HT.out ((Below.refl _ _).alloc (Nat.le_refl _) _)
  · rw [if_neg h0] at htok
    have HT := Lib.hid htok; clear htok
    by_cases he : er = 0
    · subst he
      have hm : ¬ m ≤ 1099511627776 := fun h => h0 ⟨rfl, h⟩
      clear h0
      go_enter Tryd.func78, Tryd.ntmps78
      go_wp2_with fail
      refine (C1.out _).mono ?_
      rintro e w1 ⟨rfl, rfl⟩
      go_wp2_with fail
      refine (C2.out _).mono ?_
      rintro e w1 ⟨rfl, rfl⟩
      go_wp2_with fail
      exact next_end rfl rfl (Holds.fresh w _ _) rfl rfl HT.out ((Below.refl _ _).alloc (Nat.le_refl _) _)
    · have he' : (er != 0) = true := by simpa using he
      clear h0
      go_enter Tryd.func78, Tryd.ntmps78
      go_wp2_with fail
      refine (C1.out _).mono ?_
      rintro e w1 ⟨rfl, rfl⟩
      go_wp2_with fail
      refine (C2.out _).mono ?_
      rintro e w1 ⟨rfl, rfl⟩
      go_wp2_with fail
      exact next_end rfl rfl (Holds.fresh w _ _) rfl rfl HT.out ((Below.refl _ _).alloc (Nat.le_refl _) _)

theorem head_drop (s : ByteArray) (a : Nat) (h : a < s.size) : (s.data.toList.drop a).headD 0 = s[a] := by
  rw [List.drop_eq_getElem_cons (by simpa using h), List.headD_cons, bytes_at s a h]
theorem within_drop (s : ByteArray) (a n : Nat) : (s.extract a (a + n)).toList = (s.data.toList.drop a).take n := by
  rw [ByteArray.toList_eq, extract_take]
set_option maxRecDepth 100000 in
set_option maxHeartbeats 1000000 in
theorem next_letter (s : ByteArray) (hs : s.size ≤ 140737488351232) (a : Nat) (ha : a < s.size) (w : World) (hd : ¬ 0 < lead digB (s.data.toList.drop a)) (hl : 0 < lead letB (s.data.toList.drop a)) : Calls Tryd.prog 78 #[.string s, .int .i64 a] w (NextPost s a w) := by
  have hle : a + lead letB (s.data.toList.drop a) ≤ s.size := by have := lead_le letB (s.data.toList.drop a); simp at this; omega
  have htok := tokOf_let (s.data.toList.drop a) hd hl
  have c1 := fun w => ref_run_digits s hs a (by omega) w
  rw [show lead digB (s.data.toList.drop a) = 0 from by omega] at c1
  have c2 := fun w => ref_run_letters s hs a (by omega) w
  have hc : 97 ≤ (s[a].toNat : Int) ∧ (s[a].toNat : Int) ≤ 122 := by
    obtain ⟨c, r, e, hc⟩ := (lead_pos letB (s.data.toList.drop a)).1 hl
    have h1 : s[a] = c := by rw [← head_drop s a ha, e]; rfl
    rw [h1]
    have : 97 ≤ c.toNat ∧ c.toNat ≤ 122 := by simpa [letB] using hc
    omega
  obtain ⟨hc1, hc2⟩ := hc
  rw [head_drop s a ha] at htok
  generalize lead letB (s.data.toList.drop a) = n at *
  have C1 := Lib.hid c1; clear c1 hd
  have C2 := Lib.hid c2; clear c2
  by_cases h1 : n = 1
  · subst h1
    rw [if_pos rfl] at htok
    have HT := Lib.hid htok; clear htok
    go_enter Tryd.func78, Tryd.ntmps78
    go_wp2_with fail
    refine (C1.out _).mono ?_
    rintro e w1 ⟨rfl, rfl⟩
    go_wp2_with fail
    refine (C2.out _).mono ?_
    rintro e w1 ⟨rfl, rfl⟩
    go_wp2_with fail
    exact next_end rfl rfl (Holds.fresh w _ _) rfl rfl HT.out ((Below.refl _ _).alloc (Nat.le_refl _) _)
  · rw [if_neg h1] at htok
    have hn1 : ((n : Int) == 1) = false := by simp only [beq_eq_false_iff_ne]; omega
    by_cases hw : (s.data.toList.drop a).take n = within
    · rw [if_pos hw] at htok
      have hw1 : ((s.extract a (a + n)).toList == [119, 105, 116, 104, 105, 110]) = true := by rw [within_drop, hw]; rfl
      have hx : (a : Int) = if n = 0 then 0 else (a : Int) := by rw [if_neg (by omega)]
      have HX := Lib.hid hx; clear hx
      have HT := Lib.hid htok; clear htok hw
      go_enter Tryd.func78, Tryd.ntmps78
      go_wp2_with fail
      refine (C1.out _).mono ?_
      rintro e w1 ⟨rfl, rfl⟩
      go_wp2_with fail
      refine (C2.out _).mono ?_
      rintro e w1 ⟨rfl, rfl⟩
      go_wp2_with fail
      exact next_end rfl rfl (Holds.fresh w _ _) rfl HX.out HT.out ((Below.refl _ _).alloc (Nat.le_refl _) _)
    · rw [if_neg hw] at htok
      have hw1 : ((s.extract a (a + n)).toList == [119, 105, 116, 104, 105, 110]) = false := by rw [within_drop]; simpa [within] using hw
      have HT := Lib.hid htok; clear htok hw
      go_enter Tryd.func78, Tryd.ntmps78
      go_wp2_with fail
      refine (C1.out _).mono ?_
      rintro e w1 ⟨rfl, rfl⟩
      go_wp2_with fail
      refine (C2.out _).mono ?_
      rintro e w1 ⟨rfl, rfl⟩
      go_wp2_with fail
      exact next_end rfl rfl (Holds.fresh w _ _) rfl rfl HT.out ((Below.refl _ _).alloc (Nat.le_refl _) _)

theorem opRS_size (k : Nat) : (opRS k).size = (opR k).length := by simp [opRS, ByteArray.size]
theorem opRS_list (k : Nat) : (opRS k).toList = opR k := by rw [ByteArray.toList_eq]; rfl
theorem opB_yes (s : ByteArray) (a k : Nat) (ha : a ≤ s.size) (h : opB k (s.data.toList.drop a) = true) : ((opRS k).size : Int) ≤ (s.size : Int) - (a : Int) ∧ ((s.extract a (a + (opRS k).size)).toList == (opRS k).toList) = true := by
  have h1 : (s.data.toList.drop a).take (opR k).length = opR k := by simpa [opB] using h
  have h2 := congrArg List.length h1
  rw [List.length_take, List.length_drop, show s.data.toList.length = s.size from by simp] at h2
  rw [opRS_list, opRS_size, within_drop, h1]
  exact ⟨by omega, by simp⟩
theorem opB_no (s : ByteArray) (a k : Nat) (h : opB k (s.data.toList.drop a) = false) : ¬ (((opRS k).size : Int) ≤ (s.size : Int) - (a : Int)) ∨ ((s.extract a (a + (opRS k).size)).toList == (opRS k).toList) = false := by
  right
  have h1 : ¬ (s.data.toList.drop a).take (opR k).length = opR k := by simpa [opB] using h
  rw [opRS_list, opRS_size, within_drop]
  simpa using h1

set_option maxRecDepth 100000 in
set_option maxHeartbeats 1000000 in
theorem next_else (s : ByteArray) (hs : s.size ≤ 140737488351232) (a : Nat) (ha : a < s.size) (w : World) (hd : ¬ 0 < lead digB (s.data.toList.drop a)) (hl : ¬ 0 < lead letB (s.data.toList.drop a)) : Calls Tryd.prog 78 #[.string s, .int .i64 a] w (NextPost s a w) := by
  have htok := tokOf_op (s.data.toList.drop a) hd hl
  have c1 := fun w => ref_run_digits s hs a (by omega) w
  rw [show lead digB (s.data.toList.drop a) = 0 from by omega] at c1
  have c2 := fun w => ref_run_letters s hs a (by omega) w
  rw [show lead letB (s.data.toList.drop a) = 0 from by omega] at c2
  have C1 := Lib.hid c1; clear c1 hd
  have C2 := Lib.hid c2; clear c2 hl
  obtain ⟨K, hK6, hKno, hKyes, hK0⟩ : ∃ K, K ≤ 6 ∧ (∀ j, j < K → opB j (s.data.toList.drop a) = false) ∧ (K < 6 → opB K (s.data.toList.drop a) = true ∧ opOf (s.data.toList.drop a) = opC K) ∧ (K = 6 → opOf (s.data.toList.drop a) = 0) := by
    rw [List.drop_eq_getElem_cons (by simpa using ha)]
    exact op_first _ _
  rw [head_drop s a ha] at htok
  have htake : ∀ (k : Nat), opB k (s.data.toList.drop a) = decide ((s.data.toList.drop a).take (opR k).length = opR k) := fun k => rfl
  have hcs := fun w => ref_sign s[a] w
  have hc0 : 0 ≤ (s[a].toNat : Int) := by omega
  have hc1 : (s[a].toNat : Int) < 256 := by have := s[a].toNat_lt; omega
  have HNO := Lib.hid hKno; clear hKno
  have HYES := Lib.hid hKyes; clear hKyes
  have H0 := Lib.hid hK0; clear hK0
  have HT := Lib.hid htok; clear htok
  have HTK := Lib.hid htake; clear htake
  have CS := Lib.hid hcs; clear hcs
  have Z0 := Lib.hid (Holds.fresh w 51 #[.int .u8 0, .int .i64 0, .int .i64 0])
  have HX := Lib.hid ((Below.refl w.heap.size w).alloc (Nat.le_refl _) (.cells #[.int .u8 0, .int .i64 0, .int .i64 0] 51))
  go_enter Tryd.func78, Tryd.ntmps78
  go_wp2_with fail
  refine (C1.out _).mono ?_
  rintro e w1 ⟨rfl, rfl⟩
  go_wp2_with fail
  refine (C2.out _).mono ?_
  rintro e w1 ⟨rfl, rfl⟩
  go_wp2_with fail
  generalize w.alloc (.cells #[.int .u8 0, .int .i64 0, .int .i64 0] 51) = W0 at *
  go_loopw [9] (fun i wr => ∃ k : Nat, k ≤ K ∧ i = .int .i64 k ∧ Below W0.heap.size W0 wr) (fun i _ => 7 - (intOf i).toNat)
  case atStart => exact ⟨0, Nat.zero_le _, rfl, Below.refl _ _⟩
  case round =>
    obtain ⟨k, hk, rfl, hb⟩ := hrel
    have hbw := HX.out.trans (hb.mono HX.out.size)
    have hz := Z0.out.later hb
    by_cases hlt : k < 6
    · have hi := index_rs k hlt
      have HI := Lib.hid hi; clear hi
      have hco := index_cs k hlt
      have HCO := Lib.hid hco; clear hco
      have hsz := opRS_size k
      have h12 := (opText_C k hlt).2.2.2
      by_cases hkK : k < K
      · have hno := opB_no s a k (HNO.out k hkK)
        have hsm : (opRS k).size ≤ 2 := by omega
        clear hsz h12
        rcases hno with hno | hno
        all_goals
          go_wp2_with fail
          refine (ref_ops _).mono ?_
          rintro e w1 ⟨rfl, hb1⟩
          have hi := HI.out w1
          go_wp2_with fail
          all_goals
            go_roundw
            case rel => exact ⟨k + 1, by omega, by go_num, hb.trans (hb1.mono hb.size)⟩
            case measure => simp [intOf]; omega
      · obtain rfl : k = K := by omega
        obtain ⟨hy1, hy2⟩ := HYES.out hlt
        obtain ⟨hs1, hs2⟩ := opB_yes s a k (by omega) hy1
        obtain ⟨o1, o2, o3, o4, o5⟩ := opText_C k hlt
        have ht : tokOf (s.data.toList.drop a) = (4, (opC k : Int), (opRS k).size) := by
          rw [HT.out, hy2, if_pos o2, o1, hsz]
        have hx : (a : Int) = if (opRS k).size = 0 then 0 else (a : Int) := by rw [if_neg (by omega)]
        have HT2 := Lib.hid ht; clear ht
        have HXX := Lib.hid hx; clear hx
        have hsm : (opRS k).size ≤ 2 := by omega
        have hoc : (opC k : Int) < 7 := by omega
        clear hsz hy1 hy2 o1 o2 o3 o4 o5 h12 hkK
        generalize opC k = oc at *
        go_wp2_with fail
        refine (ref_ops _).mono ?_
        rintro e w1 ⟨rfl, hb1⟩
        have hi := HI.out w1
        go_wp2_with fail
        refine (ref_codes _).mono ?_
        rintro e w2 ⟨rfl, hb2⟩
        have hc := HCO.out w2
        have hz2 := (hz.later hb1).later hb2
        have hB2 := (hbw.trans (hb1.mono hbw.size)).trans (hb2.mono (hbw.trans (hb1.mono hbw.size)).size)
        obtain ⟨z0, z1, z2⟩ := tok_cells hz2
        have zf := hz2.free
        have hs2' := hz2.size
        go_wp2_with fail
        exact next_end rfl rfl (((hz2.set 0 _).set 1 _).set 2 _) rfl HXX.out HT2.out (below_tok hB2 _ _ _)
    · obtain rfl : k = 6 := by omega
      obtain rfl : K = 6 := by omega
      have h0 := H0.out rfl
      obtain ⟨z0, z1, z2⟩ := tok_cells hz
      have zf := hz.free
      have hs2' := hz.size
      cases hsg : signB s[a]
      · have ht : tokOf (s.data.toList.drop a) = (0, 0, 0) := by rw [HT.out, h0, hsg]; rfl
        rw [hsg] at CS
        have HT2 := Lib.hid ht; clear ht h0 hsg
        go_wp2_with fail
        refine (CS.out _).mono ?_
        rintro e w1 ⟨rfl, rfl⟩
        go_wp2_with fail
        exact next_end rfl rfl (((hz.set 0 _).set 1 _).set 2 _) rfl rfl HT2.out (below_tok hbw _ _ _)
      · have ht : tokOf (s.data.toList.drop a) = (5, (s[a].toNat : Int), 1) := by rw [HT.out, h0, hsg]; rfl
        rw [hsg] at CS
        have HT2 := Lib.hid ht; clear ht h0 hsg
        go_wp2_with fail
        refine (CS.out _).mono ?_
        rintro e w1 ⟨rfl, rfl⟩
        go_wp2_with fail
        exact next_end rfl rfl (((hz.set 0 _).set 1 _).set 2 _) rfl rfl HT2.out (below_tok hbw _ _ _)

theorem ref_next (s : ByteArray) (hs : s.size ≤ 140737488351232) (a : Nat) (ha : a < s.size) (w : World) : Calls Tryd.prog 78 #[.string s, .int .i64 a] w (NextPost s a w) := by
  by_cases h1 : 0 < lead digB (s.data.toList.drop a)
  · exact next_number s hs a ha w h1
  · by_cases h2 : 0 < lead letB (s.data.toList.drop a)
    · exact next_letter s hs a ha w h1 h2
    · exact next_else s hs a ha w h1 h2
end Go.Proofs.YtafgincpoahefaaDoor
