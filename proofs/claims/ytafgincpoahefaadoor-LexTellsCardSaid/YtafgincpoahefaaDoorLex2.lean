/-
  lex: op.
-/
import Derived.Test.YtafgincpoahefaaDoorLex1
import Derived.Test.YtafgincpoahefaaDoorLexQ
import Derived.Test.YtafgincpoahefaaDoorLaidS
namespace Go.Proofs.YtafgincpoahefaaDoor
open Go.RowKit

/-- the longest among the first so many -/
def best : Nat → List UInt8 → Nat
  | 0, _ => 0
  | k + 1, l => if opText k ≠ [] ∧ Lib.hasPrefix l (opText k) = true ∧ (opText (best k l)).length < (opText k).length then k else best k l
theorem best_lt : ∀ (k : Nat) (l : List UInt8), 0 < k → best k l < k
  | k + 1, l, _ => by
    unfold best
    split
    · omega
    · rcases Nat.eq_zero_or_pos k with rfl | h
      · simp [best]
      · have := best_lt k l h; omega
theorem best_step {l : List UInt8} (k x : Nat) (h : best k l = x) : best (k + 1) l = if opText k ≠ [] ∧ Lib.hasPrefix l (opText k) = true ∧ (opText x).length < (opText k).length then k else x := by rw [best, h]
theorem best_vals (l : List UInt8) (h1 h3 h5 e : Bool) (h33 : Bool) (p1 : Lib.hasPrefix l [60] = h1) (p3 : Lib.hasPrefix l [61] = h3) (p5 : Lib.hasPrefix l [62] = h5) (p2 : Lib.hasPrefix l [60, 61] = (h1 && e)) (p6 : Lib.hasPrefix l [62, 61] = (h5 && e)) (p4 : Lib.hasPrefix l [33, 61] = (h33 && e))
    (n13 : (h1 && h3) = false) (n15 : (h1 && h5) = false) (n35 : (h3 && h5) = false) (n1 : (h1 && h33) = false) (n3 : (h3 && h33) = false) (n5 : (h5 && h33) = false) :
    best 7 l = if h1 then (if e then 2 else 1) else if h3 then 3 else if h33 then (if e then 4 else 0) else if h5 then (if e then 6 else 5) else 0 := by
  have b1 := best_step (l := l) 0 _ rfl
  simp [opText] at b1
  have b2 := best_step 1 _ b1
  simp only [opText, p1] at b2
  cases h1 <;> cases h3 <;> cases h5 <;> cases h33 <;> cases e <;> first | (exfalso; revert n13 n15 n35 n1 n3 n5; decide) | skip
  all_goals
    simp at b2
    have b3 := best_step 2 _ b2
    simp [opText, p2] at b3
    have b4 := best_step 3 _ b3
    simp [opText, p3] at b4
    have b5 := best_step 4 _ b4
    simp [opText, p4] at b5
    have b6 := best_step 5 _ b5
    simp [opText, p5] at b6
    have b7 := best_step 6 _ b6
    simp [opText, p6] at b7
    rw [b7]
    rfl
theorem best_op (l : List UInt8) : best 7 l = opOf l := by
  cases l with
  | nil => rfl
  | cons c r =>
    have q1 : ∀ x : UInt8, Lib.hasPrefix (c :: r) [x] = decide (c = x) := by
      intro x; by_cases h : c = x
      · simp [Lib.hasPrefix, List.isPrefixOf, h]
      · simp [Lib.hasPrefix, List.isPrefixOf, h, Ne.symm h]
    have q2 : ∀ x : UInt8, Lib.hasPrefix (c :: r) [x, 61] = (decide (c = x) && decide (r.head? = some 61)) := by
      intro x
      cases r with
      | nil => simp [Lib.hasPrefix, List.isPrefixOf]
      | cons y r =>
        by_cases h : c = x
        · by_cases h' : y = 61
          · simp [Lib.hasPrefix, List.isPrefixOf, h, h']
          · simp [Lib.hasPrefix, List.isPrefixOf, h, h', Ne.symm h']
        · simp [Lib.hasPrefix, List.isPrefixOf, h, Ne.symm h]
    rw [best_vals (c :: r) (decide (c = 60)) (decide (c = 61)) (decide (c = 62)) (decide (r.head? = some 61)) (decide (c = 33)) (q1 60) (q1 61) (q1 62) (q2 60) (q2 62) (q2 33)
      (by by_cases h : c = 60 <;> simp [h]) (by by_cases h : c = 60 <;> simp [h]) (by by_cases h : c = 61 <;> simp [h]) (by by_cases h : c = 60 <;> simp [h]) (by by_cases h : c = 61 <;> simp [h]) (by by_cases h : c = 62 <;> simp [h])]
    simp only [opOf, decide_eq_true_eq]

theorem opS_list0 : (opS 0).toList = opText 0 := by kernel_rfl
theorem opS_list1 : (opS 1).toList = opText 1 := by kernel_rfl
theorem opS_list2 : (opS 2).toList = opText 2 := by kernel_rfl
theorem opS_list3 : (opS 3).toList = opText 3 := by kernel_rfl
theorem opS_list4 : (opS 4).toList = opText 4 := by kernel_rfl
theorem opS_list5 : (opS 5).toList = opText 5 := by kernel_rfl
theorem opS_list6 : (opS 6).toList = opText 6 := by kernel_rfl
theorem opS_list (k : Nat) (hk : k < 7) : (opS k).toList = opText k := by
  match k, hk with
  | 0, _ => exact opS_list0
  | 1, _ => exact opS_list1
  | 2, _ => exact opS_list2
  | 3, _ => exact opS_list3
  | 4, _ => exact opS_list4
  | 5, _ => exact opS_list5
  | 6, _ => exact opS_list6
theorem opS_size (k : Nat) : (opS k).size = (opText k).length := by simp [opS, ByteArray.size]
def opCells : Array Value := strs ((List.range 7).map opText)
theorem index_op0 (w : World) : (Instr.index 95 (.agg opCells) (.int .i64 0)).run Tryd.prog w = .ok (.string (opS 0)) w := by kernel_rfl
theorem index_op1 (w : World) : (Instr.index 95 (.agg opCells) (.int .i64 1)).run Tryd.prog w = .ok (.string (opS 1)) w := by kernel_rfl
theorem index_op2 (w : World) : (Instr.index 95 (.agg opCells) (.int .i64 2)).run Tryd.prog w = .ok (.string (opS 2)) w := by kernel_rfl
theorem index_op3 (w : World) : (Instr.index 95 (.agg opCells) (.int .i64 3)).run Tryd.prog w = .ok (.string (opS 3)) w := by kernel_rfl
theorem index_op4 (w : World) : (Instr.index 95 (.agg opCells) (.int .i64 4)).run Tryd.prog w = .ok (.string (opS 4)) w := by kernel_rfl
theorem index_op5 (w : World) : (Instr.index 95 (.agg opCells) (.int .i64 5)).run Tryd.prog w = .ok (.string (opS 5)) w := by kernel_rfl
theorem index_op6 (w : World) : (Instr.index 95 (.agg opCells) (.int .i64 6)).run Tryd.prog w = .ok (.string (opS 6)) w := by kernel_rfl
theorem index_ops (k : Nat) (hk : k < 7) (w : World) : (Instr.index 95 (.agg opCells) (.int .i64 k)).run Tryd.prog w = .ok (.string (opS k)) w := by
  match k, hk with
  | 0, _ => exact index_op0 w
  | 1, _ => exact index_op1 w
  | 2, _ => exact index_op2 w
  | 3, _ => exact index_op3 w
  | 4, _ => exact index_op4 w
  | 5, _ => exact index_op5 w
  | 6, _ => exact index_op6 w

set_option maxRecDepth 100000 in
set_option maxHeartbeats 1000000 in
theorem lex_op (s : ByteArray) (w : World) (hG : GL w) : Calls Tryd.prog 148 #[.string s] w fun e w' => e = .returned (.int .u8 (opOf s.data.toList)) ∧ w = w' := by
  obtain ⟨tt, fr, hb⟩ := var_block gOps hG.ops
  rw [← best_op]
  go_enter Tryd.func148, Tryd.ntmps148
  go_wp2_with (refine wpList_load_row rfl 95 (.global 2) rfl 2 rfl tt opCells fr _ hb Tryd.underlying95 rfl (by kernel_rfl) ?_)
  go_loop [2, 6] (fun c i => ∃ k : Nat, k ≤ 7 ∧ i = .int .i64 k ∧ c = .int .u8 (best k s.data.toList : Nat)) (fun _ i => 8 - (intOf i).toNat)
  case atStart => exact ⟨0, by omega, rfl, rfl⟩
  case round =>
    obtain ⟨k, hk, rfl, rfl⟩ := hrel
    by_cases hlt : k < 7
    · have hi := index_ops k hlt w
      have hbl : best k s.data.toList < 7 := by
        rcases Nat.eq_zero_or_pos k with rfl | h
        · exact (by decide : 0 < 7)
        · have := best_lt k s.data.toList h; omega
      have hcell := hG.cell _ hbl
      have hstep : best (k + 1) s.data.toList = if opText k ≠ [] ∧ Lib.hasPrefix s.data.toList (opText k) = true ∧ (opText (best k s.data.toList)).length < (opText k).length then k else best k s.data.toList := rfl
      rw [← opS_size k, ← opS_size (best k s.data.toList)] at hstep
      generalize best k s.data.toList = bk at *
      clear hb hG
      have hpre : Calls Tryd.prog 84 #[.string s, .string (opS k)] w fun e w' => e = .returned (.bool (Lib.hasPrefix s.data.toList (opText k))) ∧ w' = w := by
        have := Tryd.strings_HasPrefix s (opS k) w
        rwa [show (opS k).data.toList = opText k from by simp [opS]] at this
      have hsz1 : (opS k).size ≤ 2 := by rw [opS_size]; exact opText_len k
      have hsz2 : (opS bk).size ≤ 2 := by rw [opS_size]; exact opText_len bk
      by_cases hk0 : k = 0
      · subst hk0
        have he : (opS 0).toList = [] := by kernel_rfl
        have hi := index_op0 w
        have HS := Lib.hid hstep; clear hstep hpre
        go_wp2_with fail
        go_round
        case rel => exact ⟨1, by omega, by go_num, by rw [show best 1 s.data.toList = bk from by have := HS.out; simpa [opText] using this]⟩
        case measure => simp [intOf]
      · have hne : opText k ≠ [] := by
          have : k = 1 ∨ k = 2 ∨ k = 3 ∨ k = 4 ∨ k = 5 ∨ k = 6 := by omega
          rcases this with rfl | rfl | rfl | rfl | rfl | rfl <;> decide
        have he : ¬ (opS k).toList = [] := by
          rw [opS_list k hlt]; exact hne
        have he' : (opS k).toList.isEmpty = false := by simpa using he
        have HNE := Lib.hid hne; clear hne
        by_cases hp : Lib.hasPrefix s.data.toList (opText k) = true
        · rw [hp] at hpre hstep
          by_cases hl : (opS bk).size < (opS k).size
          · rw [if_pos ⟨HNE.out, rfl, hl⟩] at hstep
            have HS := Lib.hid hstep; clear hstep
            have HP := Lib.hid hpre; clear hpre hp
            go_wp2_with fail
            refine HP.out.mono ?_
            rintro e w' ⟨rfl, rfl⟩
            go_wp2_with fail
            go_round
            case rel => exact ⟨k + 1, by omega, by go_num, by rw [HS.out]⟩
            case measure => simp [intOf]; omega
          · rw [if_neg (fun h => hl h.2.2)] at hstep
            have HS := Lib.hid hstep; clear hstep
            have HP := Lib.hid hpre; clear hpre hp
            go_wp2_with fail
            refine HP.out.mono ?_
            rintro e w' ⟨rfl, rfl⟩
            go_wp2_with fail
            go_round
            case rel => exact ⟨k + 1, by omega, by go_num, by rw [HS.out]⟩
            case measure => simp [intOf]; omega
        · have hp' : Lib.hasPrefix s.data.toList (opText k) = false := by simpa using hp
          rw [hp'] at hpre
          rw [if_neg (fun h => hp h.2.1)] at hstep
          have HS := Lib.hid hstep; clear hstep
          have HP := Lib.hid hpre; clear hpre hp hp'
          go_wp2_with fail
          refine HP.out.mono ?_
          rintro e w' ⟨rfl, rfl⟩
          go_wp2_with fail
          go_round
          case rel => exact ⟨k + 1, by omega, by go_num, by rw [HS.out]⟩
          case measure => simp [intOf]; omega
    · obtain rfl : k = 7 := by omega
      clear hb hG
      go_wp2_with fail
      go_ret
      exact ⟨rfl, rfl⟩
end Go.Proofs.YtafgincpoahefaaDoor
