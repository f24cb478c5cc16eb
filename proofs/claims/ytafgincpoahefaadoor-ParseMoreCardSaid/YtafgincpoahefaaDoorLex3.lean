/-
  lex: digit, letter, lead, op.
  A package-level array of strings that a row lists; lex's ways of comparing.
  lex: op.
  lex: token.
-/
import Derived.Test.YtafgincpoahefaaDoorLexP
import Derived.Outline
import Derived.Laws.Rows
import Derived.Test.YtafgincpoahefaaDoorGround
import Derived.StillTailTactics
namespace Go.Proofs.YtafgincpoahefaaDoor
open Go.RowKit

set_option maxHeartbeats 400000 in
theorem lex_digit (r : Int) (w : World) : Calls Tryd.prog 146 #[.int .i32 r] w fun e w' => e = .returned (.bool (decide (48 ≤ r ∧ r ≤ 57))) ∧ w = w' := by
  go_enter Tryd.func146, Tryd.ntmps146
  go_wp2_with fail
  all_goals
    go_ret
    refine ⟨?_, rfl⟩
    congr 2
    simp
    try omega
set_option maxHeartbeats 400000 in
theorem lex_letter (r : Int) (w : World) : Calls Tryd.prog 147 #[.int .i32 r] w fun e w' => e = .returned (.bool (decide (97 ≤ r ∧ r ≤ 122))) ∧ w = w' := by
  go_enter Tryd.func147, Tryd.ntmps147
  go_wp2_with fail
  all_goals
    go_ret
    refine ⟨?_, rfl⟩
    congr 2
    simp
    try omega
set_option maxHeartbeats 400000 in
theorem lex_blank (r : Int) (w : World) : Calls Tryd.prog 120 #[.int .i32 r] w fun e w' => e = .returned (.bool (r == 32)) ∧ w = w' := by
  go_enter Tryd.func120, Tryd.ntmps120
  go_wp2_with fail
  go_ret
  exact ⟨rfl, rfl⟩

/-- a function that tells of a rune whether it is so -/
def Tells (g : Nat) (q : Nat → Bool) : Prop := ∀ (x : Nat) (W : World), Calls Tryd.prog g #[.int .i32 x] W fun e w' => e = .returned (.bool (q x)) ∧ W = w'

theorem lex_lead1 (g : Nat) (eg : ∀ args w, (callFunc g args).run Tryd.prog w = .ok (.enter g args) w) (q : Nat → Bool) (hq : Tells g q) (x B : Nat) (W : World) (hc : W.cell? ⟨B, 0, none⟩ = some (.func (.func g) #[] #[])) :
    Calls Tryd.prog 145 #[.int .i32 x, .pointer (some ⟨B, 0, none⟩)] W fun e w' => e = .returned (.bool (!q x)) ∧ W = w' := by
  have hq' := hq x W
  go_enter Tryd.func145, Tryd.ntmps145
  go_wp2_with (go_at_fn g; refine hq'.mono ?_; rintro e w' ⟨rfl, rfl⟩)
  go_ret
  exact ⟨rfl, rfl⟩

theorem enters_lead1 : ∀ args w, (callFunc 145 args).run Tryd.prog w = .ok (.enter 145 args) w := enters_of Tryd.func145 (by kernel_rfl) rfl

theorem lex_lead (g : Nat) (eg : ∀ args w, (callFunc g args).run Tryd.prog w = .ok (.enter g args) w) (q : Nat → Bool) (hq : Tells g q) (p : UInt8 → Bool)
    (h1 : ∀ c : UInt8, c.toNat < 128 → q c.toNat = p c) (h2 : ∀ n, 128 ≤ n → q n = false) (h3 : ∀ c : UInt8, 128 ≤ c.toNat → p c = false) (s : ByteArray) (w : World) :
    Calls Tryd.prog 119 #[.string s, .func (.func g) #[] #[]] w fun e w' => e = .returned (.int .i64 (lead p s.data.toList)) ∧ Below w.heap.size w w' := by
  have hidx := lead_idx p (fun x => !q x) (fun c hc => by simp [h1 c hc]) (fun n hn => by simp [h2 n hn]) h3 s s.size 0 (Nat.zero_le _) (by omega)
  simp only [List.drop_zero, Nat.zero_add] at hidx
  have hle : lead p s.data.toList ≤ s.size := by have := lead_le p s.data.toList; simpa using this
  have hpg : PredGrows Tryd.prog 145 #[.pointer (some ⟨w.heap.size, 0, none⟩)] (fun x => !q x) (w.alloc (.cells #[.func (.func g) #[] #[]] 146)) := by
    intro W x _ hb
    refine (lex_lead1 g eg q hq x w.heap.size W ?_).mono ?_
    · exact (hb.cell (p := ⟨w.heap.size, 0, none⟩) (by simp)).trans (boxed_new rfl _ _).cell
    · rintro e w' ⟨rfl, rfl⟩; exact ⟨rfl, Below.refl _ _⟩
  have hcall := Tryd.strings_IndexFunc_grows 145 #[.pointer (some ⟨w.heap.size, 0, none⟩)] enters_lead1 (fun x => !q x) s _ hpg
  rw [show Lib.idxFunc (fun x => !q x) true s = _ from hidx] at hcall
  clear hidx hpg
  by_cases hs : lead p s.data.toList = s.size
  · rw [if_pos hs] at hcall
    rw [hs]
    have HC := Lib.hid hcall; clear hcall hs hle
    go_enter Tryd.func119, Tryd.ntmps119
    go_wp2_with fail
    refine HC.out.mono ?_
    rintro e w' ⟨rfl, hb⟩
    go_wp2_with fail
    go_ret
    exact ⟨rfl, ((Below.refl _ _).alloc (Nat.le_refl _) _).trans (hb.mono (by simp))⟩
  · rw [if_neg hs] at hcall
    have HC := Lib.hid hcall; clear hcall hs
    go_enter Tryd.func119, Tryd.ntmps119
    go_wp2_with fail
    refine HC.out.mono ?_
    rintro e w' ⟨rfl, hb⟩
    go_wp2_with fail
    go_ret
    exact ⟨rfl, ((Below.refl _ _).alloc (Nat.le_refl _) _).trans (hb.mono (by simp))⟩
end Go.Proofs.YtafgincpoahefaaDoor

namespace Go.Proofs.YtafgincpoahefaaDoor
open Go.ChangeShapes Go.WideShapes Go.ChangeAt Go.RowKit

theorem ba_of_list {s : ByteArray} {l : List UInt8} (h : s.data.toList = l) : s = ⟨l.toArray⟩ := by rw [← h, Lib.mk_data]

def strs (ls : List (List UInt8)) : Array Value := (ls.map fun l => Value.string ⟨l.toArray⟩).toArray
def strsData {H : Type} (ls : List (List UInt8)) : DataW H := .agg (ls.map fun l => .lit (.string l))

theorem cells_of_strs {H : Type} {enc : TypeId × Value → H} {P : Program} {w : World} {base : Nat} {sp : Nat → Bool} {held : Bool} {fuel : Nat} {t e : TypeId} {n : Nat} {cs : List Value} {ls : List (List UInt8)} {p : List MemPlace}
    (ht : P.underlying t = some (.array n e)) (he : P.underlying e = some .string) (hce : P.cellsOf e = 1) (hct : P.cellsOf t = n)
    (h : DataW.trod enc P w base sp held fuel t cs = some (strsData ls, p)) : cs = ls.map fun l => Value.string ⟨l.toArray⟩ := by
  cases fuel with
  | zero => simp [DataW.trod] at h
  | succ fuel =>
    simp only [DataW.trod, ht, hce, hct, Nat.mul_one] at h
    split at h
    · rename_i hl
      obtain ⟨xs, hm, hx⟩ := Option.map_eq_some_iff.1 h
      have hxs : xs.map (·.1) = ls.map fun l => (DataW.lit (.string l) : DataW H) := by
        have := congrArg Prod.fst hx
        simpa [strsData] using this
      have hxl : xs.length = n := by simpa using Lib.mapM_length hm
      have hzl : ls.length = n := by
        have := congrArg List.length hxs
        simp at this
        omega
      apply List.ext_getElem?
      intro i
      by_cases hi : i < n
      · obtain ⟨b, hb, hf⟩ := Lib.mapM_at hm i i (by simp [hi])
        obtain ⟨z, hc, rfl, _⟩ := DataW.trod_string he hf
        have h1 : cs[i]? = some (.string z) := by
          have := congrArg (·[0]?) hc
          simpa [List.getElem?_take, List.getElem?_drop] using this
        have h2 : (xs.map (·.1))[i]? = some (DataW.lit (.string z.data.toList) : DataW H) := by simp [hb]
        rw [hxs] at h2
        simp only [List.getElem?_map, Option.map_eq_some_iff, DataW.lit.injEq, Lit.string.injEq] at h2
        obtain ⟨z', hz', hz2⟩ := h2
        rw [h1, List.getElem?_map, hz', Option.map_some, ba_of_list hz2.symm]
      · rw [List.getElem?_eq_none (by omega), List.getElem?_eq_none (by simp; omega)]
    · cases h

theorem strs_of_head {P : Program} {W : World} {name : String} {ls : List (List UInt8)} {rest : List (String × DataW Unit)} {g : Nat} {t e : TypeId} {n : Nat}
    (hg : P.globalNamed name = some g) (hty : (P.globals[g]?).map (·.type) = some t) (ht : P.underlying t = some (.array n e)) (he : P.underlying e = some .string) (hce : P.cellsOf e = 1) (hct : P.cellsOf t = n)
    (h : laidMet P ((name, strsData ls) :: rest) W) : W.var? P name = some (strs ls) := by
  obtain ⟨ps, ⟨g', t', cs, fuel, p, q, hg', ht', hvar, hd, _, _⟩, _⟩ := h
  obtain rfl := Option.some.inj (hg.symm.trans hg')
  obtain rfl := Option.some.inj (hty.symm.trans ht')
  rw [hvar]
  have := cells_of_strs ht he hce hct hd
  congr 1
  unfold strs
  rw [← this]

theorem var_block {P : Program} {W : World} {name : String} {g : Nat} {cs : Array Value} (hg : P.globalNamed name = some g) (h : W.var? P name = some cs) : ∃ t fr, W.heap[g]? = some (.cells cs t fr) := by
  simp only [World.var?, hg, Option.bind_some] at h
  split at h
  · rename_i hh
    obtain rfl := Option.some.inj h
    exact ⟨_, _, hh⟩
  · cases h

theorem gOps : Tryd.prog.globalNamed "straggle/lex.ops" = some 2 := by kernel_rfl
theorem gOpsType : (Tryd.prog.globals[2]?).map (·.type) = some 95 := by kernel_rfl

/-- the library's variables, and lex's ways of comparing -/
structure GL (w : World) : Prop where
  g : G w
  ops : w.var? Tryd.prog "straggle/lex.ops" = some (strs ((List.range 7).map opText))
theorem GL.mono' {w w' : World} {B : Nat} (hb : Below B w w') (hB : w.heap.size ≤ B) (h : GL w) : GL w' := ⟨h.g.mono' hb hB, Joins.var_stays gOps h.ops hb hB⟩
theorem GL.mono {w w' : World} (hb : Below w.heap.size w w') (h : GL w) : GL w' := h.mono' hb (Nat.le_refl _)
theorem GL.alloc {w : World} (h : GL w) (o : Obj) : GL (w.alloc o) := h.mono ((Below.refl _ _).alloc (Nat.le_refl _) o)

def opS (k : Nat) : ByteArray := ⟨(opText k).toArray⟩
theorem GL.cell {w : World} (h : GL w) (k : Nat) (hk : k < 7) : w.cell? ⟨2, k, none⟩ = some (.string (opS k)) := by
  rw [World.var?_cell gOps h.ops]
  have : k = 0 ∨ k = 1 ∨ k = 2 ∨ k = 3 ∨ k = 4 ∨ k = 5 ∨ k = 6 := by omega
  rcases this with rfl | rfl | rfl | rfl | rfl | rfl | rfl <;> rfl
end Go.Proofs.YtafgincpoahefaaDoor

namespace Go.Proofs.YtafgincpoahefaaDoor
open Go.RowKit

/-- the longest among the first so many -/
def best : Nat → List UInt8 → Nat
  | 0, _ => 0
  | k + 1, l => if opText k ≠ [] ∧ Lib.hasPrefix l (opText k) = true ∧ (opText (best k l)).length < (opText k).length then k else best k l
theorem best_lt : ∀ (k : Nat) (l : List UInt8), 0 < k → best k l < k
  | k + 1, l, _ => by
    unfold best
    split
    · omega
    · rcases Nat.eq_zero_or_pos k with rfl | h
      · simp [best]
      · have := best_lt k l h; omega
theorem best_step {l : List UInt8} (k x : Nat) (h : best k l = x) : best (k + 1) l = if opText k ≠ [] ∧ Lib.hasPrefix l (opText k) = true ∧ (opText x).length < (opText k).length then k else x := by rw [best, h]
theorem best_vals (l : List UInt8) (h1 h3 h5 e : Bool) (h33 : Bool) (p1 : Lib.hasPrefix l [60] = h1) (p3 : Lib.hasPrefix l [61] = h3) (p5 : Lib.hasPrefix l [62] = h5) (p2 : Lib.hasPrefix l [60, 61] = (h1 && e)) (p6 : Lib.hasPrefix l [62, 61] = (h5 && e)) (p4 : Lib.hasPrefix l [33, 61] = (h33 && e))
    (n13 : (h1 && h3) = false) (n15 : (h1 && h5) = false) (n35 : (h3 && h5) = false) (n1 : (h1 && h33) = false) (n3 : (h3 && h33) = false) (n5 : (h5 && h33) = false) :
    best 7 l = if h1 then (if e then 2 else 1) else if h3 then 3 else if h33 then (if e then 4 else 0) else if h5 then (if e then 6 else 5) else 0 := by
  have b1 := best_step (l := l) 0 _ rfl
  simp [opText] at b1
  have b2 := best_step 1 _ b1
  simp only [opText, p1] at b2
  cases h1 <;> cases h3 <;> cases h5 <;> cases h33 <;> cases e <;> first | (exfalso; revert n13 n15 n35 n1 n3 n5; decide) | skip
  all_goals
    simp at b2
    have b3 := best_step 2 _ b2
    simp [opText, p2] at b3
    have b4 := best_step 3 _ b3
    simp [opText, p3] at b4
    have b5 := best_step 4 _ b4
    simp [opText, p4] at b5
    have b6 := best_step 5 _ b5
    simp [opText, p5] at b6
    have b7 := best_step 6 _ b6
    simp [opText, p6] at b7
    rw [b7]
    rfl
theorem best_op (l : List UInt8) : best 7 l = opOf l := by
  cases l with
  | nil => rfl
  | cons c r =>
    have q1 : ∀ x : UInt8, Lib.hasPrefix (c :: r) [x] = decide (c = x) := by
      intro x; by_cases h : c = x
      · simp [Lib.hasPrefix, List.isPrefixOf, h]
      · simp [Lib.hasPrefix, List.isPrefixOf, h, Ne.symm h]
    have q2 : ∀ x : UInt8, Lib.hasPrefix (c :: r) [x, 61] = (decide (c = x) && decide (r.head? = some 61)) := by
      intro x
      cases r with
      | nil => simp [Lib.hasPrefix, List.isPrefixOf]
      | cons y r =>
        by_cases h : c = x
        · by_cases h' : y = 61
          · simp [Lib.hasPrefix, List.isPrefixOf, h, h']
          · simp [Lib.hasPrefix, List.isPrefixOf, h, h', Ne.symm h']
        · simp [Lib.hasPrefix, List.isPrefixOf, h, Ne.symm h]
    rw [best_vals (c :: r) (decide (c = 60)) (decide (c = 61)) (decide (c = 62)) (decide (r.head? = some 61)) (decide (c = 33)) (q1 60) (q1 61) (q1 62) (q2 60) (q2 62) (q2 33)
      (by by_cases h : c = 60 <;> simp [h]) (by by_cases h : c = 60 <;> simp [h]) (by by_cases h : c = 61 <;> simp [h]) (by by_cases h : c = 60 <;> simp [h]) (by by_cases h : c = 61 <;> simp [h]) (by by_cases h : c = 62 <;> simp [h])]
    simp only [opOf, decide_eq_true_eq]

theorem opS_list0 : (opS 0).toList = opText 0 := by kernel_rfl
theorem opS_list1 : (opS 1).toList = opText 1 := by kernel_rfl
theorem opS_list2 : (opS 2).toList = opText 2 := by kernel_rfl
theorem opS_list3 : (opS 3).toList = opText 3 := by kernel_rfl
theorem opS_list4 : (opS 4).toList = opText 4 := by kernel_rfl
theorem opS_list5 : (opS 5).toList = opText 5 := by kernel_rfl
theorem opS_list6 : (opS 6).toList = opText 6 := by kernel_rfl
theorem opS_list (k : Nat) (hk : k < 7) : (opS k).toList = opText k := by
  match k, hk with
  | 0, _ => exact opS_list0
  | 1, _ => exact opS_list1
  | 2, _ => exact opS_list2
  | 3, _ => exact opS_list3
  | 4, _ => exact opS_list4
  | 5, _ => exact opS_list5
  | 6, _ => exact opS_list6
theorem opS_size (k : Nat) : (opS k).size = (opText k).length := by simp [opS, ByteArray.size]
def opCells : Array Value := strs ((List.range 7).map opText)
theorem index_op0 (w : World) : (Instr.index 95 (.agg opCells) (.int .i64 0)).run Tryd.prog w = .ok (.string (opS 0)) w := by kernel_rfl
theorem index_op1 (w : World) : (Instr.index 95 (.agg opCells) (.int .i64 1)).run Tryd.prog w = .ok (.string (opS 1)) w := by kernel_rfl
theorem index_op2 (w : World) : (Instr.index 95 (.agg opCells) (.int .i64 2)).run Tryd.prog w = .ok (.string (opS 2)) w := by kernel_rfl
theorem index_op3 (w : World) : (Instr.index 95 (.agg opCells) (.int .i64 3)).run Tryd.prog w = .ok (.string (opS 3)) w := by kernel_rfl
theorem index_op4 (w : World) : (Instr.index 95 (.agg opCells) (.int .i64 4)).run Tryd.prog w = .ok (.string (opS 4)) w := by kernel_rfl
theorem index_op5 (w : World) : (Instr.index 95 (.agg opCells) (.int .i64 5)).run Tryd.prog w = .ok (.string (opS 5)) w := by kernel_rfl
theorem index_op6 (w : World) : (Instr.index 95 (.agg opCells) (.int .i64 6)).run Tryd.prog w = .ok (.string (opS 6)) w := by kernel_rfl
theorem index_ops (k : Nat) (hk : k < 7) (w : World) : (Instr.index 95 (.agg opCells) (.int .i64 k)).run Tryd.prog w = .ok (.string (opS k)) w := by
  match k, hk with
  | 0, _ => exact index_op0 w
  | 1, _ => exact index_op1 w
  | 2, _ => exact index_op2 w
  | 3, _ => exact index_op3 w
  | 4, _ => exact index_op4 w
  | 5, _ => exact index_op5 w
  | 6, _ => exact index_op6 w

set_option maxRecDepth 100000 in
set_option maxHeartbeats 1000000 in
theorem lex_op (s : ByteArray) (w : World) (hG : GL w) : Calls Tryd.prog 148 #[.string s] w fun e w' => e = .returned (.int .u8 (opOf s.data.toList)) ∧ w = w' := by
  obtain ⟨tt, fr, hb⟩ := var_block gOps hG.ops
  rw [← best_op]
  go_enter Tryd.func148, Tryd.ntmps148
  go_wp2_with (refine wpList_load_row rfl 95 (.global 2) rfl 2 rfl tt opCells fr _ hb Tryd.underlying95 rfl (by kernel_rfl) ?_)
  go_loop [2, 6] (fun c i => ∃ k : Nat, k ≤ 7 ∧ i = .int .i64 k ∧ c = .int .u8 (best k s.data.toList : Nat)) (fun _ i => 8 - (intOf i).toNat)
  case atStart => exact ⟨0, by omega, rfl, rfl⟩
  case round =>
    obtain ⟨k, hk, rfl, rfl⟩ := hrel
    by_cases hlt : k < 7
    · have hi := index_ops k hlt w
      have hbl : best k s.data.toList < 7 := by
        rcases Nat.eq_zero_or_pos k with rfl | h
        · exact (by decide : 0 < 7)
        · have := best_lt k s.data.toList h; omega
      have hcell := hG.cell _ hbl
      have hstep : best (k + 1) s.data.toList = if opText k ≠ [] ∧ Lib.hasPrefix s.data.toList (opText k) = true ∧ (opText (best k s.data.toList)).length < (opText k).length then k else best k s.data.toList := rfl
      rw [← opS_size k, ← opS_size (best k s.data.toList)] at hstep
      generalize best k s.data.toList = bk at *
      clear hb hG
      have hpre : Calls Tryd.prog 84 #[.string s, .string (opS k)] w fun e w' => e = .returned (.bool (Lib.hasPrefix s.data.toList (opText k))) ∧ w' = w := by
        have := Tryd.strings_HasPrefix s (opS k) w
        rwa [show (opS k).data.toList = opText k from by simp [opS]] at this
      have hsz1 : (opS k).size ≤ 2 := by rw [opS_size]; exact opText_len k
      have hsz2 : (opS bk).size ≤ 2 := by rw [opS_size]; exact opText_len bk
      by_cases hk0 : k = 0
      · subst hk0
        have he : (opS 0).toList = [] := by kernel_rfl
        have hi := index_op0 w
        have HS := Lib.hid hstep; clear hstep hpre
        go_wp2_with fail
        go_round
        case rel => exact ⟨1, by omega, by go_num, by rw [show best 1 s.data.toList = bk from by have := HS.out; simpa [opText] using this]⟩
        case measure => simp [intOf]
      · have hne : opText k ≠ [] := by
          have : k = 1 ∨ k = 2 ∨ k = 3 ∨ k = 4 ∨ k = 5 ∨ k = 6 := by omega
          rcases this with rfl | rfl | rfl | rfl | rfl | rfl <;> decide
        have he : ¬ (opS k).toList = [] := by
          rw [opS_list k hlt]; exact hne
        have he' : (opS k).toList.isEmpty = false := by simpa using he
        have HNE := Lib.hid hne; clear hne
        by_cases hp : Lib.hasPrefix s.data.toList (opText k) = true
        · rw [hp] at hpre hstep
          by_cases hl : (opS bk).size < (opS k).size
          · rw [if_pos ⟨HNE.out, rfl, hl⟩] at hstep
            have HS := Lib.hid hstep; clear hstep
            have HP := Lib.hid hpre; clear hpre hp
            go_wp2_with fail
            refine HP.out.mono ?_
            rintro e w' ⟨rfl, rfl⟩
            go_wp2_with fail
            go_round
            case rel => exact ⟨k + 1, by omega, by go_num, by rw [HS.out]⟩
            case measure => simp [intOf]; omega
          · rw [if_neg (fun h => hl h.2.2)] at hstep
            have HS := Lib.hid hstep; clear hstep
            have HP := Lib.hid hpre; clear hpre hp
            go_wp2_with fail
            refine HP.out.mono ?_
            rintro e w' ⟨rfl, rfl⟩
            go_wp2_with fail
            go_round
            case rel => exact ⟨k + 1, by omega, by go_num, by rw [HS.out]⟩
            case measure => simp [intOf]; omega
        · have hp' : Lib.hasPrefix s.data.toList (opText k) = false := by simpa using hp
          rw [hp'] at hpre
          rw [if_neg (fun h => hp h.2.1)] at hstep
          have HS := Lib.hid hstep; clear hstep
          have HP := Lib.hid hpre; clear hpre hp hp'
          go_wp2_with fail
          refine HP.out.mono ?_
          rintro e w' ⟨rfl, rfl⟩
          go_wp2_with fail
          go_round
          case rel => exact ⟨k + 1, by omega, by go_num, by rw [HS.out]⟩
          case measure => simp [intOf]; omega
    · obtain rfl : k = 7 := by omega
      clear hb hG
      go_wp2_with fail
      go_ret
      exact ⟨rfl, rfl⟩
end Go.Proofs.YtafgincpoahefaaDoor

namespace Go.Proofs.YtafgincpoahefaaDoor
open Go.RowKit

theorem enters_digit : ∀ args w, (callFunc 146 args).run Tryd.prog w = .ok (.enter 146 args) w := enters_of Tryd.func146 (by kernel_rfl) rfl
theorem enters_letter : ∀ args w, (callFunc 147 args).run Tryd.prog w = .ok (.enter 147 args) w := enters_of Tryd.func147 (by kernel_rfl) rfl
theorem enters_blank : ∀ args w, (callFunc 120 args).run Tryd.prog w = .ok (.enter 120 args) w := enters_of Tryd.func120 (by kernel_rfl) rfl
theorem lead_digit (s : ByteArray) (w : World) : Calls Tryd.prog 119 #[.string s, .func (.func 146) #[] #[]] w fun e w' => e = .returned (.int .i64 (lead digB s.data.toList)) ∧ Below w.heap.size w w' :=
  lex_lead 146 enters_digit (fun x => decide (48 ≤ (x : Int) ∧ (x : Int) ≤ 57)) (fun x W => lex_digit x W) digB (fun c _ => by unfold digB; congr 1; simp only [eq_iff_iff]; omega) (fun n hn => by simp; omega) (fun c hc => by simp [digB]; omega) s w
theorem lead_letter (s : ByteArray) (w : World) : Calls Tryd.prog 119 #[.string s, .func (.func 147) #[] #[]] w fun e w' => e = .returned (.int .i64 (lead letB s.data.toList)) ∧ Below w.heap.size w w' :=
  lex_lead 147 enters_letter (fun x => decide (97 ≤ (x : Int) ∧ (x : Int) ≤ 122)) (fun x W => lex_letter x W) letB (fun c _ => by unfold letB; congr 1; simp only [eq_iff_iff]; omega) (fun n hn => by simp; omega) (fun c hc => by simp [letB]; omega) s w
theorem lead_blank (s : ByteArray) (w : World) : Calls Tryd.prog 119 #[.string s, .func (.func 120) #[] #[]] w fun e w' => e = .returned (.int .i64 (lead blB s.data.toList)) ∧ Below w.heap.size w w' :=
  lex_lead 120 enters_blank (fun x => (x : Int) == 32) (fun x W => lex_blank x W) blB (fun c _ => by
    unfold blB
    by_cases h : c.toNat = 32
    · simp [h]
    · rw [decide_eq_false h]
      simp only [beq_eq_false_iff_ne]; omega) (fun n hn => by simp only [beq_eq_false_iff_ne]; omega) (fun c hc => by simp [blB]; omega) s w

theorem num_Read_take (s : ByteArray) (n : Nat) (hn : n ≤ s.size) (hs : s.size ≤ 140737488351232) (w : World) (hG : G w) :
    Calls Tryd.prog 44 #[.string (s.extract 0 n)] w fun e w' =>
    e = .returned (.tuple #[.int .i64 (readOf (s.data.toList.take n)).1, .int .i64 (readOf (s.data.toList.take n)).2]) ∧ Below w.heap.size w w' := by
  have h : (s.extract 0 n).data.toList = s.data.toList.take n := by simp
  have := num_Read (s.extract 0 n) (by simp; omega) w hG
  rwa [h] at this

theorem tokOf_dig (l : List UInt8) (h : 0 < lead digB l) : tokOf l = if (readOf (l.take (lead digB l))).2 = 0 ∧ (readOf (l.take (lead digB l))).1 ≤ 1099511627776 then (1, (readOf (l.take (lead digB l))).1, lead digB l) else (0, 0, 0) := by
  unfold tokOf; rw [if_pos h]
theorem tokOf_let (l : List UInt8) (h0 : ¬ 0 < lead digB l) (h : 0 < lead letB l) : tokOf l = if lead letB l = 1 then (2, ((l.headD 0).toNat : Int) - 97, 1) else if l.take (lead letB l) = within then (3, 0, lead letB l) else (0, 0, 0) := by
  unfold tokOf; rw [if_neg h0, if_pos h]
theorem tokOf_op (l : List UInt8) (h0 : ¬ 0 < lead digB l) (h1 : ¬ 0 < lead letB l) : tokOf l = if 0 < opOf l then (4, (opOf l : Int), (opText (opOf l)).length) else if signB (l.headD 0) = true then (5, ((l.headD 0).toNat : Int), 1) else (0, 0, 0) := by
  unfold tokOf; rw [if_neg h0, if_neg h1]

/-- what token tells -/
def TokPost (s : ByteArray) (w : World) (e : Ending) (w' : World) : Prop :=
  e = .returned (.tuple #[.agg #[.int .u8 (tokOf s.data.toList).1, .int .i64 (tokOf s.data.toList).2.1, .int .i64 0], .int .i64 (tokOf s.data.toList).2.2]) ∧ Below w.heap.size w w'
theorem tokPost_of {s : ByteArray} {w : World} {v : Value} {w' : World} {k n : Int} {m : Nat} (h : tokOf s.data.toList = (k, n, m)) (hv : v = .tuple #[.agg #[.int .u8 k, .int .i64 n, .int .i64 0], .int .i64 m]) (hb : Below w.heap.size w w') : TokPost s w (.returned v) w' := by
  unfold TokPost; rw [h, hv]; exact ⟨rfl, hb⟩

theorem token_end {s : ByteArray} {w W : World} {tmps : Array Value} {k n : Int} {m B : Nat} {cs : Array Value} (h2 : tmps.getD 2 undef = .pointer (some ⟨B, 0, none⟩)) (h3 : tmps.getD 3 undef = .int .i64 m) (hh : Holds W B 51 cs)
    (hcs : cs = #[.int .u8 k, .int .i64 n, .int .i64 0]) (ht : tokOf s.data.toList = (k, n, m)) (hb : Below w.heap.size w W) : bodyPost Tryd.prog Tryd.f121 (TokPost s w) .ret { tmps := tmps, defers := [] } W := by
  subst hcs
  refine bodyPost_ret (results_first rfl _ _ B _ _ _ h2 hh Tryd.underlying51 rfl (by kernel_rfl)) rfl (tokPost_of ht ?_ hb)
  rw [h3]

/-- the cells of a new token, in later worlds -/
theorem tok_cells {W : World} {b : Nat} {x y z : Value} (h : Holds W b 51 #[x, y, z]) : W.cell? ⟨b, 0, none⟩ = some x ∧ W.cell? ⟨b, 1, none⟩ = some y ∧ W.cell? ⟨b, 2, none⟩ = some z := ⟨h.cell 0, h.cell 1, h.cell 2⟩
theorem below_tok {w W : World} (h : Below w.heap.size w W) (x y z : Value) : Below w.heap.size w (((W.setCell ⟨w.heap.size, 0, none⟩ x).setCell ⟨w.heap.size, 1, none⟩ y).setCell ⟨w.heap.size, 2, none⟩ z) :=
  ((h.setCell (p := ⟨w.heap.size, 0, none⟩) (Nat.le_refl _) x).setCell (p := ⟨w.heap.size, 1, none⟩) (Nat.le_refl _) y).setCell (p := ⟨w.heap.size, 2, none⟩) (Nat.le_refl _) z

set_option maxRecDepth 100000 in
set_option maxHeartbeats 1000000 in
theorem token_number (s : ByteArray) (hs : s.size ≤ 140737488351232) (w : World) (hG : GL w) (hl : 0 < lead digB s.data.toList) : Calls Tryd.prog 121 #[.string s] w (TokPost s w) := by
  have hle : lead digB s.data.toList ≤ s.size := by have := lead_le digB s.data.toList; simpa using this
  have htok := tokOf_dig s.data.toList hl
  have c1 := fun w => lead_digit s w
  have c2 := fun w hG => num_Read_take s (lead digB s.data.toList) hle hs w hG
  have hrng := readOf_range (s.data.toList.take (lead digB s.data.toList))
  generalize lead digB s.data.toList = n at *
  generalize readOf (s.data.toList.take n) = r at *
  obtain ⟨m, er⟩ := r
  simp only at htok c2 hrng
  have C1 := Lib.hid c1; clear c1
  have C2 := Lib.hid c2; clear c2
  by_cases h0 : er = 0 ∧ m ≤ 1099511627776
  · obtain ⟨rfl, h1⟩ := h0
    rw [if_pos ⟨rfl, h1⟩] at htok
    have HT := Lib.hid htok; clear htok
    go_enter Tryd.func121, Tryd.ntmps121
    go_wp2_with fail
    refine wp_fwd 0 rfl ?_
    go_wp2_with fail
    refine (C1.out _).mono ?_
    rintro e w1 ⟨rfl, hb1⟩
    have hG1 := (hG.alloc _).mono hb1
    have hB1 := ((Below.refl w.heap.size w).alloc (Nat.le_refl _) _).trans (hb1.mono (by simp))
    have hz1 := (Holds.fresh w 51 #[.int .u8 0, .int .i64 0, .int .i64 0]).later hb1
    clear hb1
    go_wp2_with fail
    refine (C2.out _ hG1.g).mono ?_
    rintro e w2 ⟨rfl, hb2⟩
    have hB2 := hB1.trans (hb2.mono hB1.size)
    have hz2 := hz1.later hb2
    obtain ⟨z0, z1, z2⟩ := tok_cells hz2
    have zf := hz2.free
    have hs2 := hz2.size
    go_wp2_with fail
    rw [fwd_ret]
    exact token_end rfl rfl (((hz2.set 0 _).set 1 _).set 2 _) rfl HT.out (below_tok hB2 _ _ _)
  · rw [if_neg h0] at htok
    have HT := Lib.hid htok; clear htok
    by_cases he : er = 0
    · subst he
      have hm : ¬ m ≤ 1099511627776 := fun h => h0 ⟨rfl, h⟩
      clear h0
      go_enter Tryd.func121, Tryd.ntmps121
      go_wp2_with fail
      refine wp_fwd 0 rfl ?_
      go_wp2_with fail
      refine (C1.out _).mono ?_
      rintro e w1 ⟨rfl, hb1⟩
      have hG1 := (hG.alloc _).mono hb1
      have hB1 := ((Below.refl w.heap.size w).alloc (Nat.le_refl _) _).trans (hb1.mono (by simp))
      have hz1 := (Holds.fresh w 51 #[.int .u8 0, .int .i64 0, .int .i64 0]).later hb1
      clear hb1
      go_wp2_with fail
      refine (C2.out _ hG1.g).mono ?_
      rintro e w2 ⟨rfl, hb2⟩
      have hB2 := hB1.trans (hb2.mono hB1.size)
      have hz2 := hz1.later hb2
      obtain ⟨z0, z1, z2⟩ := tok_cells hz2
      have zf := hz2.free
      have hs2 := hz2.size
      go_wp2_with fail
      apply wp_goto
      refine fwd_goto ?_
      go_wp2_with fail
      rw [Exit.noGoto_ret]
      exact token_end rfl rfl (((hz2.set 0 _).set 1 _).set 2 _) rfl HT.out (below_tok hB2 _ _ _)
    · have he' : (er != 0) = true := by simpa using he
      clear h0
      go_enter Tryd.func121, Tryd.ntmps121
      go_wp2_with fail
      refine wp_fwd 0 rfl ?_
      go_wp2_with fail
      refine (C1.out _).mono ?_
      rintro e w1 ⟨rfl, hb1⟩
      have hG1 := (hG.alloc _).mono hb1
      have hB1 := ((Below.refl w.heap.size w).alloc (Nat.le_refl _) _).trans (hb1.mono (by simp))
      have hz1 := (Holds.fresh w 51 #[.int .u8 0, .int .i64 0, .int .i64 0]).later hb1
      clear hb1
      go_wp2_with fail
      refine (C2.out _ hG1.g).mono ?_
      rintro e w2 ⟨rfl, hb2⟩
      have hB2 := hB1.trans (hb2.mono hB1.size)
      have hz2 := hz1.later hb2
      obtain ⟨z0, z1, z2⟩ := tok_cells hz2
      have zf := hz2.free
      have hs2 := hz2.size
      go_wp2_with fail
      apply wp_goto
      refine fwd_goto ?_
      go_wp2_with fail
      rw [Exit.noGoto_ret]
      exact token_end rfl rfl (((hz2.set 0 _).set 1 _).set 2 _) rfl HT.out (below_tok hB2 _ _ _)

theorem head_get (s : ByteArray) (h : 0 < s.size) : s.data.toList.headD 0 = s[0] := by
  obtain ⟨⟨l⟩⟩ := s
  cases l with
  | nil => exact absurd h (Nat.lt_irrefl 0)
  | cons c r => rfl
theorem within_eq (s : ByteArray) (n : Nat) : (s.extract 0 n).toList = s.data.toList.take n := by
  rw [ByteArray.toList_eq, Lib.extract_data]; rfl

set_option maxRecDepth 100000 in
set_option maxHeartbeats 1000000 in
theorem token_letter (s : ByteArray) (hs : s.size ≤ 140737488351232) (w : World) (hd : ¬ 0 < lead digB s.data.toList) (hl : 0 < lead letB s.data.toList) : Calls Tryd.prog 121 #[.string s] w (TokPost s w) := by
  have hle : lead letB s.data.toList ≤ s.size := by have := lead_le letB s.data.toList; simpa using this
  have htok := tokOf_let s.data.toList hd hl
  have c1 := fun w => lead_digit s w
  rw [show lead digB s.data.toList = 0 from by omega] at c1
  have c2 := fun w => lead_letter s w
  have hpos : 0 < s.size := by omega
  have hc : 97 ≤ (s[0].toNat : Int) ∧ (s[0].toNat : Int) ≤ 122 := by
    obtain ⟨c, r, e, hc⟩ := (lead_pos letB s.data.toList).1 hl
    have h1 : s[0] = c := by rw [← head_get s hpos, e]; rfl
    rw [h1]
    have : 97 ≤ c.toNat ∧ c.toNat ≤ 122 := by simpa [letB] using hc
    omega
  obtain ⟨hc1, hc2⟩ := hc
  rw [head_get s hpos] at htok
  generalize lead letB s.data.toList = n at *
  have C1 := Lib.hid c1; clear c1 hd
  have C2 := Lib.hid c2; clear c2
  by_cases h1 : n = 1
  · subst h1
    rw [if_pos rfl] at htok
    have HT := Lib.hid htok; clear htok
    go_enter Tryd.func121, Tryd.ntmps121
    go_wp2_with fail
    refine wp_fwd 0 rfl ?_
    go_wp2_with fail
    refine (C1.out _).mono ?_
    rintro e w1 ⟨rfl, hb1⟩
    have hB1 := ((Below.refl w.heap.size w).alloc (Nat.le_refl _) _).trans (hb1.mono (by simp))
    have hz1 := (Holds.fresh w 51 #[.int .u8 0, .int .i64 0, .int .i64 0]).later hb1
    clear hb1
    go_wp2_with fail
    refine (C2.out _).mono ?_
    rintro e w2 ⟨rfl, hb2⟩
    have hB2 := hB1.trans (hb2.mono hB1.size)
    have hz2 := hz1.later hb2
    obtain ⟨z0, z1, z2⟩ := tok_cells hz2
    have zf := hz2.free
    have hs2 := hz2.size
    go_wp2_with fail
    rw [fwd_ret]
    exact token_end rfl rfl (((hz2.set 0 _).set 1 _).set 2 _) rfl HT.out (below_tok hB2 _ _ _)
  · rw [if_neg h1] at htok
    have hn1 : ((n : Int) == 1) = false := by simp only [beq_eq_false_iff_ne]; omega
    by_cases hw : s.data.toList.take n = within
    · rw [if_pos hw] at htok
      have hw1 : ((s.extract 0 n).toList == [119, 105, 116, 104, 105, 110]) = true := by rw [within_eq, hw]; rfl
      have HT := Lib.hid htok; clear htok hw
      go_enter Tryd.func121, Tryd.ntmps121
      go_wp2_with fail
      refine wp_fwd 0 rfl ?_
      go_wp2_with fail
      refine (C1.out _).mono ?_
      rintro e w1 ⟨rfl, hb1⟩
      have hB1 := ((Below.refl w.heap.size w).alloc (Nat.le_refl _) _).trans (hb1.mono (by simp))
      have hz1 := (Holds.fresh w 51 #[.int .u8 0, .int .i64 0, .int .i64 0]).later hb1
      clear hb1
      go_wp2_with fail
      refine (C2.out _).mono ?_
      rintro e w2 ⟨rfl, hb2⟩
      have hB2 := hB1.trans (hb2.mono hB1.size)
      have hz2 := hz1.later hb2
      obtain ⟨z0, z1, z2⟩ := tok_cells hz2
      have zf := hz2.free
      have hs2 := hz2.size
      go_wp2_with fail
      rw [fwd_ret]
      exact token_end rfl rfl (((hz2.set 0 _).set 1 _).set 2 _) rfl HT.out (below_tok hB2 _ _ _)
    · rw [if_neg hw] at htok
      have hw1 : ((s.extract 0 n).toList == [119, 105, 116, 104, 105, 110]) = false := by rw [within_eq]; simpa [within] using hw
      have HT := Lib.hid htok; clear htok hw
      go_enter Tryd.func121, Tryd.ntmps121
      go_wp2_with fail
      refine wp_fwd 0 rfl ?_
      go_wp2_with fail
      refine (C1.out _).mono ?_
      rintro e w1 ⟨rfl, hb1⟩
      have hB1 := ((Below.refl w.heap.size w).alloc (Nat.le_refl _) _).trans (hb1.mono (by simp))
      have hz1 := (Holds.fresh w 51 #[.int .u8 0, .int .i64 0, .int .i64 0]).later hb1
      clear hb1
      go_wp2_with fail
      refine (C2.out _).mono ?_
      rintro e w2 ⟨rfl, hb2⟩
      have hB2 := hB1.trans (hb2.mono hB1.size)
      have hz2 := hz1.later hb2
      obtain ⟨z0, z1, z2⟩ := tok_cells hz2
      have zf := hz2.free
      have hs2 := hz2.size
      go_wp2_with fail
      apply wp_goto
      refine fwd_goto ?_
      go_wp2_with fail
      rw [Exit.noGoto_ret]
      exact token_end rfl rfl (((hz2.set 0 _).set 1 _).set 2 _) rfl HT.out (below_tok hB2 _ _ _)

theorem indexByte_mem (c : UInt8) : ∀ l : List UInt8, (0 ≤ Lib.indexByte l c ↔ c ∈ l) ∧ -1 ≤ Lib.indexByte l c
  | [] => by simp [Lib.indexByte]
  | b :: l => by
    obtain ⟨h1, h2⟩ := indexByte_mem c l
    unfold Lib.indexByte
    by_cases hb : b = c
    · subst hb; simp
    · rw [if_neg (by simpa using hb)]
      by_cases hx : Lib.indexByte l c = -1
      · rw [if_pos (by simpa using hx)]
        have : c ∉ l := fun h => by have := h1.2 h; omega
        simp [this, Ne.symm hb]
      · rw [if_neg (by simpa using hx)]
        have : c ∈ l := h1.1 (by omega)
        exact ⟨⟨fun _ => List.mem_cons_of_mem _ this, fun _ => by omega⟩, by omega⟩
theorem indexByte_signs (c : UInt8) : 0 ≤ Lib.indexByte [33, 123, 125, 91, 93, 40, 41, 44, 59, 38, 43, 45] c ↔ signB c = true := by
  rw [(indexByte_mem c _).1]
  simp [signB, signL]
theorem cell_behind {W : World} {b b' o : Nat} {u : Value} (h : W.cell? ⟨b, o, none⟩ = some u) (hne : b ≠ b') (x y z : Value) :
    (((W.setCell ⟨b', 0, none⟩ x).setCell ⟨b', 1, none⟩ y).setCell ⟨b', 2, none⟩ z).drew.cell? ⟨b, o, none⟩ = some u := by
  show (((W.setCell ⟨b', 0, none⟩ x).setCell ⟨b', 1, none⟩ y).setCell ⟨b', 2, none⟩ z).cell? ⟨b, o, none⟩ = some u
  rw [World.cell?_setCell_other _ _ _ _ (fun e => hne (congrArg Addr.block e).symm), World.cell?_setCell_other _ _ _ _ (fun e => hne (congrArg Addr.block e).symm), World.cell?_setCell_other _ _ _ _ (fun e => hne (congrArg Addr.block e).symm)]
  exact h

set_option maxRecDepth 100000 in
set_option maxHeartbeats 1000000 in
theorem token_else (s : ByteArray) (hpos : 0 < s.size) (w : World) (hG : GL w) (hd : ¬ 0 < lead digB s.data.toList) (hl : ¬ 0 < lead letB s.data.toList) : Calls Tryd.prog 121 #[.string s] w (TokPost s w) := by
  have htok := tokOf_op s.data.toList hd hl
  have c1 := fun w => lead_digit s w
  have c2 := fun w => lead_letter s w
  have c3 := fun w hG => lex_op s w hG
  rw [show lead digB s.data.toList = 0 from by omega] at c1
  rw [show lead letB s.data.toList = 0 from by omega] at c2
  have hol : opOf s.data.toList < 7 := by
    cases e : s.data.toList with
    | nil => exact (by decide : 0 < 7)
    | cons c r =>
      rcases Nat.eq_zero_or_pos (opOf (c :: r)) with h | h
      · omega
      · exact (opText_app c r h).2
  rw [head_get s hpos] at htok
  generalize opOf s.data.toList = o at *
  have C1 := Lib.hid c1; clear c1 hd
  have C2 := Lib.hid c2; clear c2 hl
  have C3 := Lib.hid c3; clear c3
  by_cases h0 : 0 < o
  · rw [if_pos h0, ← opS_size] at htok
    have HT := Lib.hid htok; clear htok
    go_enter Tryd.func121, Tryd.ntmps121
    go_wp2_with fail
    refine wp_fwd 0 rfl ?_
    go_wp2_with fail
    refine (C1.out _).mono ?_
    rintro e w1 ⟨rfl, hb1⟩
    have hB1 := ((Below.refl w.heap.size w).alloc (Nat.le_refl _) _).trans (hb1.mono (by simp))
    have hz1 := (Holds.fresh w 51 #[.int .u8 0, .int .i64 0, .int .i64 0]).later hb1
    clear hb1
    go_wp2_with fail
    refine (C2.out _).mono ?_
    rintro e w2 ⟨rfl, hb2⟩
    have hB2 := hB1.trans (hb2.mono hB1.size)
    have hz2 := hz1.later hb2
    have hG2 := hG.mono' hB2 (Nat.le_refl _)
    obtain ⟨z0, z1, z2⟩ := tok_cells hz2
    have zf := hz2.free
    have hs2 := hz2.size
    go_wp2_with fail
    refine (C3.out _ hG2).mono ?_
    rintro e w3 ⟨rfl, rfl⟩
    have hcell := hG2.cell o hol
    have hlo : 2 ≠ w.heap.size := by have := cell_lt (hG.cell 0 (by omega)); simp only at this; omega
    go_wp2_with fail
    have hoi : (o : Int) < 7 := by omega
    have hcell2 := cell_behind hcell hlo (.int .u8 4) (.int .i64 o) (.int .i64 0)
    go_region
    go_wp2_with fail
    rw [fwd_ret]
    exact token_end rfl rfl (((hz2.set 0 _).set 1 _).set 2 _).drew rfl HT.out (below_tok hB2 _ _ _).drew
  · rw [if_neg h0] at htok
    obtain rfl : o = 0 := by omega
    have c4 : ∀ w, Calls Tryd.prog 90 #[.string ⟨#[33, 123, 125, 91, 93, 40, 41, 44, 59, 38, 43, 45]⟩, .int .u8 (s[0].toNat : Int)] w fun e w' => e = .returned (.int .i64 (Lib.indexByte [33, 123, 125, 91, 93, 40, 41, 44, 59, 38, 43, 45] s[0])) ∧ w = w' := by
      intro w
      have := Tryd.strings_IndexByte ⟨#[33, 123, 125, 91, 93, 40, 41, 44, 59, 38, 43, 45]⟩ (s[0].toNat : Int) w
      rw [show ((s[0].toNat : Int)).toNat.toUInt8 = s[0] from by simp] at this
      exact this.mono fun _ _ h => ⟨h.1, h.2.symm⟩
    have hx := indexByte_signs s[0]
    have hc0 : 0 ≤ (s[0].toNat : Int) := by omega
    have hc1 : (s[0].toNat : Int) < 256 := by have := s[0].toNat_lt; omega
    generalize Lib.indexByte [33, 123, 125, 91, 93, 40, 41, 44, 59, 38, 43, 45] s[0] = x at *
    have C4 := Lib.hid (c4); clear c4
    by_cases hsg : signB s[0] = true
    · rw [if_pos hsg] at htok
      have h0x := hx.2 hsg
      have HT := Lib.hid htok; clear htok hx hsg
      go_enter Tryd.func121, Tryd.ntmps121
      go_wp2_with fail
      refine wp_fwd 0 rfl ?_
      go_wp2_with fail
      refine (C1.out _).mono ?_
      rintro e w1 ⟨rfl, hb1⟩
      have hB1 := ((Below.refl w.heap.size w).alloc (Nat.le_refl _) _).trans (hb1.mono (by simp))
      have hz1 := (Holds.fresh w 51 #[.int .u8 0, .int .i64 0, .int .i64 0]).later hb1
      clear hb1
      go_wp2_with fail
      refine (C2.out _).mono ?_
      rintro e w2 ⟨rfl, hb2⟩
      have hB2 := hB1.trans (hb2.mono hB1.size)
      have hz2 := hz1.later hb2
      have hG2 := hG.mono' hB2 (Nat.le_refl _)
      obtain ⟨z0, z1, z2⟩ := tok_cells hz2
      have zf := hz2.free
      have hs2 := hz2.size
      go_wp2_with fail
      refine (C3.out _ hG2).mono ?_
      rintro e w3 ⟨rfl, rfl⟩
      go_wp2_with fail
      refine (C4.out _).mono ?_
      rintro e w3 ⟨rfl, rfl⟩
      go_wp2_with fail
      rw [fwd_ret]
      exact token_end rfl rfl (((hz2.set 0 _).set 1 _).set 2 _) rfl HT.out (below_tok hB2 _ _ _)
    · rw [if_neg hsg] at htok
      have h0x : ¬ 0 ≤ x := fun h => hsg (hx.1 h)
      have HT := Lib.hid htok; clear htok hx hsg
      go_enter Tryd.func121, Tryd.ntmps121
      go_wp2_with fail
      refine wp_fwd 0 rfl ?_
      go_wp2_with fail
      refine (C1.out _).mono ?_
      rintro e w1 ⟨rfl, hb1⟩
      have hB1 := ((Below.refl w.heap.size w).alloc (Nat.le_refl _) _).trans (hb1.mono (by simp))
      have hz1 := (Holds.fresh w 51 #[.int .u8 0, .int .i64 0, .int .i64 0]).later hb1
      clear hb1
      go_wp2_with fail
      refine (C2.out _).mono ?_
      rintro e w2 ⟨rfl, hb2⟩
      have hB2 := hB1.trans (hb2.mono hB1.size)
      have hz2 := hz1.later hb2
      have hG2 := hG.mono' hB2 (Nat.le_refl _)
      obtain ⟨z0, z1, z2⟩ := tok_cells hz2
      have zf := hz2.free
      have hs2 := hz2.size
      go_wp2_with fail
      refine (C3.out _ hG2).mono ?_
      rintro e w3 ⟨rfl, rfl⟩
      go_wp2_with fail
      refine (C4.out _).mono ?_
      rintro e w3 ⟨rfl, rfl⟩
      go_wp2_with fail
      go_step3
      go_wp2_with fail
      rw [fwd_ret]
      exact token_end rfl rfl (((hz2.set 0 _).set 1 _).set 2 _) rfl HT.out (below_tok hB2 _ _ _)

theorem lex_token (s : ByteArray) (hpos : 0 < s.size) (hs : s.size ≤ 140737488351232) (w : World) (hG : GL w) : Calls Tryd.prog 121 #[.string s] w (TokPost s w) := by
  by_cases h1 : 0 < lead digB s.data.toList
  · exact token_number s hs w hG h1
  · by_cases h2 : 0 < lead letB s.data.toList
    · exact token_letter s hs w h1 h2
    · exact token_else s hpos w hG h1 h2
end Go.Proofs.YtafgincpoahefaaDoor
