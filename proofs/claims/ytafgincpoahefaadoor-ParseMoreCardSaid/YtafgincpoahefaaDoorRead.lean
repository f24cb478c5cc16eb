/-
  errors.Is(err, strconv.ErrRange) at nil and at a *strconv.NumError: after the kit's worked text SentryIs (written by its is-facts.mjs), turned to *strconv.NumError.
  num: Read.
-/
import Derived.Test.YtafgincpoahefaaDoorGround
import Derived.LaidEql
import Derived.Stop.Asserts
import Derived.RowKitTokens
import Derived.Outline
import Derived.OwnWalk
import Derived.Test.YtafgincpoahefaaDoorNum
namespace Go.Proofs.YtafgincpoahefaaDoor
open Go.RowKit Go.Extern.Stop Go.Stop Go.Extern

theorem isTypeOf (v : Value) (w : World) : (Extern.ReflectliteType.typeOf #[.iface 199 v]).run Tryd.prog w = .ok (.iface 163 (.agg #[.pointer (some ⟨9, 199, none⟩)])) w := by kernel_rfl
theorem isComparable (w : World) : ((Extern.ReflectliteType.method fun t => do Go.Extern.Rtype.noPackHeld "Comparable" t; (fun a => Value.bool a.comparable) <$> typeInfo t) #[.agg #[.pointer (some ⟨9, 199, none⟩)]]).run Tryd.prog w = .ok (.bool true) w := by kernel_rfl
theorem isMethodComparable (v : Value) (w : World) : (Go.method 337 163 v "Comparable").run Tryd.prog w = .ok (197, v) w := by kernel_rfl
theorem methodUnwrap (v : Value) (w : World) : (Go.method 337 159 v "Unwrap").run Tryd.prog w = .ok (193, v) w := by kernel_rfl
theorem isComp : (Tryd.prog.info? 199).map (·.comparable) = some true := by kernel_rfl
theorem isSize : (Tryd.prog.info? 201).map (·.size) = some 1 := by kernel_rfl
theorem noIsE (v : Value) (xT : TypeId) (w : World) : (Instr.typeAssert (.iface 199 v) xT 165 true).run Tryd.prog w = .ok (.tuple #[.nilIface, .bool false]) w := run_typeAssert_lacksB Tryd.underlying165 (by kernel_rfl) (by kernel_rfl) v xT w
theorem noUnwrapE (v : Value) (xT : TypeId) (w : World) : (Instr.typeAssert (.iface 199 v) xT 168 true).run Tryd.prog w = .ok (.tuple #[.nilIface, .bool false]) w := run_typeAssert_lacksB Tryd.underlying168 (by kernel_rfl) (by kernel_rfl) v xT w
theorem noUnwrapsE (v : Value) (xT : TypeId) (w : World) : (Instr.typeAssert (.iface 199 v) xT 170 true).run Tryd.prog w = .ok (.tuple #[.nilIface, .bool false]) w := run_typeAssert_lacksB Tryd.underlying170 (by kernel_rfl) (by kernel_rfl) v xT w
theorem noIsW (v : Value) (xT : TypeId) (w : World) : (Instr.typeAssert (.iface 159 v) xT 165 true).run Tryd.prog w = .ok (.tuple #[.nilIface, .bool false]) w := run_typeAssert_lacksB Tryd.underlying165 (by kernel_rfl) (by kernel_rfl) v xT w
theorem hasUnwrapW (v : Value) (xT : TypeId) (w : World) : (Instr.typeAssert (.iface 159 v) xT 168 true).run Tryd.prog w = .ok (.tuple #[.iface 159 v, .bool true]) w := run_typeAssert_hasB Tryd.underlying168 (by kernel_rfl) v xT w

/-- errors.Is(nil, x). -/
theorem is_nil (b : Addr) (w : World) :
    Calls Tryd.prog 83 #[.nilIface, .iface 199 (.pointer (some b))] w fun e w' => e = .returned (.bool false) ∧ w = w' := by
  have hn := run_eql_iface_nil_left (P := Tryd.prog) w 199 (.pointer (some b)) Tryd.underlying81
  go_enter Tryd.func83, Tryd.ntmps83
  go_wp2
  go_ret
  exact ⟨rfl, rfl⟩

set_option maxRecDepth 100000 in
set_option maxHeartbeats 1000000 in
theorem is_wrap_same (pb : Nat) (b : Addr) (w : World) (h1 : w.cell? ⟨pb, 2, none⟩ = some (.iface 199 (.pointer (some b)))) :
    Calls Tryd.prog 83 #[.iface 159 (.pointer (some ⟨pb, 0, none⟩)), .iface 199 (.pointer (some b))] w fun e w' => e = .returned (.bool true) ∧ w = w' := by
  obtain ⟨i, hi, hcmp⟩ := Option.map_eq_some_iff.1 isComp
  obtain ⟨j, hj, hjs⟩ := Option.map_eq_some_iff.1 isSize
  have h8 := @run_callFunc_extern Tryd.prog 111 _ Extern.ReflectliteType.typeOf Tryd.func111 (by kernel_rfl) (by kernel_rfl) (by kernel_rfl) (by kernel_rfl)
  have h32 := @run_callFunc_extern Tryd.prog 197 _ (Extern.ReflectliteType.method fun t => do Go.Extern.Rtype.noPackHeld "Comparable" t; pure (.bool (← typeInfo t).comparable)) Tryd.func197 (by kernel_rfl) (by kernel_rfl) (by kernel_rfl) (by kernel_rfl)
  have tT := isTypeOf
  have cT := isComparable
  have mR := isMethodComparable
  have nE := noIsE
  have uE := noUnwrapE
  have vE := noUnwrapsE
  have nW := noIsW
  have uW := hasUnwrapW
  have mU := methodUnwrap
  have heq := run_eql_iface_ptr_same (P := Tryd.prog) w b Tryd.underlying81 Tryd.underlying199 hi hcmp hj
  have hty := run_eql_iface_types (P := Tryd.prog) 159 199 (.pointer (some ⟨pb, 0, none⟩)) (.pointer (some b)) Tryd.underlying81 (by decide) w
  go_enter Tryd.func83, Tryd.ntmps83
  go_wp2
  refine wp_loop_rounds 2 ?_
  rw [rounds_succ]
  go_wp2
  rw [rounds_succ]
  go_wp2
  go_ret
  exact ⟨rfl, rfl⟩
set_option maxRecDepth 100000 in
set_option maxHeartbeats 1000000 in
theorem is_wrap_other (pb : Nat) (b a : Addr) (ca cb : Array Value) (ta tb : TypeId) (w : World) (h1 : w.cell? ⟨pb, 2, none⟩ = some (.iface 199 (.pointer (some a)))) (hne : a ≠ b) (ha : w.heap[a.block]? = some (.cells ca ta (0, 0))) (hb : w.heap[b.block]? = some (.cells cb tb (0, 0))) :
    Calls Tryd.prog 83 #[.iface 159 (.pointer (some ⟨pb, 0, none⟩)), .iface 199 (.pointer (some b))] w fun e w' => e = .returned (.bool false) ∧ w = w' := by
  obtain ⟨i, hi, hcmp⟩ := Option.map_eq_some_iff.1 isComp
  obtain ⟨j, hj, hjs⟩ := Option.map_eq_some_iff.1 isSize
  have h8 := @run_callFunc_extern Tryd.prog 111 _ Extern.ReflectliteType.typeOf Tryd.func111 (by kernel_rfl) (by kernel_rfl) (by kernel_rfl) (by kernel_rfl)
  have h32 := @run_callFunc_extern Tryd.prog 197 _ (Extern.ReflectliteType.method fun t => do Go.Extern.Rtype.noPackHeld "Comparable" t; pure (.bool (← typeInfo t).comparable)) Tryd.func197 (by kernel_rfl) (by kernel_rfl) (by kernel_rfl) (by kernel_rfl)
  have tT := isTypeOf
  have cT := isComparable
  have mR := isMethodComparable
  have nE := noIsE
  have uE := noUnwrapE
  have vE := noUnwrapsE
  have nW := noIsW
  have uW := hasUnwrapW
  have mU := methodUnwrap
  have heq := run_eql_iface_ptr_other (P := Tryd.prog) w Tryd.underlying81 Tryd.underlying199 hi hcmp hj (by rw [hjs]; decide) hne ha hb
  have hty := run_eql_iface_types (P := Tryd.prog) 159 199 (.pointer (some ⟨pb, 0, none⟩)) (.pointer (some b)) Tryd.underlying81 (by decide) w
  go_enter Tryd.func83, Tryd.ntmps83
  go_wp2
  refine wp_loop_rounds 2 ?_
  rw [rounds_succ]
  go_wp2
  rw [rounds_succ]
  go_wp2
  go_ret
  exact ⟨rfl, rfl⟩
end Go.Proofs.YtafgincpoahefaaDoor

namespace Go.Proofs.YtafgincpoahefaaDoor
open Go.RowKit Go.Shelf

def digB (c : UInt8) : Bool := decide (48 ≤ c.toNat ∧ c.toNat ≤ 57)
def okB (c : UInt8) (i : Nat) : Bool := digB c || (decide (c.toNat = 45) && decide (i = 0))
def formB : List UInt8 → Bool
  | [] => true
  | c :: l => okB c 0 && l.all digB

theorem formB_iff (l : List UInt8) : formB l = true ↔ ∀ i (h : i < l.length), okB l[i] i = true := by
  cases l with
  | nil => simp [formB]
  | cons c l =>
    simp only [formB, Bool.and_eq_true, List.all_eq_true]
    constructor
    · rintro ⟨h1, h2⟩ i h
      cases i with
      | zero => exact h1
      | succ i =>
        have hi : i < l.length := by simpa using h
        have := h2 l[i] (List.getElem_mem hi)
        simp [okB, this]
    · intro h
      refine ⟨h 0 (by simp), fun c hc => ?_⟩
      obtain ⟨i, hi, rfl⟩ := List.getElem_of_mem hc
      have := h (i + 1) (by simp; omega)
      simpa [okB] using this

theorem okB_yes (c : UInt8) (i : Nat) (h : (48 ≤ (c.toNat : Int) ∧ (c.toNat : Int) ≤ 57) ∨ ((c.toNat : Int) = 45 ∧ i = 0)) : okB c i = true := by
  unfold okB digB
  rcases h with h | h
  · simp only [Bool.or_eq_true, decide_eq_true_eq]; left; omega
  · simp only [Bool.or_eq_true, Bool.and_eq_true, decide_eq_true_eq]; right; omega
theorem okB_no (c : UInt8) (i : Nat) (h : ¬ ((48 ≤ (c.toNat : Int) ∧ (c.toNat : Int) ≤ 57) ∨ ((c.toNat : Int) = 45 ∧ i = 0))) : okB c i = false := by
  unfold okB digB
  simp only [Bool.or_eq_false_iff, Bool.and_eq_false_iff, decide_eq_false_iff_not]
  omega

/-- what Read tells -/
def readOf (l : List UInt8) : Int × Int :=
  if formB l = true then
    match Lib.parseIntB 64 l with
    | .ok v => if Lib.itoa v = l then (v, 0) else (0, 11)
    | .range => if Lib.hasPrefix (Lib.trimPrefix l [45]) [48] = true then (0, 11) else (0, 12)
    | _ => (0, 11)
  else (0, 11)

theorem readOf_bad (l : List UInt8) (k : Nat) (h : k < l.length) (hb : okB l[k] k = false) : readOf l = (0, 11) := by
  unfold readOf
  rw [if_neg]
  intro hf
  have := (formB_iff l).1 hf k h
  rw [hb] at this
  cases this
theorem bytes_at (s : ByteArray) (k : Nat) (h : k < s.size) : s.data.toList[k]'(by simpa using h) = s[k] := by rw [Array.getElem_toList]; rfl

set_option maxHeartbeats 1000000 in
theorem num_Read (s : ByteArray) (hs : s.size ≤ 140737488351232) (w : World) (hG : G w) :
    Calls Tryd.prog 44 #[.string s] w fun e w' =>
    e = .returned (.tuple #[.int .i64 (readOf s.data.toList).1, .int .i64 (readOf s.data.toList).2]) ∧ Below w.heap.size w w' := by
  have hlen : s.data.toList.length = s.size := by simp
  have HL := Lib.hid hlen; clear hlen
  go_enter Tryd.func44, Tryd.ntmps44
  go_wp2_with fail
  go_loop [4, 5, 10] (fun _ _ i => ∃ k : Nat, k ≤ s.size ∧ i = .int .i64 k ∧ ∀ j (h : j < k) (h' : j < s.data.toList.length), okB s.data.toList[j] j = true) (fun _ _ i => s.size - (intOf i).toNat)
  case atStart => exact ⟨0, Nat.zero_le _, rfl, fun j h => absurd h (Nat.not_lt_zero _)⟩
  case round =>
    obtain ⟨k, hk, rfl, hok⟩ := hrel
    by_cases hlt : k < s.size
    · have hbad : okB s[k] k = false → readOf s.data.toList = (0, 11) := fun hb => readOf_bad _ k (by rw [HL.out]; exact hlt) (by rw [bytes_at s k hlt]; exact hb)
      have hnext : okB s[k] k = true → ∀ j (h : j < k + 1) (h' : j < s.data.toList.length), okB s.data.toList[j] j = true := fun hb j h h' => by
        by_cases e : j < k
        · exact hok j e h'
        · obtain rfl : j = k := by omega
          rw [bytes_at s j hlt]; exact hb
      have HB := Lib.hid hbad; clear hbad
      have HN := Lib.hid hnext; clear hnext
      have HOK := Lib.hid hok; clear hok
      rcases Nat.eq_zero_or_pos k with hk0 | hk0
      · subst hk0
        go_wp2_with fail
        all_goals first
          | (go_ret2; rw [HB.out (okB_no _ _ (by omega))]; exact ⟨rfl, Below.refl _ _⟩)
          | (exfalso; have h2 : (!decide (((s[0].toNat : Nat) : Int) ≤ 57)) = false := by assumption
             simp at h2; omega)
          | (go_round; (case rel => exact ⟨1, by omega, rfl, HN.out (okB_yes _ _ (by omega))⟩); (case measure => simp [intOf]; omega))
      · have hk1 : ((k : Int) == 0) = false := by simp; omega
        go_wp2_with fail
        all_goals first
          | (go_ret2; rw [HB.out (okB_no _ _ (by omega))]; exact ⟨rfl, Below.refl _ _⟩)
          | (exfalso; have h2 : (!decide (((s[k].toNat : Nat) : Int) ≤ 57)) = false := by assumption
             simp at h2; omega)
          | (go_round; (case rel => exact ⟨k + 1, by omega, by go_num, HN.out (okB_yes _ _ (by omega))⟩); (case measure => simp [intOf]; omega))
    · have hf : formB s.data.toList = true := (formB_iff _).2 fun i h => hok i (by rw [HL.out] at h; omega) h
      have HF := Lib.hid hf; clear hf hok
      go_wp2_with fail
      obtain ⟨pR, pS, cR, cS, tR, tS, hR, hS, hne, hbR, hbS⟩ := hG.err
      have hcR := World.var?_cell gRange hR 0
      rcases hp : Lib.parseIntB 64 s.data.toList with v | _ | _
      · -- a number
        have hv := Lib.parseIntB_bounds hp
        refine (Tryd.strconv_ParseInt_10_at64_ok s (by omega) v hp _).mono ?_
        rintro e w1 ⟨rfl, hw1⟩
        have hb1 : Below w.heap.size w w1 := by
          rcases hw1 with rfl | ⟨t, rfl⟩
          · exact Below.refl _ _
          · exact Lib.bytesWorld_below _ _ _
        have hG1 := hG.mono hb1
        have hcR1 : w1.cell? ⟨1, 0, none⟩ = some (.iface 199 (.pointer (some pR))) := cell_mono hb1 (Nat.le_refl _) hcR
        have HP := Lib.hid hp; clear hp hw1
        go_wp2_with fail
        refine (is_nil pR _).mono ?_
        rintro e w2 ⟨rfl, rfl⟩
        go_wp2_with fail
        refine (Tryd.strconv_FormatInt_10 v (by omega) (by omega) _ hG1.pow).mono ?_
        rintro e w2 ⟨rfl, k2, os, rfl⟩
        have hb2 := hb1.trans ((below_grow w1 k2 os).mono hb1.size)
        go_wp2_with fail
        · have h : (!Lib.itoa v == s.toList) = true := by assumption
          have h' : ¬ Lib.itoa v = s.data.toList := by rw [← Go.ByteArray.toList_eq]; simpa using h
          go_ret2
          rw [show readOf s.data.toList = (0, 11) from by rw [readOf, if_pos HF.out, HP.out]; simp only []; rw [if_neg h']]
          exact ⟨rfl, hb2⟩
        · have h : (!Lib.itoa v == s.toList) = false := by assumption
          have h' : Lib.itoa v = s.data.toList := by rw [← Go.ByteArray.toList_eq]; simpa using h
          go_ret2
          rw [show readOf s.data.toList = (v, 0) from by rw [readOf, if_pos HF.out, HP.out]; simp only []; rw [if_pos h']]
          exact ⟨rfl, hb2⟩
      · -- no number
        have hc : Calls Tryd.prog 82 #[.string s, .int .i64 10, .int .i64 64] w fun e w' => ∃ N, e = .returned (.tuple #[.int .i64 (0), .iface 159 (.pointer (some ⟨N, 0, none⟩))]) ∧ w.heap.size ≤ N ∧ w'.heap[N]? = some (.cells #[.string ⟨#[80, 97, 114, 115, 101, 73, 110, 116]⟩, .string s, .iface 199 (.pointer (some pS))] 187 (0, 0)) ∧ Below w.heap.size w w' :=
          Any.strconv_ParseInt_10_at64_syntax_var Tryd.laysC174 s (by omega) hp _ _ w hS
        have HC := Lib.hid hc; clear hc
        refine HC.out.mono ?_
        rintro e w1 ⟨N, rfl, hN, hh, hb1⟩
        have hcR1 : w1.cell? ⟨1, 0, none⟩ = some (.iface 199 (.pointer (some pR))) := cell_mono hb1 (Nat.le_refl _) hcR
        have hbR1 := block_mono hb1 (Nat.le_refl _) hbR
        have hbS1 := block_mono hb1 (Nat.le_refl _) hbS
        have h2 : w1.cell? ⟨N, 2, none⟩ = some (.iface 199 (.pointer (some pS))) := by simp [World.cell?, hh]
        have HH := Lib.hid hh; clear hh
        have HP := Lib.hid hp; clear hp
        go_wp2_with fail
        refine (is_wrap_other N pR pS _ _ _ _ _ h2 hne hbS1 hbR1).mono ?_
        rintro e w2 ⟨rfl, rfl⟩
        go_wp2_with fail
        go_ret2
        rw [show readOf s.data.toList = (0, 11) from by rw [readOf, if_pos HF.out, HP.out]]
        exact ⟨rfl, hb1⟩
      · -- one that is too great
        refine (Tryd.strconv_ParseInt_10_at64_range_var s (by omega) hp _ _ _ hR).mono ?_
        rintro e w1 ⟨N, rfl, hN, hh, hb1⟩
        have hcR1 : w1.cell? ⟨1, 0, none⟩ = some (.iface 199 (.pointer (some pR))) := cell_mono hb1 (Nat.le_refl _) hcR
        have h2 : w1.cell? ⟨N, 2, none⟩ = some (.iface 199 (.pointer (some pR))) := by simp [World.cell?, hh]
        have HH := Lib.hid hh; clear hh
        have HP := Lib.hid hp; clear hp
        go_wp2_with fail
        refine (is_wrap_same N pR _ h2).mono ?_
        rintro e w2 ⟨rfl, rfl⟩
        go_wp2_with fail
        refine (Tryd.strings_TrimPrefix s _ _).mono ?_
        rintro e w2 ⟨rfl, rfl⟩
        go_wp2_with fail
        refine (Tryd.strings_HasPrefix _ _ _).mono ?_
        rintro e w2 ⟨rfl, rfl⟩
        go_wp2_with fail
        · have h : Lib.hasPrefix (Lib.trimPrefix s.data.toList [45]) [48] = true := by assumption
          go_ret2
          rw [show readOf s.data.toList = (0, 11) from by rw [readOf, if_pos HF.out, HP.out]; simp only []; rw [if_pos h]]
          exact ⟨rfl, hb1⟩
        · have h : Lib.hasPrefix (Lib.trimPrefix s.data.toList [45]) [48] = false := by assumption
          go_ret2
          rw [show readOf s.data.toList = (0, 12) from by rw [readOf, if_pos HF.out, HP.out]; simp only []; rw [if_neg (by rw [h]; decide)]]
          exact ⟨rfl, hb1⟩
end Go.Proofs.YtafgincpoahefaaDoor
