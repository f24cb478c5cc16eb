/-
  lex: digit, letter, lead, op.
-/
import Derived.Test.YtafgincpoahefaaDoorLexP
import Derived.Outline
namespace Go.Proofs.YtafgincpoahefaaDoor
open Go.RowKit

set_option maxHeartbeats 400000 in
theorem lex_digit (r : Int) (w : World) : Calls Tryd.prog 146 #[.int .i32 r] w fun e w' => e = .returned (.bool (decide (48 ≤ r ∧ r ≤ 57))) ∧ w = w' := by
  go_enter Tryd.func146, Tryd.ntmps146
  go_wp2_with fail
  all_goals
    go_ret
    refine ⟨?_, rfl⟩
    congr 2
    simp
    try omega
set_option maxHeartbeats 400000 in
theorem lex_letter (r : Int) (w : World) : Calls Tryd.prog 147 #[.int .i32 r] w fun e w' => e = .returned (.bool (decide (97 ≤ r ∧ r ≤ 122))) ∧ w = w' := by
  go_enter Tryd.func147, Tryd.ntmps147
  go_wp2_with fail
  all_goals
    go_ret
    refine ⟨?_, rfl⟩
    congr 2
    simp
    try omega
set_option maxHeartbeats 400000 in
theorem lex_blank (r : Int) (w : World) : Calls Tryd.prog 120 #[.int .i32 r] w fun e w' => e = .returned (.bool (r == 32)) ∧ w = w' := by
  go_enter Tryd.func120, Tryd.ntmps120
  go_wp2_with fail
  go_ret
  exact ⟨rfl, rfl⟩

/-- a function that tells of a rune whether it is so -/
def Tells (g : Nat) (q : Nat → Bool) : Prop := ∀ (x : Nat) (W : World), Calls Tryd.prog g #[.int .i32 x] W fun e w' => e = .returned (.bool (q x)) ∧ W = w'

theorem lex_lead1 (g : Nat) (eg : ∀ args w, (callFunc g args).run Tryd.prog w = .ok (.enter g args) w) (q : Nat → Bool) (hq : Tells g q) (x B : Nat) (W : World) (hc : W.cell? ⟨B, 0, none⟩ = some (.func (.func g) #[] #[])) :
    Calls Tryd.prog 145 #[.int .i32 x, .pointer (some ⟨B, 0, none⟩)] W fun e w' => e = .returned (.bool (!q x)) ∧ W = w' := by
  have hq' := hq x W
  go_enter Tryd.func145, Tryd.ntmps145
  go_wp2_with (go_at_fn g; refine hq'.mono ?_; rintro e w' ⟨rfl, rfl⟩)
  go_ret
  exact ⟨rfl, rfl⟩

theorem enters_lead1 : ∀ args w, (callFunc 145 args).run Tryd.prog w = .ok (.enter 145 args) w := enters_of Tryd.func145 (by kernel_rfl) rfl

theorem lex_lead (g : Nat) (eg : ∀ args w, (callFunc g args).run Tryd.prog w = .ok (.enter g args) w) (q : Nat → Bool) (hq : Tells g q) (p : UInt8 → Bool)
    (h1 : ∀ c : UInt8, c.toNat < 128 → q c.toNat = p c) (h2 : ∀ n, 128 ≤ n → q n = false) (h3 : ∀ c : UInt8, 128 ≤ c.toNat → p c = false) (s : ByteArray) (w : World) :
    Calls Tryd.prog 119 #[.string s, .func (.func g) #[] #[]] w fun e w' => e = .returned (.int .i64 (lead p s.data.toList)) ∧ Below w.heap.size w w' := by
  have hidx := lead_idx p (fun x => !q x) (fun c hc => by simp [h1 c hc]) (fun n hn => by simp [h2 n hn]) h3 s s.size 0 (Nat.zero_le _) (by omega)
  simp only [List.drop_zero, Nat.zero_add] at hidx
  have hle : lead p s.data.toList ≤ s.size := by have := lead_le p s.data.toList; simpa using this
  have hpg : PredGrows Tryd.prog 145 #[.pointer (some ⟨w.heap.size, 0, none⟩)] (fun x => !q x) (w.alloc (.cells #[.func (.func g) #[] #[]] 146)) := by
    intro W x _ hb
    refine (lex_lead1 g eg q hq x w.heap.size W ?_).mono ?_
    · exact (hb.cell (p := ⟨w.heap.size, 0, none⟩) (by simp)).trans (boxed_new rfl _ _).cell
    · rintro e w' ⟨rfl, rfl⟩; exact ⟨rfl, Below.refl _ _⟩
  have hcall := Tryd.strings_IndexFunc_grows 145 #[.pointer (some ⟨w.heap.size, 0, none⟩)] enters_lead1 (fun x => !q x) s _ hpg
  rw [show Lib.idxFunc (fun x => !q x) true s = _ from hidx] at hcall
  clear hidx hpg
  by_cases hs : lead p s.data.toList = s.size
  · rw [if_pos hs] at hcall
    rw [hs]
    have HC := Lib.hid hcall; clear hcall hs hle
    go_enter Tryd.func119, Tryd.ntmps119
    go_wp2_with fail
    refine HC.out.mono ?_
    rintro e w' ⟨rfl, hb⟩
    go_wp2_with fail
    go_ret
    exact ⟨rfl, ((Below.refl _ _).alloc (Nat.le_refl _) _).trans (hb.mono (by simp))⟩
  · rw [if_neg hs] at hcall
    have HC := Lib.hid hcall; clear hcall hs
    go_enter Tryd.func119, Tryd.ntmps119
    go_wp2_with fail
    refine HC.out.mono ?_
    rintro e w' ⟨rfl, hb⟩
    go_wp2_with fail
    go_ret
    exact ⟨rfl, ((Below.refl _ _).alloc (Nat.le_refl _) _).trans (hb.mono (by simp))⟩
end Go.Proofs.YtafgincpoahefaaDoor
