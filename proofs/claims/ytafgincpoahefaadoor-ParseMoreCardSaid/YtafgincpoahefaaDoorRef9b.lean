/-
  straggleref09: sign, more, kind, term, cmp.
-/
import Derived.Test.YtafgincpoahefaaDoorRef9a
namespace Go.Proofs.YtafgincpoahefaaDoor
open Go.RowKit
attribute [local go_sem] Oper.semAt_some

/-- what must tells: a number of a token, or 0 -/
def R9n (ts : List Tok) (b blk off cap at0 : Nat) (bad : Bool) (c : Int) (w : World) (e : Ending) (w' : World) : Prop :=
  ∃ (x : Int) (at1 : Nat) (bad1 : Bool), e = .returned (.int .i64 x) ∧ (0 ≤ x ∧ x ≤ 1099511627776 ∧ (c = 4 → x < 7)) ∧ Out9 ts at0 bad (pTake c (ts.drop at0)) x at1 bad1 ∧ P9 ts b blk off cap at1 bad1 w' ∧ w.grownBy w' (some b)
theorem ref9_mustn (ts : List Tok) (b blk off cap at0 : Nat) (bad : Bool) (hlt : at0 < ts.length) (c : Int) (hc0 : 0 ≤ c) (hc1 : c ≤ 255) (w : World) (h : P9 ts b blk off cap at0 bad w) :
    Calls Tryd.prog 75 #[.pointer (some ⟨b, 0, none⟩), .int .u8 c] w (R9n ts b blk off cap at0 bad c w) := by
  have ht : ts[at0]? = some ts[at0] := List.getElem?_eq_getElem hlt
  have hok := h.ok _ (List.getElem_mem hlt)
  refine (ref9_must' ts b blk off cap at0 bad _ ht c hc0 hc1 w h).mono ?_
  rintro e w' ⟨rfl, hp, hg⟩
  refine ⟨_, _, _, rfl, ?_, must_out bad c h.ends ht, hp, hg⟩
  split
  · rename_i hx
    simp only [Bool.and_eq_true, Bool.not_eq_true', beq_iff_eq] at hx
    exact ⟨hok.2.1.1, hok.2.1.2, fun hc => hok.2.2.2.1 (by omega)⟩
  · exact ⟨by omega, by omega, fun _ => by omega⟩

theorem sign_out {ts : List Tok} {at0 : Nat} (bad : Bool) (c : Int) {t : Tok} (he : endsT ts) (ht : ts[at0]? = some t) (r : Bool) (hr : (!bad && ((t.kind == 5) && (t.n == c))) = r) :
    Out9 ts at0 bad (pSign c (ts.drop at0)) () (if r = true then at0 + 1 else at0) (if r = true then bad else true) := by
  have hi := (List.getElem?_eq_some_iff.1 ht).1
  have hs : isS c (ts.drop at0) = ((t.kind == 5) && (t.n == c)) := by rw [drop_at ht]; rfl
  unfold pSign
  rw [hs]
  cases bad
  · simp only [Bool.not_false, Bool.true_and] at hr
    rw [hr]
    cases r
    · exact Out9.stop hi ()
    · have hk : t.kind = 5 := by simp only [Bool.and_eq_true, beq_iff_eq] at hr; exact hr.1
      exact Out9.goes (he.next ht (by omega)) ()
  · simp only [Bool.not_true, Bool.false_and] at hr
    subst hr
    exact Out9.never hi _ _
/-- what a function that tells nothing leaves -/
def R9u (ts : List Tok) (b blk off cap at0 : Nat) (bad : Bool) (r : Res Unit) (w : World) (e : Ending) (w' : World) : Prop :=
  ∃ (at1 : Nat) (bad1 : Bool), e = .returned (.tuple #[]) ∧ Out9 ts at0 bad r () at1 bad1 ∧ P9 ts b blk off cap at1 bad1 w' ∧ w.grownBy w' (some b)
set_option maxRecDepth 100000 in
set_option maxHeartbeats 1000000 in
theorem ref9_sign (ts : List Tok) (b blk off cap at0 : Nat) (bad : Bool) (hlt : at0 < ts.length) (c : Int) (hc0 : 0 ≤ c) (hc1 : c ≤ 255) (w : World) (h : P9 ts b blk off cap at0 bad w) :
    Calls Tryd.prog 105 #[.pointer (some ⟨b, 0, none⟩), .int .u8 c] w (R9u ts b blk off cap at0 bad (pSign c (ts.drop at0)) w) := by
  have ht : ts[at0]? = some ts[at0] := List.getElem?_eq_getElem hlt
  have cm := ref9_may' ts b blk off cap at0 bad _ ht c hc0 hc1 w h
  have hso := sign_out bad c h.ends ht
  generalize (!bad && ((ts[at0].kind == 5) && (ts[at0].n == c))) = r at *
  replace hso := hso r rfl
  have HS := Lib.hid hso; clear hso
  have CM := Lib.hid cm; clear cm ht h
  cases r
  · go_enter Tryd.func105, Tryd.ntmps105
    go_wp2_with fail
    refine CM.out.mono ?_
    rintro e w1 ⟨rfl, hp, hg⟩
    have hp' : P9 ts b blk off cap at0 bad w1 := hp
    obtain ⟨⟨c0, c1, c2⟩, hf, hbl⟩ := hp'.cells
    have HP := Lib.hid hp'; clear hp hp' c0 c1
    have HG := Lib.hid hg; clear hg
    go_wp2_with fail
    go_end0
    exact ⟨_, _, rfl, HS.out, HP.out.setBad true, HG.out.trans (Lib.grownBy_setCell _ _ _ _)⟩
  · go_enter Tryd.func105, Tryd.ntmps105
    go_wp2_with fail
    refine CM.out.mono ?_
    rintro e w1 ⟨rfl, hp, hg⟩
    have hp' : P9 ts b blk off cap (at0 + 1) bad w1 := hp
    have HP := Lib.hid hp'; clear hp hp'
    have HG := Lib.hid hg; clear hg
    go_wp2_with fail
    go_end0
    exact ⟨_, _, rfl, HS.out, HP.out, HG.out⟩

theorem pMore_eq (l : List Tok) : pMore l = thenR (pMay 43 l) fun x l1 => if x = true then pTake 1 l1 else thenR (pMay 45 l1) fun y l2 => if y = true then thenR (pTake 1 l2) fun n l3 => .ok (-n, l3) else .ok (0, l2) := by
  unfold pMore pMay pNum
  cases h1 : isS 43 l
  · simp only [thenR, if_neg (show ¬ (false = true) by simp)]
    cases h2 : isS 45 l <;> simp
  · simp only [thenR, if_true]
    cases pTake 1 l.tail with
    | error a => rfl
    | ok x => simp
theorem Out9.step {α β : Type} {ts : List Tok} {at0 at1 : Nat} {bad bad1 : Bool} {r : Res α} {x : α} (h : Out9 ts at0 bad r x at1 bad1) (f : α → β) : Out9 ts at0 bad (thenR r fun v l => .ok (f v, l)) (f x) at1 bad1 :=
  h.seq (f := fun v l => .ok (f v, l)) (Out9.stay h.lt (f x))
set_option maxRecDepth 100000 in
set_option maxHeartbeats 1000000 in
theorem ref9_more (ts : List Tok) (b blk off cap at0 : Nat) (bad : Bool) (hlt : at0 < ts.length) (w : World) (h : P9 ts b blk off cap at0 bad w) :
    Calls Tryd.prog 157 #[.pointer (some ⟨b, 0, none⟩)] w (R9 ts b blk off cap at0 bad (pMore (ts.drop at0)) w (Value.int .i64)) := by
  have cm := ref9_may ts b blk off cap at0 bad hlt 43 (by omega) (by omega) w h
  have CM := Lib.hid cm; clear cm h
  go_enter Tryd.func157, Tryd.ntmps157
  go_wp2_with fail
  refine CM.out.mono ?_
  rintro e w1 ⟨x, at1, bad1, rfl, o1, p1, g1⟩
  have O1 := Lib.hid o1
  have P1 := Lib.hid p1
  have G1 := Lib.hid g1
  have l1 := o1.lt
  clear o1 p1 g1
  cases x
  · have cm2 := ref9_may ts b blk off cap at1 bad1 l1 45 (by omega) (by omega) w1 P1.out
    have CM2 := Lib.hid cm2; clear cm2
    go_wp2_with fail
    refine CM2.out.mono ?_
    rintro e w2 ⟨y, at2, bad2, rfl, o2, p2, g2⟩
    have O2 := Lib.hid o2
    have P2 := Lib.hid p2
    have G2 := Lib.hid (G1.out.trans g2)
    have l2 := o2.lt
    clear o2 p2 g2
    cases y
    · go_wp2_with fail
      go_ret
      refine ⟨0, at2, bad2, rfl, ?_, P2.out, G2.out⟩
      rw [pMore_eq]
      refine O1.out.seq ?_
      simp only [Bool.false_eq_true, if_false]
      refine O2.out.seq ?_
      simp only [Bool.false_eq_true, if_false]
      exact Out9.stay l2 0
    · have cm3 := ref9_mustn ts b blk off cap at2 bad2 l2 1 (by omega) (by omega) w2 P2.out
      have CM3 := Lib.hid cm3; clear cm3
      go_wp2_with fail
      refine CM3.out.mono ?_
      rintro e w3 ⟨z, at3, bad3, rfl, ⟨hz0, hz1, _⟩, o3, p3, g3⟩
      have O3 := Lib.hid o3
      have P3 := Lib.hid p3
      have G3 := Lib.hid (G2.out.trans g3)
      clear o3 p3 g3
      go_wp2_with fail
      go_ret
      refine ⟨-z, at3, bad3, rfl, ?_, P3.out, G3.out⟩
      rw [pMore_eq]
      refine O1.out.seq ?_
      simp only [Bool.false_eq_true, if_false]
      refine O2.out.seq ?_
      simp only [if_true]
      exact O3.out.step (fun n => -n)
  · have cm3 := ref9_mustn ts b blk off cap at1 bad1 l1 1 (by omega) (by omega) w1 P1.out
    have CM3 := Lib.hid cm3; clear cm3
    go_wp2_with fail
    refine CM3.out.mono ?_
    rintro e w3 ⟨z, at3, bad3, rfl, _, o3, p3, g3⟩
    have O3 := Lib.hid o3
    have P3 := Lib.hid p3
    have G3 := Lib.hid (G1.out.trans g3)
    clear o3 p3 g3
    go_wp2_with fail
    go_ret
    refine ⟨z, at3, bad3, rfl, ?_, P3.out, G3.out⟩
    rw [pMore_eq]
    refine O1.out.seq ?_
    simp only [if_true]
    exact O3.out
set_option maxRecDepth 100000 in
set_option maxHeartbeats 1000000 in
theorem ref9_kind (n : Int) (w : World) : Calls Tryd.prog 156 #[.int .i64 n] w fun e w' => e = .returned (.int .u8 (kindOf n)) ∧ w = w' := by
  by_cases h : n = 19 ∨ n = 23 ∨ n = 24 ∨ n = 13 ∨ n = 3 ∨ n = 2
  · rcases h with rfl | rfl | rfl | rfl | rfl | rfl
    all_goals
      go_enter Tryd.func156, Tryd.ntmps156
      go_wp2_with fail
      go_ret
      exact ⟨rfl, rfl⟩
  · have hk : kindOf n = 0 := by
      unfold kindOf
      rw [if_neg (by omega), if_neg (by omega), if_neg (by omega), if_neg (by omega), if_neg (by omega), if_neg (by omega)]
    rw [hk]
    have g1 : (n == 19) = false := by simp only [beq_eq_false_iff_ne]; omega
    have g2 : (n == 23) = false := by simp only [beq_eq_false_iff_ne]; omega
    have g3 : (n == 24) = false := by simp only [beq_eq_false_iff_ne]; omega
    have g4 : (n == 13) = false := by simp only [beq_eq_false_iff_ne]; omega
    have g5 : (n == 3) = false := by simp only [beq_eq_false_iff_ne]; omega
    have g6 : (n == 2) = false := by simp only [beq_eq_false_iff_ne]; omega
    clear h hk
    go_enter Tryd.func156, Tryd.ntmps156
    go_wp2_with fail
    go_ret
    exact ⟨rfl, rfl⟩
theorem kindOf_bd (n : Int) : 0 ≤ kindOf n ∧ kindOf n < 7 := by
  unfold kindOf
  repeat' split
  all_goals omega
end Go.Proofs.YtafgincpoahefaaDoor
