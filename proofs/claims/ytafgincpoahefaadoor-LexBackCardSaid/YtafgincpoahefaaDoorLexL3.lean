/-
  stragglelaw07.LexParts: true of any text, any place.
-/
import Derived.Test.YtafgincpoahefaaDoorLexL2
import Derived.StillTailTactics
import Derived.Deep.RegionWith
import Derived.BigQuiet
import Derived.Deep.QuietTactic
namespace Go.Proofs.YtafgincpoahefaaDoor
open Go.RowKit

def Tok.shift (t : Tok) : Tok := ⟨t.kind, t.n, t.at' + 1⟩
/-- all tokens of a text that has such alone -/
def toksOf (l : List UInt8) : List Tok := (yields 0 l).map Y.t ++ [⟨0, 0, l.length⟩]
theorem toksOf_len (l : List UInt8) : (toksOf l).length = (yields 0 l).length + 1 := by simp [toksOf]
theorem all_good (l : List UInt8) (h : l.length ≤ 2000) (hg : good (yields 0 l)) : allOf l = (toksOf l, 0, 0) := by
  rcases all_cases l h with ⟨_, h1⟩ | ⟨h1, _⟩
  · exact h1
  · exact absurd hg h1
/-- with a blank where token k begins, or the text ends -/
theorem all_cut (l : List UInt8) (hl : l.length ≤ 300) (hg : good (yields 0 l)) (k c : Nat) (hk : k < (toksOf l).length) (hc : ((toksOf l).getD k ⟨0, 0, 0⟩).at' = (c : Int)) :
    allOf (l.take c ++ 32 :: l.drop c) = ((toksOf l).take k ++ ((toksOf l).drop k).map Tok.shift, 0, 0) := by
  have hlen : (l.take c ++ 32 :: l.drop c).length = l.length + 1 := by
    rw [List.length_append, List.length_cons, ← Nat.add_assoc, ← List.length_append, List.take_append_drop]
  rw [toksOf_len] at hk
  unfold toksOf at hc
  have hy := yields_cut _ 0 l (Nat.le_refl _) hg k c (by
    rw [show (((0 : Nat) : Int) + c) = c from by omega, ← hc]
    by_cases h : k < (yields 0 l).length
    · rw [List.getD_eq_getElem?_getD, List.getElem?_append_left (by simpa using h), List.getElem?_map]
      cases e : (yields 0 l)[k]? with
      | none => rw [List.getElem?_eq_getElem h] at e; cases e
      | some y => rfl
    · obtain rfl : k = (yields 0 l).length := by omega
      rw [List.getD_eq_getElem?_getD, List.getElem?_append_right (by simp), List.getElem?_eq_none (Nat.le_refl _)]
      simp) (by omega)
  have hgood : ∀ y ∈ (yields 0 l).take k ++ ((yields 0 l).drop k).map (·.shift 1), y.m ≠ 0 := by
    intro y hy'
    rcases List.mem_append.1 hy' with h | h
    · exact hg y (List.mem_of_mem_take h)
    · obtain ⟨z, hz, rfl⟩ := List.mem_map.1 h
      exact hg z (List.mem_of_mem_drop hz)
  unfold allOf toksOf
  rw [if_neg (by omega), hy, List.find?_eq_none.2 (fun y hy' => by have := hgood y hy'; simpa using this), hlen]
  rw [List.take_append_of_le_length (by simp; omega), List.drop_append_of_le_length (by simp; omega)]
  simp only [List.map_append, List.map_take, List.map_drop, List.map_map, List.append_assoc]
  rfl

theorem ToksAt.at_ {w : World} {a : Option Addr} {ts : List Tok} (h : ToksAt w a ts) (i : Nat) (t : Tok) (ht : ts[i]? = some t) : ∃ b off, a = some ⟨b, off, none⟩ ∧
    w.cell? ⟨b, off + i * 3, none⟩ = some (.int .u8 t.kind) ∧ w.cell? ⟨b, off + i * 3 + 1, none⟩ = some (.int .i64 t.n) ∧ w.cell? ⟨b, off + i * 3 + 2, none⟩ = some (.int .i64 t.at') := by
  obtain ⟨hi, rfl⟩ := List.getElem?_eq_some_iff.1 ht
  exact h.get i hi

set_option maxRecDepth 100000 in
set_option maxHeartbeats 4000000 in
theorem lexParts_ok (s : ByteArray) (at_ : Int) (ha : -9223372036854775808 ≤ at_ ∧ at_ ≤ 9223372036854775807) (hs : s.size ≤ 300) (ts us : List Tok) (n k c : Nat) (hn : ts.length = n) (hn1 : 1 ≤ n) (hn2 : n ≤ 301)
    (hall : allOf s.data.toList = (ts, 0, 0)) (hk : k < n) (hke : at_.tmod n % n = k) (kd m : Int) (hct : ts[k]? = some ⟨kd, m, c⟩) (hc : c ≤ s.size) (hus : us.length = n) (hcut : allOf (s.data.toList.take c ++ 32 :: s.data.toList.drop c) = (us, 0, 0)) (hrel0 : ∀ (i : Nat) (t : Tok), ts[i]? = some t → us[i]? = some (if i < k then t else t.shift) ∧ 0 ≤ t.at' ∧ t.at' ≤ 2000) (w : World) (hG : GL w)  :
    Calls Tryd.prog 14 #[.string s, .int .i64 at_] w fun e w' => e = .returned (.bool true) ∧ Below w.heap.size w w' := by
  have cA := fun w hG => lex_All_at s (by omega) ts 0 0 n hn hall w hG
  have CA := Lib.hid cA; clear cA hall
  have cB := fun w hG => lex_All_at (s.extract 0 c ++ ⟨#[32]⟩ ++ s.extract c s.size) (by rw [ByteArray.size_append, ByteArray.size_append, ByteArray.size_extract, ByteArray.size_extract]; show (min c s.size - 0) + 1 + (min s.size s.size - c) ≤ _; omega) us 0 0 n hus (by
    rw [← hcut]; congr 1
    simp [ByteArray.data_append]
    exact List.take_of_length_le (by simp)) w hG
  have CB := Lib.hid cB; clear cB hcut
  have HU := Lib.hid hus; clear hus
  have hm0 : -(n : Int) < at_.tmod n := by have := Int.lt_tmod_of_pos at_ (show (0 : Int) < n by omega); omega
  have hm1 : at_.tmod n < n := Int.tmod_lt_of_pos at_ (by omega)
  have hnz : ((n : Int) == 0) = false := by simp only [beq_eq_false_iff_ne]; omega
  obtain ⟨ha0, ha1⟩ := ha
  have hget : ∀ i, i < n → ∃ kd m a : Int, ts[i]? = some ⟨kd, m, a⟩ := fun i hi => by
    have : i < ts.length := by omega
    exact ⟨_, _, _, List.getElem?_eq_getElem this⟩
  have HGET := Lib.hid hget; clear hget
  have HREL := Lib.hid hrel0; clear hrel0
  go_enter Tryd.func14, Tryd.ntmps14
  go_wp2_with fail
  refine (CA.out _ hG).mono ?_
  rintro e w1 ⟨a, cap, rfl, hcap, ht, hb1⟩
  obtain ⟨b, off, rfl, x0, x1, x2⟩ := ht.at_ k _ hct
  have HN := Lib.hid hn; clear hn
  have HC := Lib.hid hct; clear hct
  go_wp2_with fail
  have hB := CB.out w1.drew (((hG.mono hb1)).mono ((Below.refl _ _).drew))
  have HB := Lib.hid hB; clear hB
  go_region_with (go_at_call 50; refine HB.out.mono ?_; rintro e w2 ⟨a2, cap2, rfl, hcap2, ht2, hb2⟩)
  go_wp2_with fail
  have hG2 : GL w2 := ((hG.mono hb1).mono ((Below.refl _ _).drew)).mono hb2
  have hbw := (hb1.drew).trans (hb2.mono hb1.size)
  have ht1 := ht.mono hb2 (Nat.le_refl _)
  clear x0 x1 x2 HB ht hke
  go_loopw [13] (fun i wr => ∃ j : Nat, j ≤ n ∧ i = .int .i64 j ∧ Below w2.heap.size w2 wr) (fun i _ => n - (intOf i).toNat)
  case atStart => exact ⟨0, Nat.zero_le _, rfl, Below.refl _ _⟩
  case round =>
    obtain ⟨j, hj, rfl, hbr⟩ := hrel
    by_cases hlt : j < n
    · obtain ⟨kd', m', a', ht'⟩ := HGET.out j hlt
      obtain ⟨hu', q0, q1⟩ := HREL.out j _ ht'
      obtain ⟨b1, o1, e1, x0, x1, x2⟩ := (ht1.mono hbr (Nat.le_refl _)).at_ j _ ht'
      obtain ⟨rfl, rfl⟩ : b1 = b ∧ o1 = off := by simpa using e1.symm
      by_cases hjk : j < k
      · rw [if_pos hjk] at hu'
        obtain ⟨b2, o2, rfl, y0, y1, y2⟩ := (ht2.mono hbr (Nat.le_refl _)).at_ j _ hu'
        have hjk' : decide ((k : Int) ≤ (j : Int)) = false := by simp; omega
        have hl1 := cell_lt y0
        clear ht' hu' e1 q0 q1
        go_wp2_with fail
        go_quiet (fail)
        go_wp2_with fail
        go_roundw
        case rel => exact ⟨j + 1, by omega, by go_num, (hbr.alloc hbr.size _).trans (below_drewN _ _ _)⟩
        case measure => simp [intOf]; omega
      · rw [if_neg hjk] at hu'
        obtain ⟨b2, o2, rfl, y0, y1, y2⟩ := (ht2.mono hbr (Nat.le_refl _)).at_ j _ hu'
        unfold Tok.shift at y0 y1 y2
        simp only at y0 y1 y2
        have hjk' : decide ((k : Int) ≤ (j : Int)) = true := by simp; omega
        have hl1 := cell_lt y0
        simp only at q0 q1
        clear ht' hu' e1
        go_wp2_with fail
        go_quiet (fail)
        go_wp2_with fail
        go_roundw
        case rel => exact ⟨j + 1, by omega, by go_num, (hbr.alloc hbr.size _).trans (below_drewN _ _ _)⟩
        case measure => simp [intOf]; omega
    · obtain rfl : j = n := by omega
      go_wp2_with fail
      refine (wakes07 _ (hG2.mono hbr)).mono ?_
      rintro e w9 ⟨rfl, hb9⟩
      go_wp2_with fail
      go_ret
      have hbz := hbw.trans (hbr.mono hbw.size)
      exact ⟨rfl, hbz.trans (hb9.mono hbz.size)⟩

theorem lexParts_long (s : ByteArray) (at_ : Int) (hs : 300 < s.size) (w : World) (hG : GL w) :
    Calls Tryd.prog 14 #[.string s, .int .i64 at_] w fun e w' => e = .returned (.bool true) ∧ Below w.heap.size w w' := by
  have hs' : (s.size : Int) ≤ 140737488351232 ∨ True := .inr trivial
  clear hs'
  go_enter Tryd.func14, Tryd.ntmps14
  go_wp2_with fail
  refine (wakes07 _ hG).mono ?_
  rintro e w9 ⟨rfl, hb9⟩
  go_wp2_with fail
  go_ret
  exact ⟨rfl, hb9⟩
theorem lexParts_err (s : ByteArray) (at_ : Int) (hs : s.size ≤ 300) (p : Int) (ha : allOf s.data.toList = ([], p, 70)) (w : World) (hG : GL w) :
    Calls Tryd.prog 14 #[.string s, .int .i64 at_] w fun e w' => e = .returned (.bool true) ∧ Below w.heap.size w w' := by
  have cA := fun w hG => all_err s hs p ha w hG
  have CA := Lib.hid cA; clear cA ha
  go_enter Tryd.func14, Tryd.ntmps14
  go_wp2_with fail
  refine (CA.out _ hG).mono ?_
  rintro e w1 ⟨a, cap, rfl, hb⟩
  go_wp2_with fail
  refine (wakes07 _ (hG.mono' hb (Nat.le_refl _))).mono ?_
  rintro e w9 ⟨rfl, hb9⟩
  go_wp2_with fail
  go_ret
  exact ⟨rfl, hb.trans (hb9.mono hb.size)⟩

theorem toksOf_range (l : List UInt8) : ∀ t ∈ toksOf l, 0 ≤ t.at' ∧ t.at' ≤ l.length := by
  intro t ht
  unfold toksOf at ht
  rcases List.mem_append.1 ht with h | h
  · obtain ⟨y, hy, rfl⟩ := List.mem_map.1 h
    have := yields_range _ 0 l (Nat.le_refl _) y hy
    omega
  · obtain rfl := List.mem_singleton.1 h
    simp only; omega

theorem lexParts_walk (s : ByteArray) (at_ : Int) (w : World) (_hs0 : s.size ≤ 140737488351232) (ha : -9223372036854775808 ≤ at_ ∧ at_ ≤ 9223372036854775807) (hG : GL w) :
    Calls Tryd.prog 14 #[.string s, .int .i64 at_] w fun e w' => e = .returned (.bool true) ∧ Below w.heap.size w w' := by
  by_cases hs : 300 < s.size
  · exact lexParts_long s at_ hs w hG
  have hs : s.size ≤ 300 := by omega
  have hl : s.data.toList.length = s.size := by simp
  rcases all_cases s.data.toList (by omega) with ⟨hg, _⟩ | ⟨_, p, hp⟩
  · have hall := all_good s.data.toList (by omega) hg
    have hlen := toksOf_len s.data.toList
    have hyl := yields_len _ 0 s.data.toList (Nat.le_refl _)
    have hrange := toksOf_range s.data.toList
    obtain ⟨n, hn⟩ : ∃ n, (toksOf s.data.toList).length = n := ⟨_, rfl⟩
    have h0 : 0 ≤ at_.tmod n % n := Int.emod_nonneg _ (by omega)
    have h1 : at_.tmod n % n < n := Int.emod_lt_of_pos _ (by omega)
    obtain ⟨k, hk⟩ := Int.eq_ofNat_of_zero_le h0
    have hkn : k < (toksOf s.data.toList).length := by omega
    have ht : (toksOf s.data.toList)[k]? = some ((toksOf s.data.toList)[k]) := List.getElem?_eq_getElem hkn
    have hr := hrange _ (List.getElem_mem hkn)
    obtain ⟨c, hc⟩ := Int.eq_ofNat_of_zero_le hr.1
    refine lexParts_ok s at_ ha hs (toksOf s.data.toList) ((toksOf s.data.toList).take k ++ ((toksOf s.data.toList).drop k).map Tok.shift) n k c hn (by omega) (by omega) hall (by omega) hk
      (toksOf s.data.toList)[k].kind (toksOf s.data.toList)[k].n (by rw [ht, ← hc]) (by omega) (by simp; omega)
      (all_cut s.data.toList (by omega) hg k c hkn (by rw [List.getD_eq_getElem?_getD, ht]; exact hc)) (fun i t hi => ?_) w hG
    have hri := hrange t (List.mem_of_getElem? hi)
    refine ⟨?_, by omega, by omega⟩
    by_cases hik : i < k
    · rw [if_pos hik, List.getElem?_append_left (by simp; omega), List.getElem?_take, if_pos hik, hi]
    · rw [if_neg hik, List.getElem?_append_right (by simp; omega), List.getElem?_map, List.getElem?_drop, List.length_take, Nat.min_eq_left (by omega), show k + (i - k) = i from by omega, hi]
      rfl
  · exact lexParts_err s at_ hs p hp w hG
end Go.Proofs.YtafgincpoahefaaDoor
