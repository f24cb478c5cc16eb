/-
  stragglelaw07.LexTells: true of any text, any token.
-/
import Derived.Test.YtafgincpoahefaaDoorRef7t
namespace Go.Proofs.YtafgincpoahefaaDoor
open Go.RowKit

theorem ref7_All_at (s : ByteArray) (hs : s.size ≤ 140737488351232) (ts : List Tok) (p c : Int) (n : Nat) (hn : ts.length = n) (h : allOf s.data.toList = (ts, p, c)) (w : World) :
    Calls Tryd.prog 38 #[.string s] w fun e w' => ∃ a cap, e = .returned (.tuple #[.slice a n cap, .int .i64 p, .int .i64 c]) ∧ n ≤ cap ∧ ToksAt w' a ts ∧ Below w.heap.size w w' := by
  refine (ref7_All s hs w).mono ?_
  rintro e w' hp
  unfold AllPost at hp
  rw [h] at hp
  obtain ⟨v, rfl, hr, hb⟩ := hp
  obtain ⟨a, cap, rfl, hc, ht⟩ := toks_of_row hr rfl
  subst hn
  exact ⟨a, cap, rfl, hc, ht, hb⟩
theorem allOf_len (l : List UInt8) (h : l.length ≤ 3000) : (allOf l).1.length ≤ 3001 := by
  have := yields_len _ 0 l (Nat.le_refl _)
  unfold allOf
  split
  · simp
  · split
    · simp
    · simp; omega

set_option maxRecDepth 100000 in
set_option maxHeartbeats 2000000 in
theorem lexTells_walk (s : ByteArray) (k n x : Int) (w : World) (_hs0 : s.size ≤ 140737488351232) (hG : GL w) : Calls Tryd.prog 12 #[.string s, .agg #[.int .u8 k, .int .i64 n, .int .i64 x]] w fun e w' => e = .returned (.bool true) ∧ Below w.heap.size w w' := by
  by_cases h1 : 3000 < s.size
  · have cw := fun w hG => wakes07 w hG
    have CW := Lib.hid cw; clear cw
    go_enter Tryd.func12, Tryd.ntmps12
    go_wp2_with fail
    refine (CW.out _ (hG.alloc _)).mono ?_
    rintro e w1 ⟨rfl, hb1⟩
    go_wp2_with fail
    go_ret
    exact ⟨rfl, ((Below.refl _ _).alloc (Nat.le_refl _) _).trans (hb1.mono (by simp))⟩
  · obtain ⟨ts, p, c, hall⟩ : ∃ ts p c, allOf s.data.toList = (ts, p, c) := ⟨_, _, _, rfl⟩
    have hlen := allOf_len s.data.toList (by simp; omega)
    rw [hall] at hlen
    obtain ⟨m, hm⟩ : ∃ m, ts.length = m := ⟨_, rfl⟩
    simp only [hm] at hlen
    have ca := fun w hG => lex_All_at s (by omega) ts p c m hm hall w hG
    have cb := fun w => ref7_All_at s (by omega) ts p c m hm hall w
    have ct := fun a b c d w hs ht => ref_Tokens_at a b c d m ts ts hm hm true (by simp) (by omega) w hs ht
    have CA := Lib.hid ca; clear ca
    have CB := Lib.hid cb; clear cb
    have CT := Lib.hid ct; clear ct hall hm
    have Z0 := Lib.hid (Holds.fresh w 51 #[.int .u8 k, .int .i64 n, .int .i64 x])
    have HX := Lib.hid ((Below.refl w.heap.size w).alloc (Nat.le_refl _) (.cells #[.int .u8 k, .int .i64 n, .int .i64 x] 51))
    go_enter Tryd.func12, Tryd.ntmps12
    go_wp2_with fail
    refine (CA.out _ (hG.alloc _)).mono ?_
    rintro e w1 ⟨a1, c1, rfl, hc1, ht1, hb1⟩
    go_wp2_with fail
    refine (CB.out _).mono ?_
    rintro e w2 ⟨a2, c2, rfl, hc2, ht2, hb2⟩
    have hB := (HX.out.trans (hb1.mono HX.out.size))
    have hB2 := hB.trans (hb2.mono hB.size)
    have hz := (Z0.out.later hb1).later hb2
    have hlt8 := hz.size
    obtain ⟨z0, z1, z2⟩ := tok_cells hz
    have ht1' := ht1.mono hb2 (Nat.le_refl _)
    have hG2 := hG.mono hB2
    have ct : ∀ W, Below w2.heap.size w2 W → Calls Tryd.prog 51 #[.slice a1 m c1, .slice a2 m c2] W fun e w' => e = .returned (.bool true) ∧ Below w2.heap.size w2 w' := fun W hb =>
      (CT.out a1 a2 c1 c2 W (ht1'.mono hb (Nat.le_refl _)) (ht2.mono hb (Nat.le_refl _))).mono fun _ _ h => ⟨h.1, hb.trans (h.2.mono hb.size)⟩
    have cx : ∀ W, Below w2.heap.size w2 W → Calls Tryd.prog 52 #[.agg #[.int .u8 k, .int .i64 n, .int .i64 x]] W fun e w' => e = .returned (.string ⟨(textOf k n).toArray⟩) ∧ Below w2.heap.size w2 w' := fun W hb =>
      (lex_Text k n (.int .i64 x) W (hG2.mono hb)).mono fun _ _ h => ⟨h.1, hb.trans (h.2.mono hb.size)⟩
    have cy : ∀ W, Below w2.heap.size w2 W → Calls Tryd.prog 39 #[.agg #[.int .u8 k, .int .i64 n, .int .i64 x]] W fun e w' => e = .returned (.string ⟨(textOf k n).toArray⟩) ∧ Below w2.heap.size w2 w' := fun W hb =>
      (ref7_Text k n (.int .i64 x) W).mono fun _ _ h => ⟨h.1, hb.trans (h.2.mono hb.size)⟩
    have cw : ∀ W, Below w2.heap.size w2 W → Calls Tryd.prog 49 #[] W fun e w' => e = .returned (.bool true) ∧ Below w2.heap.size w2 w' := fun W hb =>
      (wakes07 W (hG2.mono hb)).mono fun _ _ h => ⟨h.1, hb.trans (h.2.mono hb.size)⟩
    generalize (⟨(textOf k n).toArray⟩ : ByteArray) = T at *
    have KT := Lib.hid ct; clear ct
    have KX := Lib.hid cx; clear cx
    have KY := Lib.hid cy; clear cy
    have KW := Lib.hid cw; clear cw
    have HB := Lib.hid hB2
    clear hz ht1 ht2 ht1' hG2 hG hB2 hB hb1 hb2 CA CB CT Z0 HX
    go_wp2_with fail
    go_region_held3 (fun w' => w'.cell? ⟨w.heap.size, 0, none⟩ = some (.int .u8 k) ∧ w'.cell? ⟨w.heap.size, 1, none⟩ = some (.int .i64 n) ∧ w'.cell? ⟨w.heap.size, 2, none⟩ = some (.int .i64 x) ∧ Below w2.heap.size w2 w')
      (first | exact ⟨z0, z1, z2, (Below.refl _ _).drew⟩ | exact ⟨((bcell hb1).1 _ _ hlt8).trans z0, ((bcell hb1).1 _ _ hlt8).trans z1, ((bcell hb1).1 _ _ hlt8).trans z2, hb1⟩)
      (first
        | (go_at_call 51; refine (KT.out _ (And.right (And.right (And.right (by assumption))))).mono ?_; rintro e w1 ⟨rfl, hb1⟩)
        | (go_at_call 52; refine (KX.out _ (And.right (And.right (And.right (by assumption))))).mono ?_; rintro e w1 ⟨rfl, hb1⟩)
        | (go_at_call 39; refine (KY.out _ (And.right (And.right (And.right (by assumption))))).mono ?_; rintro e w1 ⟨rfl, hb1⟩)
        | (go_at_call 49; refine (KW.out _ (And.right (And.right (And.right (by assumption))))).mono ?_; rintro e w1 ⟨rfl, hb1⟩))
    go_wp2_with fail
    go_ret
    exact ⟨rfl, HB.out.trans (hb1.mono HB.out.size)⟩
end Go.Proofs.YtafgincpoahefaaDoor
