/-
  stragglelaw09.ParseMore: true of any text, any kind, whether strict, negative.
-/
import Derived.Test.YtafgincpoahefaaDoorParL3
import Derived.Test.YtafgincpoahefaaDoorPlE
import Derived.Test.YtafgincpoahefaaDoorOwn8
import Derived.Deep.DrawnRows
namespace Go.Proofs.YtafgincpoahefaaDoor
open Go.RowKit
attribute [local go_sem] Oper.semAt_some
attribute [local go_sem ↓] Go.wp_at_zero Go.wp_at_succ

theorem parMore_wakes (s : ByteArray) (kind : Int) (strict neg : Bool) (h : 1000 < s.size ∨ kind < 0 ∨ 9 < kind) (w : World) (hG : GL w) :
    Calls Tryd.prog 20 #[.string s, .int .i64 kind, .bool strict, .bool neg] w fun e w' => e = .returned (.bool true) ∧ Below w.heap.size w w' := by
  have cW := wakes09 w hG
  have CW := Lib.hid cW
  clear cW hG
  by_cases h1 : 1000 < s.size
  · clear h
    go_enter Tryd.func20, Tryd.ntmps20
    go_wp2_with fail
    refine CW.out.mono ?_
    rintro e w9 ⟨rfl, hb9⟩
    go_wp2_with fail
    go_ret
    exact ⟨rfl, hb9⟩
  · by_cases h2 : kind < 0
    · clear h
      have h1 : s.size ≤ 1000 := by omega
      go_enter Tryd.func20, Tryd.ntmps20
      go_wp2_with fail
      refine CW.out.mono ?_
      rintro e w9 ⟨rfl, hb9⟩
      go_wp2_with fail
      go_ret
      exact ⟨rfl, hb9⟩
    · have h3 : 9 < kind := by omega
      have h1 : s.size ≤ 1000 := by omega
      have h2 : 0 ≤ kind := by omega
      clear h
      go_enter Tryd.func20, Tryd.ntmps20
      go_wp2_with fail
      refine CW.out.mono ?_
      rintro e w9 ⟨rfl, hb9⟩
      go_wp2_with fail
      go_ret
      exact ⟨rfl, hb9⟩
set_option maxRecDepth 100000 in
set_option maxHeartbeats 4000000 in
/-- a text that is no pattern's, or has too many steps -/
theorem parMore_not (s : ByteArray) (kind : Int) (hk0 : 0 ≤ kind) (hk9 : kind ≤ 9) (strict neg : Bool) (hs : s.size ≤ 1000) (P : Pt) (A E : Int) (h1 : parseOf s.data.toList = (P, A, E)) (ts : List Tok) (p c : Int) (ha : allOf s.data.toList = (ts, p, c))
    (N : Nat) (hN : P.steps.length = N) (h : E ≠ 0 ∨ 26 ≤ N) (w : World) (hG : GL w) :
    Calls Tryd.prog 20 #[.string s, .int .i64 kind, .bool strict, .bool neg] w fun e w' => e = .returned (.bool true) ∧ Below w.heap.size w w' := by
  have cP := parse_open s (by omega) P A E h1 w hG
  have cA := fun w => ref9_All s (by omega) ts p c ts.length rfl ha w
  have cW := fun W (hb : Below w.heap.size w W) => wakes09 W (hG.mono hb)
  rw [hN] at cP
  have CP := Lib.hid cP
  have CA := Lib.hid cA
  have CW := Lib.hid cW
  clear cP cA cW hG h1 ha hN
  by_cases hE : E = 0
  · subst hE
    have h26 : 26 ≤ N := by omega
    clear h
    go_enter Tryd.func20, Tryd.ntmps20
    go_wp2_with fail
    refine CP.out.mono ?_
    rintro e w1 ⟨a1, c1, rfl, -, hb1⟩
    have z1 := Holds.fresh w1 24 #[.slice a1 N c1, .int .i64 P.window]
    have hB1 := hb1.alloc hb1.size (.cells #[.slice a1 N c1, .int .i64 P.window] 24)
    have Z1 := Lib.hid z1
    have HB1 := Lib.hid hB1
    clear z1 hb1 hB1 CP
    go_wp2_with fail
    generalize w1.alloc (.cells #[.slice a1 N c1, .int .i64 P.window] 24) = W1 at *
    generalize w1.heap.size = z at *
    refine (CA.out _).mono ?_
    rintro e w2 ⟨a, cap, rfl, hcap, ht, hb2⟩
    have y0 : w2.cell? ⟨z, 0, none⟩ = some (.slice a1 N c1) := (Z1.out.later hb2).cell 0
    have HB2 := Lib.hid (HB1.out.trans (hb2.mono HB1.out.size))
    clear ht hb2 HB1 Z1 CA
    go_wp2_with fail
    refine (CW.out _ HB2.out).mono ?_
    rintro e w3 ⟨rfl, hb3⟩
    go_wp2_with fail
    go_ret
    exact ⟨rfl, HB2.out.trans (hb3.mono HB2.out.size)⟩
  · have e1 : (E != 0) = true := by simpa using hE
    clear h hE
    go_enter Tryd.func20, Tryd.ntmps20
    go_wp2_with fail
    refine CP.out.mono ?_
    rintro e w1 ⟨a1, c1, rfl, -, hb1⟩
    have hB1 := hb1.alloc hb1.size (.cells #[.slice a1 N c1, .int .i64 P.window] 24)
    have HB1 := Lib.hid hB1
    clear hb1 hB1 CP
    go_wp2_with fail
    generalize w1.alloc (.cells #[.slice a1 N c1, .int .i64 P.window] 24) = W1 at *
    generalize w1.heap.size = z at *
    refine (CA.out _).mono ?_
    rintro e w2 ⟨a, cap, rfl, hcap, ht, hb2⟩
    have HB2 := Lib.hid (HB1.out.trans (hb2.mono HB1.out.size))
    clear ht hb2 HB1 CA
    go_wp2_with fail
    refine (CW.out _ HB2.out).mono ?_
    rintro e w3 ⟨rfl, hb3⟩
    go_wp2_with fail
    go_ret
    exact ⟨rfl, HB2.out.trans (hb3.mono HB2.out.size)⟩
theorem run_two (W : World) (b : Nat) (x y : Int) (h0 : W.cell? ⟨b, 0, none⟩ = some (.int .u8 x)) (h1 : W.cell? ⟨b, 1, none⟩ = some (.int .u8 y)) :
    (convert 57 9 (.slice (some ⟨b, 0, none⟩) 2 2)).run Tryd.prog W = .ok (.string ⟨#[UInt8.ofNat x.toNat, UInt8.ofNat y.toNat]⟩) W := by
  rw [run_convert_bytes_string W 57 9 5 _ _ _ Tryd.underlying57 Tryd.underlying5 Tryd.underlying9, run_bytesToString W ⟨b, 0, none⟩ 2 2 [x, y]]
  · rfl
  · have := run_loadCells_list (P := Tryd.prog) W ⟨b, 0, none⟩ ([x, y].map (Value.int .u8)) (fun j v hj => by
      match j, hj with
      | 0, hj => simp at hj; subst hj; exact h0
      | 1, hj => simp at hj; subst hj; exact h1)
    exact this
theorem more_text (s : ByteArray) (c kind N : Nat) (strict neg : Bool) (sp mk : ByteArray) (h1 : sp.data.toList = if strict = true then [44] else [59]) (h2 : mk.data.toList = if neg = true then [33] else []) (b1 b2 : UInt8) (h3 : b1 = UInt8.ofNat (48 + kind)) (h4 : b2 = UInt8.ofNat (97 + N)) :
    (s.extract 0 c ++ sp ++ mk ++ ⟨#[b1, b2]⟩ ++ ⟨#[32]⟩ ++ s.extract c s.size).data.toList = s.data.toList.take c ++ (moreB strict neg kind N ++ s.data.toList.drop c) := by
  unfold moreB
  rw [← h1, ← h2, ← h3, ← h4]
  simp [ByteArray.data_append]
  exact List.take_of_length_le (by simp)
theorem more_size (s : ByteArray) (c : Nat) (hs : s.size ≤ 1000) (a b d e : ByteArray) (ha : a.size ≤ 10) (hb : b.size ≤ 10) (hd : d.size ≤ 10) (he : e.size ≤ 10) : (s.extract 0 c ++ a ++ b ++ d ++ e ++ s.extract c s.size).size ≤ 140737488351232 := by
  simp only [ByteArray.size_append, ByteArray.size_extract]
  omega
end Go.Proofs.YtafgincpoahefaaDoor
