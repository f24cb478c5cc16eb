/-
  straggleref07: All.
-/
import Derived.Test.YtafgincpoahefaaDoorRef7n
namespace Go.Proofs.YtafgincpoahefaaDoor
open Go.RowKit

theorem row_below {w w' : World} {base : Nat} {e : TypeId} {size : Nat} {v : Value} {n : Nat} {xs : List Value} (h : w.ownsRow base e size v n xs) (hb : Below w.heap.size w w') : w'.ownsRow base e size v n xs :=
  h.kept (grown_of_below hb) (by cases v.ownBlock <;> simp)

theorem refAll_long (s : ByteArray) (hs : s.size ≤ 140737488351232) (h : 2000 < s.size) (w : World) : Calls Tryd.prog 38 #[.string s] w (AllPost s.data.toList w) := by
  have ha : allOf s.data.toList = ([], 2000, 91) := by unfold allOf; rw [if_pos (by simpa using h)]
  have HA := Lib.hid ha; clear ha
  go_enter Tryd.func38, Tryd.ntmps38
  go_wp2_with fail
  go_ret3
  exact allPost_of HA.out rfl (World.ownsRow_nil _ _ _ _) (Below.refl _ _)

theorem next_at (s : ByteArray) (hs : s.size ≤ 140737488351232) (a : Nat) (ha : a < s.size) (k n : Int) (m : Nat) (ht : tokOf (s.data.toList.drop a) = (k, n, m)) (w : World) : Calls Tryd.prog 78 #[.string s, .int .i64 a] w fun e w' =>
    e = .returned (.tuple #[.agg #[.int .u8 k, .int .i64 n, .int .i64 (if m = 0 then 0 else (a : Int))], .int .i64 m]) ∧ Below w.heap.size w w' := by
  have := ref_next s hs a ha w
  unfold NextPost at this
  rw [ht] at this
  exact this

set_option maxRecDepth 100000 in
set_option maxHeartbeats 1000000 in
theorem refAll_short (s : ByteArray) (h : s.size ≤ 2000) (w : World) : Calls Tryd.prog 38 #[.string s] w (AllPost s.data.toList w) := by
  obtain ⟨i0, hi, hz0, hz1, hz2⟩ := info_parts (by kernel_rfl : (Tryd.prog.info? 51).map (fun i => (i.zero, i.size, i.bytes)) = some (some (.agg #[.int .u8 0, .int .i64 0, .int .i64 0]), 3, 24))
  have hl : s.data.toList.length = s.size := by simp
  have HL := Lib.hid hl; clear hl
  go_enter Tryd.func38, Tryd.ntmps38
  go_wp2_with fail
  go_loopw [5, 6] (fun v i wr => ∃ (a : Nat) (ts : List Tok), i = .int .i64 a ∧ Hid (RInv s.data.toList a ts) ∧ a ≤ s.size ∧ ts.length ≤ a ∧ wr.ownsRow w.heap.size 51 3 v ts.length (tokCells ts) ∧ Below w.heap.size w wr) (fun _ i _ => s.size + 1 - (intOf i).toNat)
  case atStart => exact ⟨0, [], rfl, Lib.hid (rinv_start _), Nat.zero_le _, Nat.le_refl _, World.ownsRow_nil _ _ _ _, Below.refl _ _⟩
  case round =>
    obtain ⟨a, ts, rfl, HR, ha, hta, hr, hb⟩ := hrel
    by_cases hlt : a < s.size
    · have hla : a < s.data.toList.length := by rw [HL.out]; exact hlt
      have hba := bytes_at s a hlt
      by_cases h32 : s[a] = 32
      · have h32' : ((s[a].toNat : Int) == 32) = true := by rw [h32]; rfl
        have hr2 := HR.out.blank hla (by rw [hba, h32])
        have HR2 := Lib.hid hr2; clear hr2 h32 hba
        go_wp2_with fail
        go_roundw
        case rel => exact ⟨a + 1, ts, by go_num, HR2, by omega, by omega, hr, hb⟩
        case measure => simp [intOf]; omega
      · have h32' : ((s[a].toNat : Int) == 32) = false := by
          simp only [beq_eq_false_iff_ne]
          intro e
          exact h32 (UInt8.toNat_inj.1 (by rw [show (32 : UInt8).toNat = 32 from rfl]; omega))
        have hbl : blB s.data.toList[a] = false := by
          rw [hba]
          simp only [blB, decide_eq_false_iff_not]
          intro e
          exact h32 (UInt8.toNat_inj.1 e)
        obtain ⟨k, n, m, ht⟩ : ∃ k n m, tokOf (s.data.toList.drop a) = (k, n, m) := ⟨_, _, _, rfl⟩
        have hle := tokOf_le (s.data.toList.drop a)
        rw [ht, List.length_drop, HL.out] at hle
        have c1 := fun w => next_at s (by omega) a hlt k n m ht w
        have C1 := Lib.hid c1; clear c1
        by_cases hm : m = 0
        · subst hm
          have hall := HR.out.bad (by rw [HL.out]; exact h) hla hbl (by rw [ht])
          have HA := Lib.hid hall; clear hall ht hbl hba h32 hle
          go_wp2_with fail
          refine (C1.out _).mono ?_
          rintro e w1 ⟨rfl, hb1⟩
          go_wp2_with fail
          go_ret3
          exact allPost_of HA.out rfl (World.ownsRow_nil _ _ _ _) ((hb.trans (hb1.mono hb.size)).alloc (hb.trans (hb1.mono hb.size)).size _)
        · have hr2 := HR.out.tok hla hbl ht hm
          have HR2 := Lib.hid hr2
          have htc := tokCells_snoc ts ⟨k, n, a⟩
          have HT := Lib.hid htc
          rw [if_neg hm] at C1
          have hmz : ((m : Int) == 0) = false := by simp only [beq_eq_false_iff_ne]; omega
          have hm1 : 1 ≤ m := by omega
          clear hm hr2 ht hbl hba h32 htc
          go_wp2_with fail
          refine (C1.out _).mono ?_
          rintro e w1 ⟨rfl, hb1⟩
          have hr1 := row_below hr hb1
          have hB1 := hb.trans (hb1.mono hb.size)
          have hn0 : w.heap.size ≤ ((w1.alloc (.cells #[.int .u8 k, .int .i64 n, .int .i64 a] 51)).alloc (.cells #[.int .u8 k, .int .i64 n, .int .i64 a] 51)).heap.size := by have := hB1.size; simp; omega
          go_wp2_with (at_builtin; refine wpList_append_own _ rfl (.tmp 31) (.tmp 33) 46 rfl w.heap.size 51 i0 (.agg #[.int .u8 0, .int .i64 0, .int .i64 0]) 3 24 Tryd.underlying46 hi hz0 hz1 hz2 rfl (by decide) u5 ts.length (tokCells ts) rfl ((hr1.alloc _).alloc _) ⟨w1.heap.size + 1, 0, none⟩ 1 1 [.int .u8 k, .int .i64 n, .int .i64 a] rfl rfl ?c1 ?c2 ?c3 ?c4 hn0 ?_)
          case c1 =>
            have := new_cells (w1.alloc (.cells #[.int .u8 k, .int .i64 n, .int .i64 a] 51)) [.int .u8 k, .int .i64 n, .int .i64 a] 51
            rw [World.size_alloc] at this
            exact this
          case c2 =>
            intro u hu
            simp only [List.mem_cons, List.not_mem_nil, or_false] at hu
            rcases hu with rfl | rfl | rfl <;> rfl
          case c3 => unfold maxLen; omega
          case c4 => omega
          intro v' w2 hown' hgrow _
          have hB2 := (((hB1.alloc hB1.size (.cells #[.int .u8 k, .int .i64 n, .int .i64 a] 51)).alloc (by have := hB1.size; simp; omega) (.cells #[.int .u8 k, .int .i64 n, .int .i64 a] 51)).grown hgrow (by have := hB1.size; simp; omega) (fun r e => (hr1.lt r e).1))
          rw [← HT.out] at hown'
          have HO := Lib.hid hown'; clear hown' hgrow
          have HB := Lib.hid hB2; clear hB2
          go_wp2_with fail
          go_roundw
          case rel => exact ⟨a + m, ts ++ [⟨k, n, a⟩], by go_num, HR2, by omega, by simp; omega, by simpa using HO.out, HB.out⟩
          case measure => simp [intOf]; omega
    · obtain rfl : a = s.size := by omega
      have hall := HR.out.done (by rw [HL.out]; exact h) HL.out.symm
      rw [HL.out] at hall
      have HA := Lib.hid hall; clear hall
      have htc := tokCells_snoc ts ⟨0, 0, s.size⟩
      have HT := Lib.hid htc; clear htc
      have hn0 : w.heap.size ≤ (wr.alloc (.cells #[.int .u8 0, .int .i64 0, .int .i64 s.size] 51)).heap.size := by have := hb.size; simp; omega
      go_wp2_with (at_builtin; refine wpList_append_own _ rfl (.tmp 38) (.tmp 42) 46 rfl w.heap.size 51 i0 (.agg #[.int .u8 0, .int .i64 0, .int .i64 0]) 3 24 Tryd.underlying46 hi hz0 hz1 hz2 rfl (by decide) u5 ts.length (tokCells ts) rfl (hr.alloc _) ⟨wr.heap.size, 0, none⟩ 1 1 [.int .u8 0, .int .i64 0, .int .i64 s.size] rfl rfl ?d1 ?d2 ?d3 ?d4 hn0 ?_)
      case d2 => exact ⟨rfl, rfl, rfl⟩
      case d3 => unfold maxLen; omega
      case d4 => omega
      intro v' w2 hown' hgrow _
      have hB2 := ((hb.alloc hb.size (.cells #[.int .u8 0, .int .i64 0, .int .i64 s.size] 51)).grown hgrow (by have := hb.size; simp; omega) (fun r e => (hr.lt r e).1))
      rw [← HT.out] at hown'
      have HO := Lib.hid hown'; clear hown' hgrow
      have HB := Lib.hid hB2; clear hB2
      go_wp2_with fail
      go_ret3
      exact allPost_of HA.out rfl (by simpa using HO.out) HB.out

theorem ref7_All (s : ByteArray) (hs : s.size ≤ 140737488351232) (w : World) : Calls Tryd.prog 38 #[.string s] w (AllPost s.data.toList w) := by
  by_cases h : s.size ≤ 2000
  · exact refAll_short s h w
  · exact refAll_long s hs (by omega) w
end Go.Proofs.YtafgincpoahefaaDoor
