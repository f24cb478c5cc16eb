/-
  Slices of tokens in memory; straggleref07.Tokens.
-/
import Derived.Test.YtafgincpoahefaaDoorLex5
import Derived.BigQuiet
import Derived.Deep.QuietTactic
namespace Go.Proofs.YtafgincpoahefaaDoor
open Go.RowKit

/-- a slice of tokens at a, that holds ts -/
def ToksAt (w : World) (a : Option Addr) (ts : List Tok) : Prop :=
  ts = [] ∨ ∃ b off, a = some ⟨b, off, none⟩ ∧ ∀ i (h : i < ts.length), w.cell? ⟨b, off + i * 3, none⟩ = some (.int .u8 ts[i].kind) ∧ w.cell? ⟨b, off + i * 3 + 1, none⟩ = some (.int .i64 ts[i].n) ∧ w.cell? ⟨b, off + i * 3 + 2, none⟩ = some (.int .i64 ts[i].at')
theorem ToksAt.mono {w w' : World} {B : Nat} {a : Option Addr} {ts : List Tok} (hb : Below B w w') (hB : w.heap.size ≤ B) (h : ToksAt w a ts) : ToksAt w' a ts := by
  rcases h with rfl | ⟨b, off, rfl, hc⟩
  · exact .inl rfl
  · exact .inr ⟨b, off, rfl, fun i hi => ⟨cell_mono hb hB (hc i hi).1, cell_mono hb hB (hc i hi).2.1, cell_mono hb hB (hc i hi).2.2⟩⟩
theorem ToksAt.get {w : World} {a : Option Addr} {ts : List Tok} (h : ToksAt w a ts) (i : Nat) (hi : i < ts.length) : ∃ b off, a = some ⟨b, off, none⟩ ∧
    w.cell? ⟨b, off + i * 3, none⟩ = some (.int .u8 ts[i].kind) ∧ w.cell? ⟨b, off + i * 3 + 1, none⟩ = some (.int .i64 ts[i].n) ∧ w.cell? ⟨b, off + i * 3 + 2, none⟩ = some (.int .i64 ts[i].at') := by
  rcases h with rfl | ⟨b, off, rfl, hc⟩
  · simp at hi
  · exact ⟨b, off, rfl, hc i hi⟩
theorem tokCells_get : ∀ (ts : List Tok) (i : Nat) (h : i < ts.length), (tokCells ts)[i * 3]? = some (.int .u8 ts[i].kind) ∧ (tokCells ts)[i * 3 + 1]? = some (.int .i64 ts[i].n) ∧ (tokCells ts)[i * 3 + 2]? = some (.int .i64 ts[i].at')
  | [], _, h => by simp at h
  | t :: ts, 0, _ => by simp [tokCells]
  | t :: ts, i + 1, h => by
    have := tokCells_get ts i (by simpa using h)
    have e : tokCells (t :: ts) = .int .u8 t.kind :: .int .i64 t.n :: .int .i64 t.at' :: tokCells ts := by simp [tokCells]
    rw [e, show (i + 1) * 3 = i * 3 + 1 + 1 + 1 from by omega]
    simpa using this
theorem toks_of_row {w : World} {n₀ k : Nat} {E : TypeId} {v : Value} {ts : List Tok} (h : w.ownsRow n₀ E 3 v k (tokCells ts)) (hk : ts.length = k) : ∃ a cap, v = .slice a ts.length cap ∧ ts.length ≤ cap ∧ ToksAt w a ts := by
  rcases h.2 with ⟨rfl, he⟩ | ⟨g, cap, cur, rfl, _, hg, hc, _⟩
  · have : k = 0 := by have := h.1; rw [he] at this; simp at this; omega
    subst this
    obtain rfl := List.eq_nil_of_length_eq_zero hk
    exact ⟨none, 0, rfl, Nat.le_refl _, .inl rfl⟩
  · refine ⟨some ⟨g, 0, none⟩, cap, by rw [hk], by omega, .inr ⟨g, 0, rfl, fun i hi => ?_⟩⟩
    obtain ⟨e1, e2, e3⟩ := tokCells_get ts i hi
    refine ⟨?_, ?_, ?_⟩
    · rw [Nat.zero_add, h.cellAt (i * 3) (by omega), e1]
    · rw [Nat.zero_add, h.cellAt (i * 3 + 1) (by omega), e2]
    · rw [Nat.zero_add, h.cellAt (i * 3 + 2) (by omega), e3]

theorem tok_ext {x y : Tok} (h0 : x.kind = y.kind) (h1 : x.n = y.n) (h2 : x.at' = y.at') : x = y := by
  cases x; cases y; simp_all

set_option maxRecDepth 100000 in
set_option maxHeartbeats 1000000 in
theorem ref_Tokens (a b : Option Addr) (c d : Nat) (s t : List Tok) (w : World) (hs : ToksAt w a s) (ht : ToksAt w b t) (hsl : s.length ≤ 140737488351232) (htl : t.length ≤ 140737488351232) :
    Calls Tryd.prog 51 #[.slice a s.length c, .slice b t.length d] w fun e w' => e = .returned (.bool (decide (s = t))) ∧ ∃ n, w' = w.drewN n := by
  by_cases hl : s.length = t.length
  · obtain ⟨m, hm⟩ : ∃ m, s.length = m := ⟨_, rfl⟩
    have hm' : t.length = m := by omega
    have key : ∀ k, k < m → ∃ b1 o1 b2 o2 x0 x1 x2 y0 y1 y2, a = some ⟨b1, o1, none⟩ ∧ b = some ⟨b2, o2, none⟩ ∧
        (w.cell? ⟨b1, o1 + k * 3, none⟩ = some (.int .u8 x0) ∧ w.cell? ⟨b1, o1 + k * 3 + 1, none⟩ = some (.int .i64 x1) ∧ w.cell? ⟨b1, o1 + k * 3 + 2, none⟩ = some (.int .i64 x2)) ∧
        (w.cell? ⟨b2, o2 + k * 3, none⟩ = some (.int .u8 y0) ∧ w.cell? ⟨b2, o2 + k * 3 + 1, none⟩ = some (.int .i64 y1) ∧ w.cell? ⟨b2, o2 + k * 3 + 2, none⟩ = some (.int .i64 y2)) ∧
        (s[k]? = some ⟨x0, x1, x2⟩ ∧ t[k]? = some ⟨y0, y1, y2⟩) := by
      intro k hk
      obtain ⟨b1, o1, e1, hx⟩ := hs.get k (by omega)
      obtain ⟨b2, o2, e2, hy⟩ := ht.get k (by omega)
      exact ⟨b1, o1, b2, o2, _, _, _, _, _, _, e1, e2, hx, hy, List.getElem?_eq_getElem (by omega), List.getElem?_eq_getElem (by omega)⟩
    have hyes : s.take m = t.take m → decide (s = t) = true := fun h => by
      rw [List.take_of_length_le (by omega), List.take_of_length_le (by omega)] at h
      simpa using h
    have hno : ∀ (k : Nat) (x y : Tok), s[k]? = some x → t[k]? = some y → x ≠ y → decide (s = t) = false := fun k x y h1 h2 h3 => by
      rw [decide_eq_false_iff_not]
      rintro rfl
      rw [h1] at h2
      exact h3 (Option.some.inj h2)
    rw [hm] at hsl ⊢
    rw [hm']
    have HK := Lib.hid key; clear key
    have HY := Lib.hid hyes; clear hyes
    have HN := Lib.hid hno; clear hno
    clear hs ht htl hl hm hm'
    go_enter Tryd.func51, Tryd.ntmps51
    go_wp2_with fail
    go_loopw [5] (fun i wr => ∃ (k n : Nat), k ≤ m ∧ i = .int .i64 k ∧ Hid (s.take k = t.take k) ∧ wr = w.drewN n) (fun i _ => m - (intOf i).toNat)
    case atStart => exact ⟨0, 0, Nat.zero_le _, rfl, Lib.hid (by simp), rfl⟩
    case round =>
      obtain ⟨k, n, hk, rfl, HT, rfl⟩ := hrel
      by_cases hlt : k < m
      · obtain ⟨b1, o1, b2, o2, x0, x1, x2, y0, y1, y2, rfl, rfl, ⟨p0, p1, p2⟩, ⟨q0, q1, q2⟩, hs, ht⟩ := HK.out k hlt
        have HS := Lib.hid hs; clear hs
        have HU := Lib.hid ht; clear ht
        by_cases e0 : x0 = y0
        · subst e0
          by_cases e1 : x1 = y1
          · subst e1
            by_cases e2 : x2 = y2
            · subst e2
              go_wp2_with fail
              go_quiet (fail)
              go_wp2_with fail
              go_roundw
              case rel =>
                refine ⟨k + 1, _, by omega, by go_num, Lib.hid ?_, rfl⟩
                rw [List.take_add_one, List.take_add_one, HS.out, HU.out, HT.out]
              case measure => simp [intOf]; omega
            · go_wp2_with fail
              go_quiet (fail)
              go_wp2_with fail
              go_ret
              exact ⟨by rw [HN.out k _ _ HS.out HU.out (fun h => e2 (Tok.mk.inj h).2.2)]; rfl, _, World.drewN_drewN _ _ _⟩
          · go_wp2_with fail
            go_quiet (fail)
            go_wp2_with fail
            go_ret
            exact ⟨by rw [HN.out k _ _ HS.out HU.out (fun h => e1 (Tok.mk.inj h).2.1)]; rfl, _, World.drewN_drewN _ _ _⟩
        · go_wp2_with fail
          go_quiet (fail)
          go_wp2_with fail
          go_ret
          exact ⟨by rw [HN.out k _ _ HS.out HU.out (fun h => e0 (Tok.mk.inj h).1)]; rfl, _, World.drewN_drewN _ _ _⟩
      · obtain rfl : k = m := by omega
        go_wp2_with fail
        go_ret
        exact ⟨by rw [HY.out HT.out]; rfl, _, rfl⟩
  · have hd : decide (s = t) = false := by
      rw [decide_eq_false_iff_not]; rintro rfl; exact hl rfl
    rw [hd]
    have hne : ((s.length : Int) == (t.length : Int)) = false := by simp only [beq_eq_false_iff_ne]; omega
    clear hl hd
    generalize s.length = m at *
    generalize t.length = m' at *
    have hne' : ((m : Int) != (m' : Int)) = true := by simp only [bne, hne]; rfl
    clear hs ht
    go_enter Tryd.func51, Tryd.ntmps51
    go_wp2_with fail
    go_ret
    exact ⟨rfl, 0, rfl⟩
end Go.Proofs.YtafgincpoahefaaDoor
