/-
  stragglelaw09.ParseBlanks: true of any text, any token.
-/
import Derived.Test.YtafgincpoahefaaDoorPas13
import Derived.Test.YtafgincpoahefaaDoorPlD
import Derived.StillTailTactics
import Derived.Deep.RegionWith
import Derived.BigQuiet
import Derived.Deep.QuietTactic
namespace Go.Proofs.YtafgincpoahefaaDoor
open Go.RowKit
attribute [local go_sem] Oper.semAt_some

theorem ToksAt.place {w : World} {a : Option Addr} {ts : List Tok} (h : ToksAt w a ts) (i : Nat) (t : Tok) (ht : ts[i]? = some t) : ∃ b off, a = some ⟨b, off, none⟩ ∧
    w.cell? ⟨b, off + i * 3, none⟩ = some (.int .u8 t.kind) ∧ w.cell? ⟨b, off + i * 3 + 1, none⟩ = some (.int .i64 t.n) ∧ w.cell? ⟨b, off + i * 3 + 2, none⟩ = some (.int .i64 t.at') := by
  obtain ⟨hi, rfl⟩ := List.getElem?_eq_some_iff.1 ht
  exact h.get i hi
/-- Parse's contract, the pattern's value laid open: it stays whatever is done to a block that was there -/
theorem parse_open (s : ByteArray) (hs : s.size ≤ 140737488351232) (p : Pt) (a c : Int) (h : parseOf s.data.toList = (p, a, c)) (W : World) (hG : GL W) :
    Calls Tryd.prog 54 #[.string s] W fun e w' => ∃ a0 c0, e = .returned (.tuple #[.agg #[.slice a0 p.steps.length c0, .int .i64 p.window], .int .i64 a, .int .i64 c]) ∧
      (∀ W'' row, w'.grownBy W'' row → (∀ j, row = some j → j < W.heap.size) → StepsV W'' (.slice a0 p.steps.length c0) p.steps) ∧ Below W.heap.size W w' := by
  refine (parse_ParseO s hs W hG).mono ?_
  rintro e w' ⟨v, L, rfl, h1, h2, h3, hb'⟩
  rw [h] at h1 ⊢
  simp only at h1
  obtain ⟨ga, vcap, rfl⟩ := ownsRow_form h2
  have hl : L.length = p.steps.length := by rw [← h1, List.length_map]
  have hk : ∀ {e : TypeId} {size n : Nat} {v : Value} {xs : List Value} {W'' : World} {row : Option Nat}, w'.ownsRow W.heap.size e size v n xs → w'.grownBy W'' row → (∀ j, row = some j → j < W.heap.size) → W''.ownsRow W.heap.size e size v n xs := fun {_ _ _ v _ _ row} h hg hr => by
    refine h.kept hg ?_
    cases row with
    | none => cases v.ownBlock with
      | none => exact .inl rfl
      | some b => exact .inr (by simp)
    | some j => exact .inr (row_far h (hr j rfl)).symm
  refine ⟨ga, vcap, by rw [hl], fun W'' row hg hr => ?_, hb'⟩
  have := steps_of_row (hk h2 hg hr) fun q hq => cmps_of_row (hk (h3 q hq) hg hr)
  rw [h1, hl] at this
  exact this
theorem parse_place (l : List UInt8) : 0 ≤ (parseOf l).2.1 ∧ (parseOf l).2.1 ≤ 2000 := by
  by_cases h0 : (allOf l).2.2 = 0
  · rcases ha : allOf l with ⟨ts, p, c⟩
    rw [ha] at h0
    simp only at h0
    subst h0
    obtain ⟨rfl, h1, h2, rfl⟩ := all_ok ha
    rcases r : pPat (toksL l) with b | ⟨p, r'⟩
    · rw [(parseOf_ts ha).1 _ r]
      obtain ⟨pre, x, r', h3, rfl, _⟩ := (loc_pat _).err r (toksL_end h2)
      have hx : (toksL l)[pre.length]? = some x := by rw [h3]; simp
      obtain ⟨c, h4, h5⟩ := toksL_place hx
      simp only
      omega
    · rw [(parseOf_ts ha).2 _ _ r]
      simp only
      omega
  · rw [parse_none h0]
    simp only
    unfold allOf
    split
    · simp only; omega
    · rename_i hl
      split
      · rename_i y hy
        have := yields_range _ _ _ (Nat.le_refl _) y (List.mem_of_find?_eq_some hy)
        simp only
        omega
      · simp only; omega
theorem blanks_text (s : ByteArray) (c : Nat) : (s.extract 0 c ++ ⟨#[32, 32]⟩ ++ s.extract c s.size).data.toList = s.data.toList.take c ++ 32 :: 32 :: s.data.toList.drop c := by
  simp [ByteArray.data_append]
  exact List.take_of_length_le (by simp)
theorem blanks_size (s : ByteArray) (c : Nat) (hs : s.size ≤ 1000) : (s.extract 0 c ++ ⟨#[32, 32]⟩ ++ s.extract c s.size).size ≤ 140737488351232 := by
  rw [ByteArray.size_append, ByteArray.size_append, ByteArray.size_extract, ByteArray.size_extract]
  show (min c s.size - 0) + 2 + (min s.size s.size - c) ≤ _
  omega
set_option maxRecDepth 100000 in
set_option maxHeartbeats 4000000 in
theorem parBlanks_ok (s : ByteArray) (k_ : Int) (hk_ : -9223372036854775808 ≤ k_ ∧ k_ ≤ 9223372036854775807) (hs : s.size ≤ 1000) (hg : good (yields 0 s.data.toList)) (n k c : Nat) (hn : (toksL s.data.toList).length = n) (hn1 : 1 ≤ n) (hn2 : n ≤ 1001) (hkn : k < n) (hke : k_.tmod n % n = k) (kd m : Int)
    (hct : (toksL s.data.toList)[k]? = some ⟨kd, m, c⟩) (P : Pt) (A A' E : Int) (hA : 0 ≤ A ∧ A ≤ 2000) (h1 : parseOf s.data.toList = (P, A, E)) (h2 : parseOf (s.data.toList.take c ++ 32 :: 32 :: s.data.toList.drop c) = (P, A', E)) (hcs : c ≤ s.size)
    (hA' : A' = if E ≠ 0 ∧ (c : Int) ≤ A then A + 2 else A) (w : World) (hG : GL w) :
    Calls Tryd.prog 18 #[.string s, .int .i64 k_] w fun e w' => e = .returned (.bool true) ∧ Below w.heap.size w w' := by
  have cA := fun w => ref9_All s (by omega) (toksL s.data.toList) 0 0 n hn (all_mk (by rw [show s.data.toList.length = s.size by simp]; omega) hg) w
  have cP := fun w hG => parse_open s (by omega) P A E h1 w hG
  have cQ := fun w hG => parse_open _ (blanks_size s c hs) P A' E ((congrArg parseOf (blanks_text s c)).trans h2) w hG
  have cS := fun W v u hv hu => ref8_Same P P v u W hv hu
  have CA := Lib.hid cA
  have CP := Lib.hid cP
  have CQ := Lib.hid cQ
  have CS := Lib.hid cS
  have HA' := Lib.hid hA'
  have hm0 : -(n : Int) < k_.tmod n := by have := Int.lt_tmod_of_pos k_ (show (0 : Int) < n by omega); omega
  have hm1 : k_.tmod n < n := Int.tmod_lt_of_pos k_ (by omega)
  have hnz : ((n : Int) == 0) = false := by simp only [beq_eq_false_iff_ne]; omega
  obtain ⟨ha0, ha1⟩ := hk_
  clear cA cP cQ cS h1 h2 hA' hg
  go_enter Tryd.func18, Tryd.ntmps18
  go_wp2_with fail
  refine (CA.out _).mono ?_
  rintro e w1 ⟨a, cap, rfl, hcap, ht, hb1⟩
  obtain ⟨b, off, rfl, x0, x1, x2⟩ := ht.place k _ hct
  have HN := Lib.hid hn
  have HC := Lib.hid hct
  have hG1 := hG.mono hb1
  clear hn hct
  go_wp2_with fail
  refine (CP.out _ hG1).mono ?_
  rintro e w2 ⟨a1, c1, rfl, hv1, hb2⟩
  have hb3 := (hb1.trans (hb2.mono hb1.size))
  have z1 := Holds.fresh w2 24 #[.slice a1 P.steps.length c1, .int .i64 P.window]
  have hv2 := hv1 _ none (World.grownBy_alloc w2 (.cells #[.slice a1 P.steps.length c1, .int .i64 P.window] 24) none) (fun j e => nomatch e)
  have hb4 := hb3.alloc hb3.size (.cells #[.slice a1 P.steps.length c1, .int .i64 P.window] 24)
  clear hv1 hb2 hb3 hb1 x0 x1 x2 hke hm0 hm1 hnz CA CP ht hcap hG1
  go_upto_region 8 with (fail)
  generalize w2.alloc (.cells #[.slice a1 P.steps.length c1, .int .i64 P.window] 24) = W2 at *
  generalize w2.heap.size = z at *
  have hG2 := hG.mono hb4
  have HG2 := Lib.hid hG2
  have Z1 := Lib.hid z1
  have HV2 := Lib.hid hv2
  have HB4 := Lib.hid hb4
  have hcq := fun W (hb : Below W2.heap.size W2 W) => CQ.out W (HG2.out.mono hb)
  have CQ' := Lib.hid hcq
  clear z1 hv2 hb4 CQ hcq hG2
  go_cut [12, 13, 14] (fun q t g wc => ∃ (zq : Nat) (a2 : Option Addr) (c2 : Nat), q = .pointer (some ⟨zq, 0, none⟩) ∧ t = .int .i64 A' ∧ g = .int .i64 E ∧ Holds wc zq 24 #[.slice a2 P.steps.length c2, .int .i64 P.window] ∧ StepsV wc (.slice a2 P.steps.length c2) P.steps ∧ Below W2.heap.size W2 wc)
  case first =>
    go_wp2_with fail
    go_region_with (first
      | (go_at_call 54; (with_reducible refine (CQ'.out _ ((Below.refl _ _).drew)).mono ?_); rintro e w3 ⟨a2, c2, rfl, hv3, hb5⟩)
      | (go_at_call 54; (with_reducible refine (CQ'.out _ (((Below.refl _ _).alloc (Nat.le_refl _) _).drew)).mono ?_); rintro e w3 ⟨a2, c2, rfl, hv3, hb5⟩
         have hh := ((Holds.fresh W2 24 #[.slice none 0 0, .int .i64 0]).later (below_drewN _ _ 1)).later hb5
         have q0 : w3.cell? ⟨W2.heap.size, 0, none⟩ = some (.slice none 0 0) := hh.cell 0
         have q1 : w3.cell? ⟨W2.heap.size, 1, none⟩ = some (.int .i64 0) := hh.cell 1
         have qf := hh.free
         have ql := hh.size))
    all_goals go_wp2_with fail
    all_goals go_meet
    all_goals refine ⟨_, a2, c2, rfl, rfl, rfl, ?_⟩
    · exact ⟨Holds.fresh _ _ _, hv3 _ none (World.grownBy_alloc _ _ none) (fun j e => nomatch e), (((Below.refl _ _).drew).trans hb5).alloc (by have := hb5.size; simpa using this) _⟩
    all_goals
      exact ⟨(hh.set 0 _).set 1 _, hv3 _ (some W2.heap.size) ((Lib.grownBy_setCell _ _ _ _).trans (Lib.grownBy_setCell _ _ _ _)) (fun j e => by cases e; simp),
        (((((Below.refl _ _).alloc (Nat.le_refl _) _).drew).trans (hb5.mono (by simp))).setCell (p := ⟨W2.heap.size, 0, none⟩) (Nat.le_refl _) _).setCell (p := ⟨W2.heap.size, 1, none⟩) (Nat.le_refl _) _⟩
  case rest =>
    obtain ⟨zq, a2, c2, rfl, rfl, rfl, hq, hvq, hbq⟩ := hcut
    have hs' := ref8_Same P P (.agg #[.slice a1 P.steps.length c1, .int .i64 P.window]) (.agg #[.slice a2 P.steps.length c2, .int .i64 P.window]) wc ⟨_, rfl, HV2.out.mono hbq (Nat.le_refl _)⟩ ⟨_, rfl, hvq⟩
    rw [decide_eq_true rfl] at hs'
    have y0 : wc.cell? ⟨z, 0, none⟩ = some (.slice a1 P.steps.length c1) := (Z1.out.later hbq).cell 0
    have y1 : wc.cell? ⟨z, 1, none⟩ = some (.int .i64 P.window) := (Z1.out.later hbq).cell 1
    have q0 : wc.cell? ⟨zq, 0, none⟩ = some (.slice a2 P.steps.length c2) := hq.cell 0
    have q1 : wc.cell? ⟨zq, 1, none⟩ = some (.int .i64 P.window) := hq.cell 1
    have hbw := HB4.out.trans (hbq.mono HB4.out.size)
    have HS := Lib.hid hs'
    have HBW := Lib.hid hbw
    have hGw := Lib.hid (hG.mono hbw)
    have hA'' := HA'.out
    have cw := fun W hb => wakes09 W ((hGw.out).mono hb)
    have CW := Lib.hid cw
    clear hs' hbw hq hvq hbq CQ' Z1 HV2 HB4 HG2 HA' cw CS HN HC
    by_cases hE : E = 0
    · subst hE
      rw [if_neg (by simp)] at hA''
      subst hA''
      go_wp2_with fail
      refine HS.out.mono ?_
      rintro e w5 ⟨rfl, hb6⟩
      go_wp2_with fail
      refine (CW.out _ hb6).mono ?_
      rintro e w6 ⟨rfl, hb7⟩
      go_wp2_with fail
      go_ret
      have hb8 := HBW.out.trans (hb6.mono HBW.out.size)
      exact ⟨rfl, hb8.trans (hb7.mono hb8.size)⟩
    · have e1 : (E != 0) = true := by simpa using hE
      by_cases hc : (c : Int) ≤ A
      · rw [if_pos ⟨hE, hc⟩] at hA''
        subst hA''
        have e2 : decide ((c : Int) ≤ A) = true := by simpa using hc
        obtain ⟨hA0, hA1⟩ := hA
        have HE := Lib.hid hE
        clear hE
        go_wp2_with fail
        refine HS.out.mono ?_
        rintro e w5 ⟨rfl, hb6⟩
        go_wp2_with fail
        refine (CW.out _ hb6).mono ?_
        rintro e w6 ⟨rfl, hb7⟩
        go_wp2_with fail
        go_ret
        have hb8 := HBW.out.trans (hb6.mono HBW.out.size)
        exact ⟨rfl, hb8.trans (hb7.mono hb8.size)⟩
      · rw [if_neg (fun h => hc h.2)] at hA''
        subst hA''
        have e2 : decide ((c : Int) ≤ A') = false := by simpa using hc
        have HE := Lib.hid hE
        clear hE hc
        go_wp2_with fail
        refine HS.out.mono ?_
        rintro e w5 ⟨rfl, hb6⟩
        go_wp2_with fail
        refine (CW.out _ hb6).mono ?_
        rintro e w6 ⟨rfl, hb7⟩
        go_wp2_with fail
        go_ret
        have hb8 := HBW.out.trans (hb6.mono HBW.out.size)
        exact ⟨rfl, hb8.trans (hb7.mono hb8.size)⟩
theorem parBlanks_long (s : ByteArray) (k_ : Int) (hs : 1000 < s.size) (w : World) (hG : GL w) :
    Calls Tryd.prog 18 #[.string s, .int .i64 k_] w fun e w' => e = .returned (.bool true) ∧ Below w.heap.size w w' := by
  go_enter Tryd.func18, Tryd.ntmps18
  go_wp2_with fail
  refine (wakes09 _ hG).mono ?_
  rintro e w9 ⟨rfl, hb9⟩
  go_wp2_with fail
  go_ret
  exact ⟨rfl, hb9⟩
theorem parBlanks_err (s : ByteArray) (k_ : Int) (hs : s.size ≤ 1000) (ts : List Tok) (p c : Int) (ha : allOf s.data.toList = (ts, p, c)) (hc : c ≠ 0) (w : World) (hG : GL w) :
    Calls Tryd.prog 18 #[.string s, .int .i64 k_] w fun e w' => e = .returned (.bool true) ∧ Below w.heap.size w w' := by
  have cA := fun w => ref9_All s (by omega) ts p c ts.length rfl ha w
  have CA := Lib.hid cA
  have e1 : (c != 0) = true := by simpa using hc
  clear cA ha hc
  go_enter Tryd.func18, Tryd.ntmps18
  go_wp2_with fail
  refine (CA.out _).mono ?_
  rintro e w1 ⟨a, cap, rfl, hcap, ht, hb1⟩
  go_wp2_with fail
  refine (wakes09 _ (hG.mono hb1)).mono ?_
  rintro e w9 ⟨rfl, hb9⟩
  go_wp2_with fail
  go_ret
  exact ⟨rfl, hb1.trans (hb9.mono hb1.size)⟩
theorem parseBlanks_walk (s : ByteArray) (k_ : Int) (w : World) (_hs0 : s.size ≤ 140737488351232) (hk : -9223372036854775808 ≤ k_ ∧ k_ ≤ 9223372036854775807) (hG : GL w) :
    Calls Tryd.prog 18 #[.string s, .int .i64 k_] w fun e w' => e = .returned (.bool true) ∧ Below w.heap.size w w' := by
  by_cases hs : 1000 < s.size
  · exact parBlanks_long s k_ hs w hG
  have hs : s.size ≤ 1000 := by omega
  have hl : s.data.toList.length = s.size := by simp
  rcases ha : allOf s.data.toList with ⟨ts, p, c⟩
  by_cases hc : c = 0
  · subst hc
    obtain ⟨rfl, _, hg, rfl⟩ := all_ok ha
    have hlen := toksL_len s.data.toList
    have hyl := yields_len _ 0 s.data.toList (Nat.le_refl _)
    obtain ⟨n, hn⟩ : ∃ n, (toksL s.data.toList).length = n := ⟨_, rfl⟩
    have h0 : 0 ≤ k_.tmod n % n := Int.emod_nonneg _ (by omega)
    have h1 : k_.tmod n % n < n := Int.emod_lt_of_pos _ (by omega)
    obtain ⟨k, hke⟩ := Int.eq_ofNat_of_zero_le h0
    have hkn : k < (toksL s.data.toList).length := by omega
    obtain ⟨t, ht⟩ : ∃ t, (toksL s.data.toList)[k]? = some t := ⟨_, List.getElem?_eq_getElem hkn⟩
    obtain ⟨c, hc, hcl⟩ := toksL_place ht
    have hpb := par_blanks (by omega) hg ht hc
    have hpl := parse_place s.data.toList
    rcases hp : parseOf s.data.toList with ⟨P, A, E⟩
    rw [hp] at hpb hpl
    obtain ⟨kd, m, at_⟩ := t
    simp only at hc hpb hpl
    subst hc
    exact parBlanks_ok s k_ hk hs hg n k c hn (by omega) (by omega) (by omega) hke kd m ht P A _ E hpl hp hpb (by omega) rfl w hG
  · exact parBlanks_err s k_ hs ts p c ha hc w hG
end Go.Proofs.YtafgincpoahefaaDoor
