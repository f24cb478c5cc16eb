/-
  stragglelaw07.LexBack: the walk of a text of tokens alone.
-/
import Derived.Test.YtafgincpoahefaaDoorLexL4
import Derived.StillTailTactics
import Derived.BigQuiet
import Derived.IntWalk
import Derived.Deep.QuietTactic
namespace Go.Proofs.YtafgincpoahefaaDoor
open Go.RowKit

def strOf (l : List UInt8) : ByteArray := ⟨l.toArray⟩
theorem strOf_size (l : List UInt8) : (strOf l).size = l.length := by simp [strOf, ByteArray.size]
theorem strOf_app (l r : List UInt8) : strOf l ++ strOf r = strOf (l ++ r) := by
  apply ByteArray.ext
  simp [strOf, ByteArray.data_append]

/-- what a walk asks of token j of N: where it begins, its bytes, what lies ahead -/
structure TokFact (s : ByteArray) (ts : List Tok) (F : Nat → Nat) (A : Nat → List UInt8) (N j : Nat) (kd m : Int) (p : Nat) (t : List UInt8) : Prop where
  tok : ts[j]? = some ⟨kd, m, p⟩
  text : textOf kd m = t
  ne : t ≠ []
  kind : kd ≠ 0
  lo : F j ≤ p
  hi : p + t.length ≤ s.size
  eq : (s.extract p (p + t.length)).toList = t
  bl : ∀ i, F j ≤ i → (h : i < s.size) → i < p → s[i].toNat = 32
  next : F (j + 1) = p + t.length
  ag : A (j + 1) = A j ++ t ++ (if j + 1 < N then [32] else [])
  len : (A j).length ≤ 5000 ∧ (A (j + 1)).length ≤ 5000

set_option maxRecDepth 100000 in
set_option maxHeartbeats 8000000 in
theorem lexBack_good (s : ByteArray) (hs : s.size ≤ 2000) (ts : List Tok) (F : Nat → Nat) (A : Nat → List UInt8) (N : Nat) (hN : N ≤ 2000) (hn : ts.length = N + 1) (hall : allOf s.data.toList = (ts, 0, 0))
    (hF0 : F 0 = 0) (hA0 : A 0 = []) (hT : ∀ j, j < N → ∃ kd m p t, TokFact s ts F A N j kd m p t) (hE : ts[N]? = some ⟨0, 0, s.size⟩) (hFN : F N ≤ s.size) (hbN : ∀ i, F N ≤ i → (h : i < s.size) → s[i].toNat = 32) (hFN1 : F (N + 1) = s.size) (hAN1 : A (N + 1) = A N) (hAl : (A N).length ≤ 5000)
    (hJ : ∀ J : ByteArray, strOf (A (N + 1)) = J → J.size ≤ 2000 → ∃ us : List Tok, allOf J.data.toList = (us, 0, 0) ∧ us.length = N + 1 ∧ ∀ (i : Nat) (t : Tok), ts[i]? = some t → ∃ x, us[i]? = some ⟨t.kind, t.n, x⟩)
    (w : World) (hG : GL w) : Calls Tryd.prog 13 #[.string s] w fun e w' => e = .returned (.bool true) ∧ Below w.heap.size w w' := by
  have cA := fun w hG => lex_All_at s (by omega) ts 0 0 (N + 1) hn hall w hG
  have CA := Lib.hid cA; clear cA hall
  have HN := Lib.hid hn; clear hn
  have HT := Lib.hid hT; clear hT
  have HE := Lib.hid hE; clear hE
  have HB := Lib.hid hbN; clear hbN
  have HF1 := Lib.hid hFN1; clear hFN1
  have HA1 := Lib.hid hAN1; clear hAN1
  have HF0 := Lib.hid hF0; clear hF0
  have HA0 := Lib.hid hA0; clear hA0
  go_enter Tryd.func13, Tryd.ntmps13
  go_wp2_with fail
  refine (CA.out _ hG).mono ?_
  rintro e w1 ⟨a, cap, rfl, hcap, ht, hb1⟩
  have hG1 := hG.mono hb1
  go_wp2_with fail
  go_loopw [6, 7, 8] (fun fm ag i wr => ∃ j : Nat, j ≤ N + 1 ∧ i = .int .i64 j ∧ fm = .int .i64 (F j) ∧ ag = .string (strOf (A j)) ∧ Below w1.heap.size w1 wr) (fun _ _ i _ => N + 2 - (intOf i).toNat)
  case atStart => exact ⟨0, by omega, rfl, by rw [HF0.out]; rfl, by rw [HA0.out]; rfl, Below.refl _ _⟩
  case round =>
    obtain ⟨j, hj, rfl, rfl, rfl, hbr⟩ := hrel
    by_cases hlt : j < N
    · obtain ⟨kd, m, p, t, tf⟩ := HT.out j hlt
      obtain ⟨b, off, e1, x0, x1, x2⟩ := (ht.mono hbr (Nat.le_refl _)).at_ j _ tf.tok
      subst e1
      have cT := lex_Text_at kd m t.toArray (by rw [tf.text]) (.int .i64 p) wr (hG1.mono hbr)
      rw [show (⟨t.toArray⟩ : ByteArray) = strOf t from rfl] at cT
      have hne : ¬ (strOf t).toList = [] := by rw [ByteArray.toList_eq]; simpa [strOf] using tf.ne
      have hne2 : (strOf t).toList.isEmpty = false := by simpa using hne
      have heq : ((s.extract p (p + (strOf t).size)).toList == (strOf t).toList) = true := by
        rw [strOf_size, tf.eq, ByteArray.toList_eq]; simp [strOf]
      have hk0 : (kd == 0) = false := by simpa using tf.kind
      have hlo := tf.lo
      have hhi := tf.hi
      rw [← strOf_size] at hhi
      have hjn : ((j : Int) == (N : Int)) = false := by simp only [beq_eq_false_iff_ne]; omega
      have hlen1 := tf.len.1
      rw [← strOf_size] at hlen1
      have TF := Lib.hid tf; clear tf
      have CT := Lib.hid cT; clear cT
      go_wp2_with fail
      refine CT.out.mono ?_
      rintro e w2 ⟨rfl, hb2⟩
      have hbr2 := hbr.trans (hb2.mono hbr.size)
      have z0 := cell_mono hb2 (Nat.le_refl _) x0
      have z1 := cell_mono hb2 (Nat.le_refl _) x1
      have z2 := cell_mono hb2 (Nat.le_refl _) x2
      clear x0 x1 x2
      go_wp2_with fail
      have hd1 : decide ((p : Int) < (F j : Int)) = false := by simp; omega
      have hd2 : decide ((s.size : Int) < (p : Int) + ((strOf t).size : Int)) = false := by simp; omega
      have hw1 : IntKind.i64.wrap ((p : Int) + ((strOf t).size : Int)) = (p : Int) + ((strOf t).size : Int) := IntWalk.i64_in _ (by omega)
      have hw2 : ((p : Int) + ((strOf t).size : Int)).toNat = p + (strOf t).size := by omega
      have hw3 : 0 ≤ (p : Int) + ((strOf t).size : Int) := by omega
      have hw4 : (p : Int) + ((strOf t).size : Int) ≤ (s.size : Int) := by omega
      have hw5 : (p : Int) ≤ (p : Int) + ((strOf t).size : Int) := by omega
      go_quiet (fail)
      clear hd1 hd2 hw1 hw2 hw3 hw4 hw5
      go_wp2_with fail
      go_loop [11] (fun k => ∃ i : Nat, F j ≤ i ∧ i ≤ p ∧ k = .int .i64 i) (fun k => p + 1 - (intOf k).toNat)
      case atStart => exact ⟨F j, Nat.le_refl _, hlo, rfl⟩
      case round =>
        obtain ⟨i, hi1, hi2, rfl⟩ := hrel
        by_cases hip : i < p
        · have his : i < s.size := by omega
          have h32 := TF.out.bl i hi1 his hip
          have hb32 : ((s[i].toNat : Int) == 32) = true := by simp only [beq_iff_eq]; omega
          have hb33 : ((s[i].toNat : Int) != 32) = false := by simp only [bne, hb32]; rfl
          clear h32
          go_wp2_with fail
          go_round
          case rel => exact ⟨i + 1, by omega, by omega, by go_num⟩
          case measure => simp [intOf]; omega
        · obtain rfl : i = p := by omega
          by_cases hj2 : j + 1 < N
          · go_wp2_with fail
            go_roundw
            case rel => exact ⟨j + 1, by omega, by go_num, by rw [TF.out.next, ← strOf_size]; go_num, by rw [TF.out.ag, if_pos hj2, ← strOf_app, ← strOf_app]; rfl, hbr2.trans (below_drewN _ _ _)⟩
            case measure => simp [intOf]; omega
          · go_wp2_with fail
            go_roundw
            case rel => exact ⟨j + 1, by omega, by go_num, by rw [TF.out.next, ← strOf_size]; go_num, by rw [TF.out.ag, if_neg hj2, List.append_nil, ← strOf_app], hbr2.trans (below_drewN _ _ _)⟩
            case measure => simp [intOf]; omega
    · by_cases hjN : j = N
      · subst hjN
        obtain ⟨b, off, e1, x0, x1, x2⟩ := (ht.mono hbr (Nat.le_refl _)).at_ j _ HE.out
        subst e1
        have cT := lex_Text_at 0 0 #[] (by kernel_rfl) (.int .i64 s.size) wr (hG1.mono hbr)
        obtain ⟨E, hE⟩ : ∃ E : ByteArray, E = ⟨#[]⟩ := ⟨_, rfl⟩
        rw [← hE] at cT
        have hne : E.toList = [] := by rw [hE]; kernel_rfl
        have hE0 : E.size ≤ 0 := by rw [hE]; exact Nat.le_refl _
        have heq : (s.extract s.size (s.size + E.size)).toList = [] := by
          rw [ByteArray.toList_eq, Lib.extract_data, List.drop_of_length_le (by simp)]; simp
        have hAe : strOf (A j) ++ E = strOf (A (j + 1)) := by
          rw [HA1.out, hE, show (⟨#[]⟩ : ByteArray) = strOf [] from rfl, strOf_app, List.append_nil]
        have HAE := Lib.hid hAe; clear hAe hE
        have hlen1 : (strOf (A j)).size ≤ 5000 := by rw [strOf_size]; exact hAl
        clear hAl
        have hd1 : decide ((s.size : Int) < (F j : Int)) = false := by simp; omega
        have hd2 : decide ((s.size : Int) < (s.size : Int) + (E.size : Int)) = false := by simp; omega
        have hw1 : IntKind.i64.wrap ((s.size : Int) + (E.size : Int)) = (s.size : Int) + (E.size : Int) := IntWalk.i64_in _ (by omega)
        have hw2 : ((s.size : Int) + (E.size : Int)).toNat = s.size + E.size := by omega
        have hw3 : 0 ≤ (s.size : Int) + (E.size : Int) := by omega
        have hw4 : (s.size : Int) + (E.size : Int) ≤ (s.size : Int) := by omega
        have hw5 : (s.size : Int) ≤ (s.size : Int) + (E.size : Int) := by omega
        have CT := Lib.hid cT; clear cT
        have W := Lib.hid (And.intro hd1 (And.intro hd2 (And.intro hw1 (And.intro hw2 (And.intro hw3 (And.intro hw4 hw5))))))
        clear hd1 hd2 hw1 hw2 hw3 hw4 hw5
        go_wp2_with fail
        refine CT.out.mono ?_
        rintro e w2 ⟨rfl, hb2⟩
        have hbr2 := hbr.trans (hb2.mono hbr.size)
        have z0 := cell_mono hb2 (Nat.le_refl _) x0
        have z1 := cell_mono hb2 (Nat.le_refl _) x1
        have z2 := cell_mono hb2 (Nat.le_refl _) x2
        clear x0 x1 x2
        go_wp2_with fail
        obtain ⟨hd1, hd2, hw1, hw2, hw3, hw4, hw5⟩ := W.out
        go_quiet (fail)
        clear hd1 hd2 hw1 hw2 hw3 hw4 hw5
        go_wp2_with fail
        go_loop [11] (fun k => ∃ i : Nat, F j ≤ i ∧ i ≤ s.size ∧ k = .int .i64 i) (fun k => s.size + 1 - (intOf k).toNat)
        case atStart => exact ⟨F j, Nat.le_refl _, hFN, rfl⟩
        case round =>
          obtain ⟨i, hi1, hi2, rfl⟩ := hrel
          by_cases his : i < s.size
          · have h32 := HB.out i hi1 his
            have hb32 : ((s[i].toNat : Int) == 32) = true := by simp only [beq_iff_eq]; omega
            have hb33 : ((s[i].toNat : Int) != 32) = false := by simp only [bne, hb32]; rfl
            clear h32
            go_wp2_with fail
            go_round
            case rel => exact ⟨i + 1, by omega, by omega, by go_num⟩
            case measure => simp [intOf]; omega
          · obtain rfl : i = s.size := by omega
            go_wp2_with fail
            go_roundw
            case rel => exact ⟨j + 1, by omega, by go_num, by rw [HF1.out, show (s.size : Int) + (E.size : Int) = s.size from by omega], by rw [HAE.out], hbr2.trans (below_drewN _ _ _)⟩
            case measure => simp [intOf]
      · obtain rfl : j = N + 1 := by omega
        have hf1 := HF1.out
        generalize hJe : strOf (A (N + 1)) = J at *
        have HJ2 := Lib.hid (hJ J rfl)
        clear hJe hJ
        by_cases hJs : 2000 < J.size
        · go_wp2_with fail
          refine (wakes07 _ (hG1.mono hbr)).mono ?_
          rintro e w9 ⟨rfl, hb9⟩
          go_wp2_with fail
          go_ret
          have hbz := hb1.trans (hbr.mono hb1.size)
          exact ⟨rfl, hbz.trans (hb9.mono hbz.size)⟩
        · obtain ⟨us, hu1, hu2, hu3⟩ := HJ2.out (by omega)
          have cB := lex_All_at J (by omega) us 0 0 (N + 1) hu2 hu1 wr (hG1.mono hbr)
          have CB := Lib.hid cB; clear cB hu1
          have HU3 := Lib.hid hu3; clear hu3
          have HU2 := Lib.hid hu2; clear hu2
          go_wp2_with fail
          refine CB.out.mono ?_
          rintro e w3 ⟨a3, cap3, rfl, hcap3, ht3, hb3⟩
          have hb13 := hbr.trans (hb3.mono hbr.size)
          have hG3 := hG1.mono hb13
          have hbz := hb1.trans (hb13.mono hb1.size)
          have ht13 := ht.mono hb13 (Nat.le_refl _)
          go_wp2_with fail
          go_loopw [15] (fun k wq => ∃ i : Nat, i ≤ N + 1 ∧ k = .int .i64 i ∧ Below w3.heap.size w3 wq) (fun k _ => N + 2 - (intOf k).toNat)
          case atStart => exact ⟨0, by omega, rfl, Below.refl _ _⟩
          case round =>
            obtain ⟨i, hi, rfl, hbq⟩ := hrel
            by_cases hiN : i < N + 1
            · have hts : ts[i]? = some (ts[i]'(by rw [HN.out]; exact hiN)) := List.getElem?_eq_getElem _
              obtain ⟨x, hx⟩ := HU3.out i _ hts
              obtain ⟨b, off, e1, x0, x1, x2⟩ := (ht13.mono hbq (Nat.le_refl _)).at_ i _ hts
              obtain ⟨b3, off3, e3, y0, y1, y2⟩ := (ht3.mono hbq (Nat.le_refl _)).at_ i _ hx
              subst e1 e3
              clear hts hx
              generalize (ts[i]'(by rw [HN.out]; exact hiN)) = tk at *
              obtain ⟨k0, n0, a0⟩ := tk
              simp only at x0 x1 x2 y0 y1 y2
              go_wp2_with fail
              go_quiet (fail)
              go_wp2_with fail
              go_roundw
              case rel => exact ⟨i + 1, by omega, by go_num, hbq.trans (below_drewN _ _ _)⟩
              case measure => simp [intOf]; omega
            · obtain rfl : i = N + 1 := by omega
              go_wp2_with fail
              refine (wakes07 _ (hG3.mono hbq)).mono ?_
              rintro e w9 ⟨rfl, hb9⟩
              go_wp2_with fail
              go_ret
              have hby := hbz.trans (hbq.mono hbz.size)
              exact ⟨rfl, hby.trans (hb9.mono hby.size)⟩
end Go.Proofs.YtafgincpoahefaaDoor
