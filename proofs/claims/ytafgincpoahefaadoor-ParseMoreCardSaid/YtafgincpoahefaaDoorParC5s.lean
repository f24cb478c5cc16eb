/-
  stragglelaw09.ParseMore: true of any arguments. Conditions: none (the row lists the library's tables and errors and lex's ways of comparing that its road reads, as the program's text lays them).
-/
import Derived.Test.YtafgincpoahefaaDoorParL5e
import Derived.Test.YtafgincpoahefaaDoorParL2
import Derived.Test.YtafgincpoahefaaDoorParF5
import Derived.Test.YtafgincpoahefaaDoorLaidL
import Derived.Test.YtafgincpoahefaaDoorOpenP
import Derived.OpenShut
namespace Go.Proofs.YtafgincpoahefaaDoor
open Go.RowKit

theorem scan_le : ∀ (l : List Tok) (s : Int × Int × Int), (scan s l).2.2 ≤ s.2.2 + l.length
  | [], s => by simp [scan]
  | t :: l, s => by
    have h := scan_le l (scan1 s t)
    have e : scan s (t :: l) = scan (scan1 s t) l := rfl
    have h1 : (scan1 s t).2.2 ≤ s.2.2 + 1 := by unfold scan1; simp only; split <;> omega
    rw [e, List.length_cons]
    omega
theorem asks_ge : ∀ (ss : List St) (x : St), x ∈ ss → (x.cmps.length : Int) ≤ asks ss
  | [], x, h => nomatch h
  | y :: ss, x, h => by
    have h0 : ∀ l : List St, 0 ≤ asks l := fun l => by
      induction l with
      | nil => simp [asks]
      | cons z l ih => simp only [asks, List.map_cons, List.sum_cons] at ih ⊢; omega
    have e : asks (y :: ss) = y.cmps.length + asks ss := by simp [asks]
    rcases List.mem_cons.1 h with rfl | h
    · have := h0 ss; omega
    · have := asks_ge ss x h; omega

theorem parseMore_walk (s : ByteArray) (kind : Int) (strict neg : Bool) (w : World) (_hs0 : s.size ≤ 140737488351232) (_hk : -9223372036854775808 ≤ kind ∧ kind ≤ 9223372036854775807) (hG : GL w) :
    Calls Tryd.prog 20 #[.string s, .int .i64 kind, .bool strict, .bool neg] w fun e w' => e = .returned (.bool true) ∧ Below w.heap.size w w' := by
  by_cases h0 : 1000 < s.size ∨ kind < 0 ∨ 9 < kind
  · exact parMore_wakes s kind strict neg h0 w hG
  have hs : s.size ≤ 1000 := by omega
  have hk0 : 0 ≤ kind := by omega
  have hk9 : kind ≤ 9 := by omega
  rcases hp : parseOf s.data.toList with ⟨P, A, E⟩
  rcases ha : allOf s.data.toList with ⟨ts, p, c⟩
  by_cases hE : E ≠ 0 ∨ 26 ≤ P.steps.length
  · exact parMore_not s kind hk0 hk9 strict neg hs P A E hp ts p c ha P.steps.length rfl hE w hG
  obtain rfl : E = 0 := by omega
  have hN : P.steps.length < 26 := by omega
  obtain ⟨k, rfl⟩ := Int.eq_ofNat_of_zero_le hk0
  have hl : s.data.toList.length = s.size := by simp
  obtain ⟨j, at_, ⟨kd, m, a'⟩, hall, hlen, hj, rfl, hcl, h2⟩ := par_more (l := s.data.toList) (by omega) hp hN (kind := k) (by omega) strict neg
  have hyl := yields_len _ 0 s.data.toList (Nat.le_refl _)
  have htl := toksL_len s.data.toList
  have hcm : ∀ x ∈ P.steps, x.cmps.length ≤ 4000 := fun x hx => by
    have h1 := (par_told hall hp).2.2.2.1
    have h3 := scan_le (toksL s.data.toList) (0, 0, 0)
    rw [h1] at h3
    have h4 := asks_ge _ x hx
    simp only at h3
    omega
  obtain ⟨ss, win⟩ := P
  simp only at h2 hN hcm
  exact parMore_ok s k (by omega) strict neg hs ss win ss.length rfl hN hcm A hp (j + 3) j at_ hall (by omega) (by omega) (by omega) (by omega) kd m hj (by omega) h2 w hG
end Go.Proofs.YtafgincpoahefaaDoor

namespace Go.Proofs.YtafgincpoahefaaDoor
open Go.ChangeShapes Go.WideShapes Go.ChangeAt Go.RowKit
set_option linter.unusedVariables false

set_option maxRecDepth 100000 in
theorem parseMore_contract (H : Type) (enc : TypeId × Value → H) (W : World) (base : Nat) (args : Array Value) (ds gs : List (DataW H)) (before : List MemPlace)
    (hval : ∀ (j : Nat) t v, Tryd.f20.params[j]? = some t → args[j]? = some v → Value.okWide Tryd.prog W .any base t v)
    (hW : DataW.Whole enc Tryd.prog Tryd.f20.params.toList Rows.parseMoreSpec.vars false W args.toList ds gs before) (hL : laidMetH Tryd.prog Rows.parseMoreRow.laid W)
    (hsz : (DataW.weightsEach Tryd.prog (Tryd.f20.params.toList ++ (OpenSpec.ofChange Rows.parseMoreSpec).bare.plain.varTypes Tryd.prog) (ds ++ gs)).all (· ≤ reachBytes) = true) :
    Calls Tryd.prog 20 args W fun e W' => ∃ v, e = .returned v ∧ Rows.parseMoreSpec.post enc Tryd.prog Tryd.f20 false true false false W args v W' := by
  have hW' := hW
  obtain ⟨p, q, hA0, hV, rfl, hfz, hnd⟩ := hW
  have hA : DataW.TrodAll enc Tryd.prog W 0 (fun _ => true) true Tryd.f20.params.toList args.toList ds p := hA0
  rw [Tryd.params20] at hA hval hsz
  obtain ⟨v0, vs0, d0, ds0, p0, q0, hargs, rfl, rfl, h0, r0⟩ := trodAll_cons hA
  obtain ⟨v1, vs1, d1, ds1, p1, q1, rfl, rfl, rfl, h1, r1⟩ := trodAll_cons r0
  obtain ⟨v2, vs2, d2, ds2, p2, q2, rfl, rfl, rfl, h2, r2⟩ := trodAll_cons r1
  obtain ⟨v3, vs3, d3, ds3, p3, q3, rfl, rfl, rfl, h3, r3⟩ := trodAll_cons r2
  obtain ⟨rfl, rfl, rfl⟩ := trodAll_nil r3
  obtain rfl : args = #[v0, v1, v2, v3] := by cases args; simp_all
  obtain ⟨rfl, rfl⟩ := trodVars_none hV
  obtain ⟨a0, rfl, rfl, rfl, w0⟩ := Go.ChangeMaps.open_string Tryd.underlying9 (hval 0 9 v0 rfl rfl) h0
  have z0 : a0.size ≤ 140737488351232 := string_size hsz 0 rfl rfl
  obtain ⟨a1, rfl, rfl, rfl, w1⟩ := open_int Tryd.underlying3 (hval 1 3 v1 rfl rfl) h1
  obtain ⟨a2, rfl, rfl, rfl⟩ := open_bool Tryd.underlying4 (hval 2 4 v2 rfl rfl) h2
  obtain ⟨a3, rfl, rfl, rfl⟩ := open_bool Tryd.underlying4 (hval 3 4 v3 rfl rfl) h3
  clear hA0
  refine (parseMore_walk a0 a1 a2 a3 W z0 (bounds_i64 w1) (GL_of_laid hL)).mono fun e W' ⟨he, hg⟩ => ?_
  subst he
  exact ⟨_, rfl, law_post (tb := 4) (by kernel_rfl) (by kernel_rfl) rfl Tryd.underlying4 rfl ⟨rfl, rfl, rfl⟩ hW' hg⟩

theorem parseMore_reads (os : Os) {H : Type} (enc : TypeId × Value → H) : ∃ places, DataW.whole enc Tryd.prog ((laidWorldL os).forCall (fun _ _ => 0) ⟨#[], #[.string ⟨#[]⟩, .int .i64 0, .bool false, .bool false], []⟩).memory Tryd.f20.params.toList Rows.parseMoreSpec.vars false (#[.string ⟨#[]⟩, .int .i64 0, .bool false, .bool false] : Array Value).toList 8 = some ([.lit (.string []), .lit (.int .i64 0), .lit (.bool false), .lit (.bool false)], [], places) :=
  ⟨[], by kernel_rfl⟩
set_option maxRecDepth 100000 in
theorem parseMore_lifted (os : Os) (started : os.Started) (H : Type) (enc : TypeId × Value → H) (F : Stop.Interp) :
    ReturnsInHanded {} Tryd.checked os 20 .any ((OpenSpec.ofChange Rows.parseMoreSpec).preRow enc Tryd.prog Tryd.f20 Rows.parseMoreRow.domain false Rows.parseMoreRow.laid) (((OpenSpec.ofChange Rows.parseMoreSpec).at F).post enc Tryd.prog Tryd.f20 false true false false) := by
  obtain ⟨places, hx⟩ := parseMore_reads os enc
  refine returnsInHanded_of_row (C := Tryd.checked) (s := OpenSpec.ofChange Rows.parseMoreSpec) own started (by kernel_rfl) Tryd.func20
    (witness_row_atRef (enc := enc) (C := Tryd.checked) false (laidWorldL os) #[.string ⟨#[]⟩, .int .i64 0, .bool false, .bool false] rfl (by kernel_rfl) (by kernel_rfl) (by kernel_rfl)
      (OpenSpec.preRow_of_cond 8 hx (by kernel_rfl) (fun k hk => by cases hk) (by kernel_rfl) (metL os _))) ?_
  intro W base args ds gs before hval hW _ hcond hsz hL _ _
  exact parseMore_contract H enc W base args ds gs before hval hW hL hsz

theorem parseMore_said : Rows.ParseMoreSaid :=
  OpenClaim.holds_of_cond 20 Tryd.f20 rfl rfl rfl rfl rfl rfl rfl ⟨rfl, rfl, rfl, rfl, rfl⟩ rfl rfl rfl rfl rfl (by as_aux_lemma => kernel_rfl) Tryd.func20 parseMore_closed
    (of_decide_eq_true (by as_aux_lemma => kernel_rfl)) (by unfold Func.isWrapper; first | (rw [if_pos (by decide +kernel)]; kernel_rfl) | (rw [if_neg (by decide +kernel)]; exact ⟨rfl, rfl⟩))
    (fun os started H enc _ F => by rw [OpenClaim.pre_eq_preRow]; exact parseMore_lifted os started H enc F)

set_option maxRecDepth 100000 in
theorem parseMore_plain (f : FuncId) (fn : Func) (hf : Tryd.pinned.checked.prog.funcNamed Rows.parseMoreRow.func = some f) (hfn : Tryd.pinned.checked.prog.funcs[f]? = some fn) :
    true = Tryd.pinned.checked.prog.looks [] ∧ ∀ (j : Nat) t, fn.params[j]? = some t → Tryd.pinned.checked.prog.wantsStandIn t = false := by
  obtain rfl : f = 20 := (Option.some.inj ((show Tryd.prog.funcNamed Rows.parseMoreRow.func = some 20 by kernel_rfl).symm.trans hf)).symm
  obtain rfl : fn = Tryd.f20 := (Option.some.inj (Tryd.func20.symm.trans hfn)).symm
  refine ⟨by kernel_rfl, fun j t ht => ?_⟩
  have hall : Tryd.f20.params.all (fun t => !Tryd.prog.wantsStandIn t) = true := by kernel_rfl
  have h1 : (!Tryd.prog.wantsStandIn t) = true := Array.all_eq_true_iff_forall_mem.1 hall t (Array.mem_of_getElem? ht)
  show Tryd.prog.wantsStandIn t = false
  simpa using h1



end Go.Proofs.YtafgincpoahefaaDoor
