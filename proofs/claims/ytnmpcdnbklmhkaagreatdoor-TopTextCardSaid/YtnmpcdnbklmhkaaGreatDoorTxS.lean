/-
 straggletop.TopText: true of any arguments. Conditions: none (the row lists the library's tables and errors, lex's and print's tables that its road reads, as the program's text lays them).
-/
import Derived.Test.YtnmpcdnbklmhkaaGreatDoorQBr
import Derived.Test.YtnmpcdnbklmhkaaGreatDoorTxF
import Derived.Test.YtnmpcdnbklmhkaaGreatDoorLaidT
import Derived.Test.YtnmpcdnbklmhkaaGreatDoorQAd
import Derived.OpenShut
namespace Go.Proofs.YtnmpcdnbklmhkaaGreatDoor
set_option maxRecDepth 100000
open Go.ChangeShapes Go.WideShapes Go.ChangeAt Go.RowKit
set_option linter.unusedVariables false
theorem E7 (H:Type) (enc:TypeId×Value→H) (W:World) (base:Nat) (args:Array Value) (ds gs:List (DataW H)) (before:List MemPlace)
  (hval:∀(j:Nat) t v,Tryz.f3.params[j]?=some t→args[j]?=some v→Value.okWide Tryz.prog W .any base t v)
  (hW:DataW.Whole enc Tryz.prog Tryz.f3.params.toList Rows.topTextSpec.vars false W args.toList ds gs before) (hL:laidMetH Tryz.prog Rows.topTextRow.laid W)
  (hsz:(DataW.weightsEach Tryz.prog (Tryz.f3.params.toList++(OpenSpec.ofChange Rows.topTextSpec).bare.plain.varTypes Tryz.prog) (ds++gs)).all (·≤reachBytes)=true):
  Calls Tryz.prog 3 args W fun e f=>∃v,e= .returned v∧Rows.topTextSpec.post enc Tryz.prog Tryz.f3 false true false false W args v f:=by
 have c:=hW;obtain⟨p,q,a,m,rfl,g,h⟩:=hW;have d:DataW.TrodAll enc Tryz.prog W 0 (fun _=>true) true Tryz.f3.params.toList args.toList ds p:=a;rw[Tryz.params3]at d hval hsz;obtain⟨v0,i,r,l,u,s,b,rfl,rfl,k,r0⟩:=trodAll_cons d;obtain⟨rfl,rfl,rfl⟩:=trodAll_nil r0;obtain rfl:args=#[v0]:=by cases args;simp_all
 obtain⟨rfl,rfl⟩:=trodVars_none m;obtain⟨a0,rfl,rfl,rfl,o⟩:=Go.ChangeMaps.open_string Tryz.underlying9 (hval 0 9 v0 rfl rfl) k;have z0:a0.size≤140737488351232:=Mv hsz 0 rfl rfl;clear a;refine(KK a0 W z0 (Qp hL)).mono fun e f ⟨he,hg⟩=>?_;subst he;exact⟨_,rfl,Ux (y:=4) (by kernel_rfl) (by kernel_rfl) rfl Tryz.underlying4 rfl ⟨rfl,rfl,rfl⟩ c hg⟩
theorem IV (os:Os) {H:Type} (enc:TypeId×Value→H):∃places,DataW.whole enc Tryz.prog ((DY os).forCall (fun _ _=>0) ⟨#[],#[.string ⟨#[]⟩],[]⟩).memory Tryz.f3.params.toList Rows.topTextSpec.vars false (#[.string ⟨#[]⟩]:Array Value).toList 8=some ([.lit (.string [])],[],places):=
 ⟨[],by kernel_rfl⟩
theorem GQ (os:Os) (started:os.Started) (H:Type) (enc:TypeId×Value→H) (F:Stop.Interp):
  ReturnsInHanded {} Tryz.checked os 3 .any ((OpenSpec.ofChange Rows.topTextSpec).preRow enc Tryz.prog Tryz.f3 Rows.topTextRow.domain false Rows.topTextRow.laid) (((OpenSpec.ofChange Rows.topTextSpec).at F).post enc Tryz.prog Tryz.f3 false true false false):=by
 obtain⟨c,g⟩:=IV os enc;refine returnsInHanded_of_row (C:=Tryz.checked) (s:=OpenSpec.ofChange Rows.topTextSpec) own started (by kernel_rfl) Tryz.func3
  (witness_row_atRef (enc:=enc) (C:=Tryz.checked) false (DY os) #[.string ⟨#[]⟩] rfl (by kernel_rfl) (by kernel_rfl) (by kernel_rfl)
   (OpenSpec.preRow_of_cond 8 g (by kernel_rfl) (fun k j=>by cases j) (by kernel_rfl) (metT os _))) ?_
 intro W base args i f a b l _ d e h _ _;exact E7 H enc W base args i f a b l h e
theorem KL:Rows.TopTextSaid:=
 OpenClaim.holds_of_cond 3 Tryz.f3 rfl rfl rfl rfl rfl rfl rfl ⟨rfl,rfl,rfl,rfl,rfl⟩ rfl rfl rfl rfl rfl (by as_aux_lemma=>kernel_rfl) Tryz.func3 GS
  (of_decide_eq_true (by as_aux_lemma=>kernel_rfl)) (by unfold Func.isWrapper;first|(rw[if_pos (by decide+kernel)];kernel_rfl)|(rw[if_neg (by decide+kernel)];exact⟨rfl,rfl⟩))
  (fun b a H enc _ F=>by rw[OpenClaim.pre_eq_preRow];exact GQ b a H enc F)
theorem IW (f:FuncId) (fn:Func) (hf:Tryz.pinned.checked.prog.funcNamed Rows.topTextRow.func=some f) (hfn:Tryz.pinned.checked.prog.funcs[f]?=some fn):
  true=Tryz.pinned.checked.prog.looks []∧∀(j:Nat) t,fn.params[j]?=some t→Tryz.pinned.checked.prog.wantsStandIn t=false:=by
 obtain rfl:f=3:=(Option.some.inj ((show Tryz.prog.funcNamed Rows.topTextRow.func=some 3 by kernel_rfl).symm.trans hf)).symm;obtain rfl:fn=Tryz.f3:=(Option.some.inj (Tryz.func3.symm.trans hfn)).symm;refine⟨by kernel_rfl,fun j t ht=>?_⟩;have a:Tryz.f3.params.all (fun t=>!Tryz.prog.wantsStandIn t)=true:=by kernel_rfl
 have b:(!Tryz.prog.wantsStandIn t)=true:=Array.all_eq_true_iff_forall_mem.1 a t (Array.mem_of_getElem? ht);show Tryz.prog.wantsStandIn t=false;simpa using b
end Go.Proofs.YtnmpcdnbklmhkaaGreatDoor
