/-
 What the row of straggletop.TopText lists: a world that holds it; what a walk has of it.
-/
import Derived.Test.YtnmpcdnbklmhkaaGreatDoorLaidN
import Derived.Test.YtnmpcdnbklmhkaaGreatDoorQAj
import Derived.Test.YtnmpcdnbklmhkaaGreatDoorQAl
namespace Go.Proofs.YtnmpcdnbklmhkaaGreatDoor
set_option maxRecDepth 100000
open Go.ChangeShapes Go.WideShapes Go.ChangeAt Go.RowKit
theorem Qi {s:ByteArray} {l:List UInt8} (h:s.data.toList=l):s=⟨l.toArray⟩:=by rw[←h,Lib.mk_data]
def G0 {H:Type} (ls:List (List UInt8)):DataW H:= .agg (ls.map fun l=>.lit (.string l))
theorem Jv {H:Type} {enc:TypeId×Value→H} {P:Program} {w:World} {base:Nat} {sp:Nat→Bool} {held:Bool} {fuel:Nat} {t e:TypeId} {n:Nat} {cs:List Value} {ls:List (List UInt8)} {p:List MemPlace}
  (ht:P.underlying t=some (.array n e)) (he:P.underlying e=some .string) (hce:P.cellsOf e=1) (hct:P.cellsOf t=n)
  (h:DataW.trod enc P w base sp held fuel t cs=some (G0 ls,p)):cs=ls.map fun l=>Value.string ⟨l.toArray⟩:=by
 cases fuel with
 |zero=>simp[DataW.trod]at h
 |succ fuel=>
   simp only[DataW.trod,ht,hce,hct,Nat.mul_one]at h;split at h
   ·rename_i hl;obtain⟨xs,g,q⟩:=Option.map_eq_some_iff.1 h;have a:xs.map (·.1)=ls.map fun l=>(DataW.lit (.string l):DataW H):=by
     have:=congrArg Prod.fst q;simpa[G0]using this
    have k:xs.length=n:=by simpa using Lib.mapM_length g
    have m:ls.length=n:=by
     have:=congrArg List.length a;simp at this;omega
    apply List.ext_getElem?;intro i;by_cases hi:i<n
    ·obtain⟨b,j,hf⟩:=Lib.mapM_at g i i (by simp[hi]);obtain⟨z,o,rfl,_⟩:=DataW.trod_string he hf;have r:cs[i]?=some (.string z):=by
      have:=congrArg (·[0]?) o;simpa[List.getElem?_take,List.getElem?_drop]using this
     have d:(xs.map (·.1))[i]?=some (DataW.lit (.string z.data.toList):DataW H):=by simp[j]
     rw[a]at d;simp only[List.getElem?_map,Option.map_eq_some_iff,DataW.lit.injEq,Lit.string.injEq]at d;obtain⟨s,f,c⟩:=d;rw[r,List.getElem?_map,f,Option.map_some,Qi c.symm]
    ·rw[List.getElem?_eq_none (by omega),List.getElem?_eq_none (by simp;omega)]
   ·cases h
theorem Bn {P:Program} {W:World} {name:String} {ls:List (List UInt8)} {rest:List (String×DataW Unit)} {g:Nat} {t e:TypeId} {n:Nat}
  (hg:P.globalNamed name=some g) (hty:(P.globals[g]?).map (·.type)=some t) (ht:P.underlying t=some (.array n e)) (he:P.underlying e=some .string) (hce:P.cellsOf e=1) (hct:P.cellsOf t=n)
  (h:laidMet P ((name,G0 ls)::rest) W):W.var? P name=some (strs ls):=by
 obtain⟨ps,⟨i,j,cs,d,p,q,c,b,a,f,_,_⟩,_⟩:=h;obtain rfl:=Option.some.inj (hg.symm.trans c);obtain rfl:=Option.some.inj (hty.symm.trans b);rw[a];have:=Jv ht he hce hct f;congr 1;unfold strs;rw[←this]
noncomputable def DY (os:Os):World:=
 {J5 os with heap:=setRow (setRow (setRow (J5 os).heap 0 #[.string ⟨#[]⟩,.string ⟨#[60]⟩,.string ⟨#[60,61]⟩,.string ⟨#[61]⟩,.string ⟨#[33,61]⟩,.string ⟨#[62]⟩,.string ⟨#[62,61]⟩]) 2 #[.string ⟨#[]⟩,.string ⟨#[60]⟩,.string ⟨#[60,61]⟩,.string ⟨#[61]⟩,.string ⟨#[33,61]⟩,.string ⟨#[62]⟩,.string ⟨#[62,61]⟩]) 1 #[.string ⟨#[]⟩,.string ⟨#[116]⟩,.string ⟨#[120]⟩,.string ⟨#[121]⟩,.string ⟨#[110]⟩,.string ⟨#[100]⟩,.string ⟨#[99]⟩]}
theorem UR:(Tryz.prog.globals[0]?).map (·.type)=some 181:=by kernel_rfl
theorem Tl:(Tryz.prog.globals[2]?).map (·.type)=some 181:=by kernel_rfl
theorem PU:(Tryz.prog.globals[1]?).map (·.type)=some 181:=by kernel_rfl
theorem metT (os:Os) (args:Array Value):laidMet Tryz.prog Rows.topTextRow.laid ((DY os).forCall (fun _ _=>0) ⟨#[],args,[]⟩).memory:=
 laidMet_of_run' 8 (by kernel_rfl) (by kernel_rfl)
theorem Qp {W:World} (h0:laidMetH Tryz.prog Rows.topTextRow.laid W):GL W∧GP W:=by
 have h:laidMet Tryz.prog Rows.topTextRow.laid W:=h0;have f:=laidMet.tail (laidMet.tail h);have i:=laidMet.tail (laidMet.tail (laidMet.tail f));have g:=laidMet.tail i;have k:=laidMet.tail g;have hp:Lib.TabIs Tryz.prog W "internal/strconv.uint64pow10" .u64 Lib.pow10Tab:=Lib.tabIs_of_head gPow UO Tryz.underlying250 Tryz.underlying205 (by kernel_rfl) (by kernel_rfl) f;refine⟨⟨⟨hp,?_⟩,?_⟩,hp,?_,?_⟩
 ·obtain⟨a,b,q,r,l,p,m,tb,o,hS,_,_,_,_,_,_,d,c,e⟩:=laid_sentinels2 (laidMet.tail f) PS (by kernel_rfl) QP (by kernel_rfl) Tryz.underlying66 (tp:=360) (fun u j=>typeName_ptr_named (nm:= "errors.errorString") (by kernel_rfl) (by kernel_rfl) (by decide) u (j.trans (congrArg some (by decide)))) Tryz.underlying360 Tryz.underlying362 rfl rfl Tryz.underlying9 (by kernel_rfl) (by kernel_rfl);exact⟨a,b,l,p,m,tb,o,hS,d.symm,c,e⟩
 ·exact Bn (ls:=(List.range 7).map qJ) gOps UR Tryz.underlying181 Tryz.underlying9 (by kernel_rfl) (by kernel_rfl) i
 ·exact Bn (ls:=(List.range 7).map qJ) UQ Tl Tryz.underlying181 Tryz.underlying9 (by kernel_rfl) (by kernel_rfl) g
 ·exact Bn (ls:=(List.range 7).map yX) PV PU Tryz.underlying181 Tryz.underlying9 (by kernel_rfl) (by kernel_rfl) k
end Go.Proofs.YtnmpcdnbklmhkaaGreatDoor
