import Derived.Test.YtnmpcdnbklmhkaaGreatDoorQAa
import Derived.LaidEql
import Derived.Stop.Asserts
import Derived.RowKitTokens
import Derived.Outline
import Derived.OwnWalk
import Derived.Test.YtnmpcdnbklmhkaaGreatDoorQAe
import Derived.Lib.ParseIntBTie
import Derived.Laws.RangeString
import Derived.Laws.RangeAny
namespace Go.Proofs.YtnmpcdnbklmhkaaGreatDoor
open Go.Proofs.Tryz Go.RowKit
set_option maxRecDepth 100000
set_option maxHeartbeats 8000000
section
open Go.Extern.Stop Go.Stop Go.Extern
theorem Ns (v:Value) (w:World):(Extern.ReflectliteType.typeOf #[.iface 360 v]).run prog w= .ok (.iface 281 (.agg #[Vp 10 360])) w:=by kernel_rfl
theorem EM (w:World):((Extern.ReflectliteType.method fun t=>do Go.Extern.Rtype.noPackHeld "Comparable" t;(fun a=>Value.bool a.comparable)<$>typeInfo t) #[.agg #[Vp 10 360]]).run prog w= .ok (Vb true) w:=by kernel_rfl
theorem Aa (v:Value) (w:World):(Go.method 590 281 v "Comparable").run prog w= .ok (429,v) w:=by kernel_rfl
theorem EG (v:Value) (w:World):(Go.method 590 277 v "Unwrap").run prog w= .ok (425,v) w:=by kernel_rfl
theorem UE:(prog.info? 360).map (·.comparable)=some true:=by kernel_rfl
theorem UC:(prog.info? 362).map (·.size)=some 1:=by kernel_rfl
theorem noIsE (v:Value) (a:TypeId) (w:World):(Instr.typeAssert (.iface 360 v) a 283 true).run prog w= .ok (.tuple #[.nilIface,Vb false]) w:=run_typeAssert_lacksB underlying283 (by kernel_rfl) (by kernel_rfl) v a w
theorem JY (v:Value) (a:TypeId) (w:World):(Instr.typeAssert (.iface 360 v) a 286 true).run prog w= .ok (.tuple #[.nilIface,Vb false]) w:=run_typeAssert_lacksB underlying286 (by kernel_rfl) (by kernel_rfl) v a w
theorem Ht (v:Value) (a:TypeId) (w:World):(Instr.typeAssert (.iface 360 v) a 288 true).run prog w= .ok (.tuple #[.nilIface,Vb false]) w:=run_typeAssert_lacksB underlying288 (by kernel_rfl) (by kernel_rfl) v a w
theorem noIsW (v:Value) (a:TypeId) (w:World):(Instr.typeAssert (.iface 277 v) a 283 true).run prog w= .ok (.tuple #[.nilIface,Vb false]) w:=run_typeAssert_lacksB underlying283 (by kernel_rfl) (by kernel_rfl) v a w
theorem Io (v:Value) (a:TypeId) (w:World):(Instr.typeAssert (.iface 277 v) a 286 true).run prog w= .ok (.tuple #[.iface 277 v,Vb true]) w:=run_typeAssert_hasB underlying286 (by kernel_rfl) v a w
theorem is_nil (b:Addr) (w:World):
  Cs 137 #[.nilIface,.iface 360 (.pointer (some b))] w fun e w'=>e=Rt (Vb false)∧w=w':=by
 have a:=run_eql_iface_nil_left (P:=prog) w 360 (.pointer (some b)) underlying66;go_enter func137,ntmps137;go_wp2;go_ret;exact⟨rfl,rfl⟩
theorem LJ (n:Nat) (b:Addr) (w:World) (z:w.cell? ⟨n,2,none⟩=some (.iface 360 (.pointer (some b)))):
  Cs 137 #[.iface 277 (Vp n 0),.iface 360 (.pointer (some b))] w fun e w'=>e=Rt (Vb true)∧w=w':=by
 obtain⟨i,x,a⟩:=Option.map_eq_some_iff.1 UE;obtain⟨j,y,c⟩:=Option.map_eq_some_iff.1 UC;have r:= @run_callFunc_extern prog 171 _ Extern.ReflectliteType.typeOf func171 rfl rfl rfl rfl;have g:= @run_callFunc_extern prog 429 _ (Extern.ReflectliteType.method fun t=>do Go.Extern.Rtype.noPackHeld "Comparable" t;pure (Vb (<-typeInfo t).comparable)) func429 rfl rfl rfl rfl;have m:=Ns;have l:=EM;have p:=Aa;have h:=noIsE;have s:=JY;have q:=Ht;have k:=noIsW;have u:=Io;have o:=EG;have d:=run_eql_iface_ptr_same (P:=prog) w b underlying66 underlying360 x a y;have f:=run_eql_iface_types (P:=prog) 277 360 (Vp n 0) (.pointer (some b)) underlying66 (by decide) w;go_enter func137,ntmps137;go_wp2;refine wp_loop_rounds 2 ?_;rw[rounds_succ];go_wp2;rw[rounds_succ];go_wp2;go_ret;exact⟨rfl,rfl⟩
theorem Jf (n:Nat) (b a:Addr) (x y:Array Value) (E F:TypeId) (w:World) (H:w.cell? ⟨n,2,none⟩=some (.iface 360 (.pointer (some a)))) (D:a≠b) (z:w.1[a.block]?=some (.cells x E (0,0))) (A:w.1[b.block]?=some (.cells y F (0,0))):
  Cs 137 #[.iface 277 (Vp n 0),.iface 360 (.pointer (some b))] w fun e w'=>e= .returned (.bool false)∧w=w':=by
 obtain⟨i,B,c⟩:=Option.map_eq_some_iff.1 UE;obtain⟨j,C,d⟩:=Option.map_eq_some_iff.1 UC;have s:= @run_callFunc_extern prog 171 _ Extern.ReflectliteType.typeOf func171 rfl rfl rfl rfl;have h:= @run_callFunc_extern prog 429 _ (Extern.ReflectliteType.method fun t=>do Go.Extern.Rtype.noPackHeld "Comparable" t;pure (.bool (<-typeInfo t).comparable)) func429 rfl rfl rfl rfl;have o:=Ns;have m:=EM;have q:=Aa;have k:=noIsE;have u:=JY;have r:=Ht;have l:=noIsW;have v:=Io;have p:=EG;have f:=run_eql_iface_ptr_other (P:=prog) w underlying66 underlying360 B c C (by rw[d];decide) D z A;have g:=run_eql_iface_types (P:=prog) 277 360 (Vp n 0) (.pointer (some b)) underlying66 (by decide) w;go_enter func137,ntmps137;go_wp2;refine wp_loop_rounds 2 ?_;rw[rounds_succ];go_wp2;rw[rounds_succ];go_wp2;go_ret;exact⟨rfl,rfl⟩
end
section
open Go.Shelf
def digB (c:UInt8):Bool:=decide (48<=c.toNat∧c.toNat<=57)
def okB (c:UInt8) (i:Nat):Bool:=digB c||(decide (c.toNat=45)&&decide (i=0))
def EN:List UInt8->Bool
 |[]=>true
 |c::l=>okB c 0&&l.all digB
theorem Kj (l:List UInt8):EN l=true↔∀i (h:i<l.length),okB l[i] i=true:=by
 cases l with
 |nil=>simp[EN]
 |cons c l=>
   simp only[EN,jJ,List.all_eq_true];constructor
   ·rintro⟨d,a⟩ i h;cases i with
    |zero=>exact d
    |succ i=>
      have e:i<l.length:=by simpa using h
      have:=a l[i] (dI e);simp[okB,this]
   ·intro h;refine⟨h 0 (by simp),fun c b=>?_⟩;obtain⟨i,e,rfl⟩:=List.getElem_of_mem b;have:=h (i+1) (by simp;omega);simpa[okB]using this
theorem QE (c:UInt8) (i:Nat) (h:(48<=(c.toNat:Int)∧(c.toNat:Int)<=57)∨((c.toNat:Int)=45∧i=0)):okB c i=true:=by
 unfold okB digB;rcases h with h|h
 ·simp only[Bool.or_eq_true,decide_eq_true_eq];left;omega
 ·simp only[Bool.or_eq_true,jJ,decide_eq_true_eq];right;omega
theorem Um (c:UInt8) (i:Nat) (h:¬((48<=(c.toNat:Int)∧(c.toNat:Int)<=57)∨((c.toNat:Int)=45∧i=0))):okB c i=false:=by
 unfold okB digB;simp only[Bool.or_eq_false_iff,Bool.and_eq_false_iff,decide_eq_false_iff_not];omega
def readOf (l:List UInt8):Int×Int:=
 if EN l=true then
  match Lib.parseIntB 64 l with
  |.ok v=>if Lib.itoa v=l then (v,0)else (0,11)
  |.range=>if Lib.hasPrefix (Lib.trimPrefix l [45]) [48]=true then (0,11)else (0,12)
  |_=>(0,11)
 else (0,11)
theorem OW (l:List UInt8) (k:Nat) (h:k<l.length) (a:okB l[k] k=false):readOf l=(0,11):=by
 unfold readOf;rw[if_neg];intro c;have:=(Kj l).1 c k h;rw[a]at this;cases this
theorem IF (s:ByteArray) (k:Nat) (h:k<s.size):s.data.toList[k]'(by simpa using h)=s[k]:=by rw[Array.getElem_toList];rfl
theorem Uo (s:ByteArray) (hs:s.size<=140737488351232) (w:World) (t:G w):
  Cs 105 #[.string s] w fun e w'=>
  e= .returned (.tuple #[Vi (readOf s.data.toList).1,Vi (readOf s.data.toList).2])∧Bz w w':=by
 have l:s.data.toList.length=s.size:=by simp
 have O:=hiD l;clear l;go_enter func105,ntmps105;go_wp2_with fail
 go_loop [4,5,10] (fun _ _ i=>∃k:Nat,k<=s.size∧i=Vi k∧∀j (h:j<k) (q:j<s.data.toList.length),okB s.data.toList[j] j=true) (fun _ _ i=>s.size-(intOf i).toNat)
 case atStart=>exact⟨0,jg _,rfl,fun j h=>absurd h (Nat.not_lt_zero _)⟩
 case round=>
  obtain⟨k,hk,rfl,d⟩:=hrel;by_cases o:k<s.size
  ·have g:okB s[k] k=false->readOf s.data.toList=(0,11):=fun I=>OW _ k (by rw[O.out];exact o) (by rw[IF s k o];exact I);have c:okB s[k] k=true->∀j (h:j<k+1) (q:j<s.data.toList.length),okB s.data.toList[j] j=true:=fun I j h q=>by
    by_cases e:j<k
    ·exact d j e q
    ·obtain rfl:j=k:=by omega
     rw[IF s j o];exact I
   have M:=hiD g;clear g;have P:=hiD c;clear c;have a0:=hiD d;clear d;rcases Nat.eq_zero_or_pos k with B|B
   ·subst B;go_wp2_with fail
    all_goals first
     |(go_ret2;rw[M.out (Um _ _ (by omega))];exact⟨rfl,Below.refl _ _⟩)
     |(exfalso;have r:(!decide (((s[0].toNat:Nat):Int)<=57))=false:=(by assumption);simp at r;omega)
     |(go_round;(case rel=>exact⟨1,by omega,rfl,P.out (QE _ _ (by omega))⟩);(case measure=>simp[intOf];omega))
   ·have a1:((k:Int)==0)=false:=by simp;omega
    go_wp2_with fail
    all_goals first
     |(go_ret2;rw[M.out (Um _ _ (by omega))];exact⟨rfl,Below.refl _ _⟩)
     |(exfalso;have r:(!decide (((s[k].toNat:Nat):Int)<=57))=false:=(by assumption);simp at r;omega)
     |(go_round;(case rel=>exact⟨k+1,by omega,by go_num,P.out (QE _ _ (by omega))⟩);(case measure=>simp[intOf];omega))
  ·have S:EN s.data.toList=true:=(Kj _).2 fun i h=>d i (by rw[O.out]at h;omega) h;have C:=hiD S;clear S d;go_wp2_with fail;obtain⟨x,F,cR,cS,tR,tS,R,V,K,H,L⟩:=t.err;have u:=World.var?_cell PS R 0;rcases hp:Lib.parseIntB 64 s.data.toList with v|_|_
   ·--a number
    have hv:=Lib.parseIntB_bounds hp;refine(Tryz.strconv_ParseInt_10_at64_ok s (by omega) v hp _).mono ?_;rintro e f ⟨rfl,E⟩;have b:Bz w f:=by
     rcases E with rfl|⟨a2,rfl⟩
     ·exact Below.refl _ _
     ·exact Lib.bytesWorld_below _ _ _
    have J:=t.mono b;have m:f.cell? ⟨3,0,none⟩=some (.iface 360 (.pointer (some x))):=qd b nLe u;have p:=hiD hp;clear hp E;go_wp2_with fail;refine(is_nil x _).mono ?_;rintro e z ⟨rfl,rfl⟩;go_wp2_with fail;refine(Tryz.strconv_FormatInt_10 v (by omega) (by omega) _ J.pow).mono ?_;rintro e z ⟨rfl,Z,U,rfl⟩;have y:=b.trans ((Ea f Z U).mono b.size);go_wp2_with fail
    ·have h:(!Lib.itoa v==s.toList)=true:=by assumption
     have q:¬Lib.itoa v=s.data.toList:=by rw[<-Go.ByteArray.toList_eq];simpa using h
     go_ret2;rw[show readOf s.data.toList=(0,11)from by rw[readOf,if_pos C.out,p.out];simp only[];rw[if_neg q]];exact⟨rfl,y⟩
    ·have h:(!Lib.itoa v==s.toList)=false:=by assumption
     have q:Lib.itoa v=s.data.toList:=by rw[<-Go.ByteArray.toList_eq];simpa using h
     go_ret2;rw[show readOf s.data.toList=(v,0)from by rw[readOf,if_pos C.out,p.out];simp only[];rw[if_pos q]];exact⟨rfl,y⟩
   ·--no number
    have Q:Cs 136 #[.string s,Vi 10,Vi 64] w fun e w'=>∃N,e= .returned (.tuple #[Vi (0),.iface 277 (Vp N 0)])∧w.1.size<=N∧w'.1[N]?=some (.cells #[.string ⟨#[80,97,114,115,101,73,110,116]⟩,.string s,.iface 360 (.pointer (some F))] 324 (0,0))∧Bz w w':=
     Any.strconv_ParseInt_10_at64_syntax_var Tryz.laysC174 s (by omega) hp _ _ w V
    have X:=hiD Q;clear Q;refine X.out.mono ?_;rintro e f ⟨N,rfl,T,n,b⟩;have m:f.cell? ⟨3,0,none⟩=some (.iface 360 (.pointer (some x))):=qd b nLe u;have A:=BC b nLe H;have D:=BC b nLe L;have r:f.cell? ⟨N,2,none⟩=some (.iface 360 (.pointer (some F))):=by simp[World.cell?,n]
    have W:=hiD n;clear n;have p:=hiD hp;clear hp;go_wp2_with fail;refine(Jf N x F _ _ _ _ _ r K D A).mono ?_;rintro e z ⟨rfl,rfl⟩;go_wp2_with fail;go_ret2;rw[show readOf s.data.toList=(0,11)from by rw[readOf,if_pos C.out,p.out]];exact⟨rfl,b⟩
   ·--one that is too great
    refine(Tryz.strconv_ParseInt_10_at64_range_var s (by omega) hp _ _ _ R).mono ?_;rintro e f ⟨N,rfl,T,n,b⟩;have m:f.cell? ⟨3,0,none⟩=some (.iface 360 (.pointer (some x))):=qd b nLe u;have r:f.cell? ⟨N,2,none⟩=some (.iface 360 (.pointer (some x))):=by simp[World.cell?,n]
    have W:=hiD n;clear n;have p:=hiD hp;clear hp;go_wp2_with fail;refine(LJ N x _ r).mono ?_;rintro e z ⟨rfl,rfl⟩;go_wp2_with fail;refine(Tryz.strings_TrimPrefix s _ _).mono ?_;rintro e z ⟨rfl,rfl⟩;go_wp2_with fail;refine(Tryz.strings_HasPrefix _ _ _).mono ?_;rintro e z ⟨rfl,rfl⟩;go_wp2_with fail
    ·have h:Lib.hasPrefix (Lib.trimPrefix s.data.toList [45]) [48]=true:=by assumption
     go_ret2;rw[show readOf s.data.toList=(0,11)from by rw[readOf,if_pos C.out,p.out];simp only[];rw[if_pos h]];exact⟨rfl,b⟩
    ·have h:Lib.hasPrefix (Lib.trimPrefix s.data.toList [45]) [48]=false:=by assumption
     go_ret2;rw[show readOf s.data.toList=(0,12)from by rw[readOf,if_pos C.out,p.out];simp only[];rw[if_neg (by rw[h];decide)]];exact⟨rfl,b⟩
end
section
set_option linter.unusedVariables false
def zj (d:Nat) (l:List UInt8):Nat:=l.foldl (fun a c=>a*10+(c.toNat-48)) d
theorem Ce (a:Nat) (c:UInt8) (l:List UInt8):zj a (c::l)=zj (a*10+(c.toNat-48)) l:=by unfold zj;rw[List.foldl_cons]
theorem DE (a:Nat) (l r:List UInt8):zj a (l++r)=zj (zj a l) r:=List.foldl_append
theorem Fz:∀(l:List UInt8) (a:Nat),a<=zj a l
 |[],a=>Nat.le_refl _
 |c::l,a=>by rw[Ce];have:=Fz l (a*10+(c.toNat-48));omega
theorem jd (c:UInt8):digB c=true↔48<=c.toNat∧c.toNat<=57:=by simp[digB]
theorem Lo (l:List UInt8):∀a:Nat,a<18446744073709551616->l.all digB=true->Lib.parseUint10 a l=if zj a l<18446744073709551616 then .ok (zj a l)else .range:=by
 induction l with
 |nil=>intro a h _;rw[if_pos (show zj a []<_ from h)];rfl
 |cons c l ih=>
   intro a f h;simp only[List.all_cons,jJ,jd]at h;have e:=Fz l (a*10+(c.toNat-48));rw[Lib.parseUint10,if_pos h.1,Ce];by_cases d:1844674407370955162<=a
   ·rw[if_pos d,if_neg (by omega)]
   ·rw[if_neg d];by_cases b:18446744073709551616<=a*10+(c.toNat-48)
    ·rw[if_pos b,if_neg (by omega)]
    ·rw[if_neg b,ih _ (by omega) h.2]
theorem H4 (c:UInt8) (l:List UInt8) (h:(c::l).all digB=true):Lib.parseUintB 64 (c::l)=if zj 0 (c::l)<18446744073709551616 then .ok (zj 0 (c::l))else .range:=by
 rw[Lib.parseUintB_64];unfold Lib.parseMag;rw[if_neg (by simp),Lo _ _ (by decide) h]
def zB (l:List UInt8):Bool:=match l with
 |[]=>false
 |c::r=>digB c&&r.all digB&&(decide (c.toNat≠48)||r.isEmpty)
theorem IG (c:UInt8) (h:48<=c.toNat∧c.toNat<=57):UInt8.ofNat (48+(c.toNat-48))=c:=by
 rw[show 48+(c.toNat-48)=c.toNat from by omega];exact UInt8.ofNat_toNat
theorem AQ (u:Nat):zj 0 (Lib.decDigits u)=u:=by
 induction u using Nat.strongRecOn with
 |_ u ih=>
   rw[Lib.decDigits];split
   ·rename_i h;simp only[zj,List.foldl_cons,List.foldl_nil];rw[UInt8.toNat_ofNat_of_lt' (by show 48+u<256;omega)];omega
   ·rename_i h;rw[DE,ih _ (by omega)];simp only[zj,List.foldl_cons,List.foldl_nil];rw[UInt8.toNat_ofNat_of_lt' (by show 48+u%10<256;omega)];omega
theorem ID (u d:Nat) (c:u≠0) (a:d<10):Lib.decDigits (u*10+d)=Lib.decDigits u++[UInt8.ofNat (48+d)]:=by
 rw[Lib.decDigits,dif_neg (by omega),show (u*10+d)/10=u from by omega,show (u*10+d)%10=d from by omega]
theorem Ly (l:List UInt8) (c:UInt8) (h:zB l=true) (d:l≠[48]) (e:digB c=true):zB (l++[c])=true:=by
 cases l with
 |nil=>simp[zB]at h
 |cons x r=>
   simp only[zB,jJ,Bool.or_eq_true,decide_eq_true_eq,jE,List.all_append,List.all_cons,List.all_nil]at h⊢;refine⟨⟨h.1.1,h.1.2,e,trivial⟩,.inl ?_⟩;rcases h.2 with a|a
   ·exact a
   ·intro b;apply d;obtain rfl:r=[]:=by simpa using a
    obtain rfl:x=48:=by rw[<-UInt8.toNat_inj];exact b
    rfl
theorem yy (u:Nat):zB (Lib.decDigits u)=true∧(u≠0->Lib.decDigits u≠[48]):=by
 induction u using Nat.strongRecOn with
 |_ u ih=>
   have a:u≠0->Lib.decDigits u≠[48]:=by
    intro h c;have:=AQ u;rw[c]at this;simp[zj]at this;omega
   refine⟨?_,a⟩;rw[Lib.decDigits];split
   ·rename_i h;have b:(UInt8.ofNat (48+u)).toNat=48+u:=UInt8.toNat_ofNat_of_lt' (by show 48+u<256;omega);simp only[zB,digB,b];simp;omega
   ·rename_i h;have d:=ih (u/10) (by omega);refine Ly _ _ d.1 (d.2 (by omega)) ?_;have b:(UInt8.ofNat (48+u%10)).toNat=48+u%10:=UInt8.toNat_ofNat_of_lt' (by show 48+u%10<256;omega);simp only[digB,b];simp;omega
theorem Dg (l:List UInt8) (c:UInt8) (e:l≠[]) (h:zB (l++[c])=true):zB l=true∧l≠[48]∧digB c=true:=by
 cases l with
 |nil=>exact absurd rfl e
 |cons x r=>
   simp only[zB,jJ,Bool.or_eq_true,decide_eq_true_eq,jE,List.all_append,List.all_cons,List.all_nil]at h⊢;have d:x.toNat≠48:=by
    rcases h.2 with a|a
    ·exact a
    ·simp at a
   refine⟨⟨⟨h.1.1,h.1.2.1⟩,.inl d⟩,?_,h.1.2.2.1⟩;intro b;injection b with b h4;subst b;exact d rfl
theorem F1 (l:List UInt8) (h:zB l=true) (c:l≠[48]):zj 0 l≠0:=by
 cases l with
 |nil=>simp[zB]at h
 |cons x r=>
   simp only[zB,jJ,Bool.or_eq_true,decide_eq_true_eq,jd]at h;rw[Ce];have:=Fz r (0*10+(x.toNat-48));rcases h.2 with a|a
   ·omega
   ·obtain rfl:r=[]:=by simpa using a
    have:x.toNat≠48:=by
     intro b;apply c;obtain rfl:x=48:=by rw[<-UInt8.toNat_inj];exact b
     rfl
    omega
theorem B8:∀(n:Nat) (l:List UInt8),l.length=n->zB l=true->Lib.decDigits (zj 0 l)=l:=by
 intro n
 induction n with
 |zero=>intro l e h;obtain rfl:=jV e;simp[zB]at h
 |succ n ih=>
   intro l e h;rcases List.eq_nil_or_concat l with rfl|⟨r,c,rfl⟩
   ·simp at e
   ·rw[List.concat_eq_append]at h e⊢;by_cases f:r=[]
    ·subst f;simp only[jD,zB,jJ,jd]at h⊢;simp only[zj,List.foldl_cons,List.foldl_nil];rw[Lib.decDigits_one (by omega)];have:=IG c h.1.1;rw[show 48+(0*10+(c.toNat-48))=48+(c.toNat-48)from by omega,this]
    ·obtain⟨a,d,b⟩:=Dg r c f h;have i:=ih r (by simpa using e) a;rw[DE];rw[jd]at b;have g:=F1 r a d;rw[show zj (zj 0 r) [c]=zj 0 r*10+(c.toNat-48)from rfl,ID _ _ g (by omega),i,IG c b]
theorem As (l:List UInt8) (h:zB l=true):l.all digB=true:=by
 cases l with
 |nil=>rfl
 |cons c r=>simp only[zB,jJ,List.all_cons]at h⊢;exact h.1
theorem Ey (c:UInt8) (r:List UInt8) (h:(c::r).all digB=true):
  readOf (c::r)=if zB (c::r)=true then (if zj 0 (c::r)<9223372036854775808 then ((zj 0 (c::r):Int),0)else (0,12))else (0,11):=by
 have f:48<=c.toNat∧c.toNat<=57:=by
  simp only[List.all_cons,jJ,jd]at h;exact h.1
 have n:r.all digB=true:=by simp only[List.all_cons,jJ]at h;exact h.2
 have o:EN (c::r)=true:=by
  simp only[EN,okB,jJ,Bool.or_eq_true,jd];exact⟨.inl f,n⟩
 have d:zB (c::r)=true↔(c.toNat≠48∨r=[]):=by
  simp only[zB,jJ,Bool.or_eq_true,decide_eq_true_eq,jd,List.isEmpty_iff];constructor
  ·exact fun h=>h.2
  ·exact fun h=>⟨⟨f,n⟩,h⟩
 have e:Lib.trimPrefix (c::r) [45]=c::r:=by
  unfold Lib.trimPrefix Lib.hasPrefix;rw[if_neg];simp only[List.isPrefixOf,Bool.and_true,beq_iff_eq];intro k;rw[<-k]at f;exact absurd f (by decide)
 have b:Lib.hasPrefix (c::r) [48]=true↔c.toNat=48:=by
  unfold Lib.hasPrefix;simp only[List.isPrefixOf,Bool.and_true,beq_iff_eq];constructor
  ·rintro rfl;rfl
  ·intro k;rw[<-UInt8.toNat_inj];exact k.symm
 unfold readOf;rw[if_pos o];have j:Lib.parseIntB 64 (c::r)=if zj 0 (c::r)<9223372036854775808 then .ok (zj 0 (c::r):Int)else .range:=by
  rw[Lib.parseIntB_plain 64 c r (by omega) (by omega),H4 c r h,show (2:Nat)^(64-1)=9223372036854775808 from by decide];by_cases l:zj 0 (c::r)<18446744073709551616
  ·rw[if_pos l];simp only[Lib.signlessC];by_cases a:zj 0 (c::r)<9223372036854775808
   ·rw[if_neg (by omega),if_pos a]
   ·rw[if_pos (by omega),if_neg a]
  ·rw[if_neg l,if_neg (by omega)];rfl
 rw[j];by_cases a:zj 0 (c::r)<9223372036854775808
 ·rw[if_pos a];simp only;rw[Lib.itoa_nonneg];by_cases m:zB (c::r)=true
  ·rw[if_pos (B8 _ _ rfl m),if_pos m,if_pos a]
  ·rw[if_neg m,if_neg];intro i;apply m;rw[<-i];exact(yy _).1
 ·rw[if_neg a];simp only;rw[e];by_cases m:zB (c::r)=true
  ·rw[if_pos m,if_neg a,if_neg];rw[b];intro i;rcases d.1 m with g|g
   ·exact g i
   ·subst g;simp only[zj,List.foldl_cons,List.foldl_nil]at a;omega
  ·rw[if_neg m,if_pos];rw[b];rw[d]at m;exact Decidable.byContradiction fun h=>m (.inl h)
theorem Lh (r:List UInt8) (h:r.all digB=true):
  readOf (45::r)=if zB r=true∧r≠[48]then (if zj 0 r<=9223372036854775808 then (-(zj 0 r:Int),0)else (0,12))else (0,11):=by
 have p:EN (45::r)=true:=by
  simp only[EN,jJ];exact⟨by decide,h⟩
 unfold readOf;rw[if_pos p];cases r with
 |nil=>rw[if_neg (show ¬(zB []=true∧([]:List UInt8)≠[48]) by decide)];rfl
 |cons c r=>
   have o:48<=c.toNat∧c.toNat<=57:=by
    simp only[List.all_cons,jJ,jd]at h;exact h.1
   have q:r.all digB=true:=by simp only[List.all_cons,jJ]at h;exact h.2
   have a:(zB (c::r)=true∧c::r≠[48])↔c.toNat≠48:=by
    simp only[zB,jJ,Bool.or_eq_true,decide_eq_true_eq,jd,List.isEmpty_iff];constructor
    ·rintro⟨⟨_,e|e⟩,d⟩
     ·exact e
     ·subst e;intro b;apply d;obtain rfl:c=48:=by rw[<-UInt8.toNat_inj];exact b
      rfl
    ·intro e;refine⟨⟨⟨o,q⟩,.inl e⟩,fun d=>?_⟩;injection d with d b;subst d;exact e rfl
   have i:Lib.trimPrefix (45::c::r) [45]=c::r:=by
    unfold Lib.trimPrefix Lib.hasPrefix;rw[if_pos (by simp[List.isPrefixOf])];rfl
   have g:Lib.hasPrefix (c::r) [48]=true↔c.toNat=48:=by
    unfold Lib.hasPrefix;simp only[List.isPrefixOf,Bool.and_true,beq_iff_eq];constructor
    ·rintro rfl;rfl
    ·intro j;rw[<-UInt8.toNat_inj];exact j.symm
   have l:Lib.parseIntB 64 (45::c::r)=if zj 0 (c::r)<=9223372036854775808 then .ok (-(zj 0 (c::r):Int))else .range:=by
    rw[Lib.parseIntB_minus,H4 c r h,show (2:Nat)^(64-1)=9223372036854775808 from by decide];by_cases e:zj 0 (c::r)<18446744073709551616
    ·rw[if_pos e];simp only[Lib.signedC];by_cases d:zj 0 (c::r)<=9223372036854775808
     ·rw[if_neg (by omega),if_pos d]
     ·rw[if_pos (by omega),if_neg d]
    ·rw[if_neg e,if_neg (by omega)];rfl
   rw[l];by_cases d:zj 0 (c::r)<=9223372036854775808
   ·rw[if_pos d];simp only;by_cases n:c.toNat≠48
    ·have f:=a.2 n;have s:=F1 _ f.1 f.2;rw[Lib.itoa_neg _ (by omega),B8 _ _ rfl f.1,if_pos rfl,if_pos f,if_pos d]
    ·rw[if_neg (fun j=>n (a.1 j)),if_neg];intro b;by_cases m:zj 0 (c::r)=0
     ·rw[m]at b;revert b;rw[show Lib.itoa (-((0:Nat):Int))=[48]from by rw[show (-((0:Nat):Int))=((0:Nat):Int)from by omega,Lib.itoa_nonneg,Lib.decDigits_one (by omega)];rfl];intro b;injection b with b h5;exact absurd b (by decide)
     ·rw[Lib.itoa_neg _ (by omega)]at b;injection b with _ b;have k:=yy (zj 0 (c::r));rw[b]at k;exact n (a.1 ⟨k.1,k.2 m⟩)
   ·rw[if_neg d];simp only;rw[i];by_cases n:c.toNat≠48
    ·rw[if_neg (by rw[g];exact n),if_pos (a.2 n),if_neg d]
    ·rw[if_pos (by rw[g];omega),if_neg (fun j=>n (a.1 j))]
theorem OV:readOf []=(0,11):=rfl
theorem MR (l:List UInt8) (m:Int) (h:readOf l=(m,0)):Lib.itoa m=l:=by
 unfold readOf at h;split at h
 ·split at h
  ·split at h
   ·rename_i a;injection h with h3 h4;subst h3;exact a
   ·cases h
  ·split at h<;>cases h
  ·cases h
 ·cases h
theorem Lg (l:List UInt8):-9223372036854775808<=(readOf l).1∧(readOf l).1<=9223372036854775807:=by
 unfold readOf;split
 ·split
  ·rename_i v a;have:=Lib.parseIntB_bounds a;split<;>simp<;>omega
  ·split<;>simp
  ·simp
 ·simp
theorem MQ (a:Int) (h:-9223372036854775808<=a∧a<=9223372036854775807):readOf (Lib.itoa a)=(a,0):=by
 by_cases b:a<0
 ·obtain⟨u,rfl⟩:∃u:Nat,a=-(u:Int):=⟨a.natAbs,by omega⟩;rw[Lib.itoa_neg u (by omega)];have d:=yy u;rw[Lh _ (As _ d.1),AQ,if_pos ⟨d.1,d.2 (by omega)⟩,if_pos (by omega)]
 ·obtain⟨u,rfl⟩:∃u:Nat,a=(u:Int):=⟨a.toNat,by omega⟩;rw[Lib.itoa_nonneg u];have d:=(yy u).1;have e:=AQ u;rcases hd:Lib.decDigits u with _|⟨c,r⟩
  ·rw[hd]at d;simp[zB]at d
  ·rw[hd]at d e;rw[Ey _ _ (As _ d),if_pos d,e,if_pos (by omega)]
end
def letB (c:UInt8):Bool:=decide (97<=c.toNat∧c.toNat<=122)
def blB (c:UInt8):Bool:=decide (c.toNat=32)
def BN:List UInt8:=[33,123,125,91,93,40,41,44,59,38,43,45]
def xm (c:UInt8):Bool:=BN.contains c
def lead (p:UInt8->Bool) (l:List UInt8):Nat:=(l.takeWhile p).length
theorem vu (p:UInt8->Bool):lead p []=0:=rfl
theorem zP (p:UInt8->Bool) (c:UInt8) (l:List UInt8):lead p (c::l)=if p c=true then lead p l+1 else 0:=by
 unfold lead;rw[List.takeWhile_cons];split<;>rfl
theorem vg (p:UInt8->Bool) (l:List UInt8):lead p l<=l.length:=(List.takeWhile_prefix p).length_le
def qJ:Nat->List UInt8
 |1=>[60]|2=>[60,61]|3=>[61]|4=>[33,61]|5=>[62]|6=>[62,61]|_=>[]
def opOf:List UInt8->Nat
 |[]=>0
 |c::r=>if c=60 then (if r.head?=some 61 then 2 else 1)else if c=61 then 3 else if c=33 then (if r.head?=some 61 then 4 else 0)else if c=62 then (if r.head?=some 61 then 6 else 5)else 0
structure Tok where
 kind:Int
 n:Int
 at':Int
deriving DecidableEq
structure Y where
 t:Tok
 m:Nat
deriving DecidableEq
def BV:List UInt8:=[119,105,116,104,105,110]
def tokOf (l:List UInt8):Int×Int×Nat:=
 if 0<lead digB l then
  (if (readOf (l.take (lead digB l))).2=0∧(readOf (l.take (lead digB l))).1<=1099511627776 then (1,(readOf (l.take (lead digB l))).1,lead digB l)else (0,0,0))
 else if 0<lead letB l then
  (if lead letB l=1 then (2,((l.headD 0).toNat:Int)-97,1)else if l.take (lead letB l)=BV then (3,0,lead letB l)else (0,0,0))
 else if 0<opOf l then (4,opOf l,(qJ (opOf l)).length)
 else if xm (l.headD 0)=true then (5,(l.headD 0).toNat,1)
 else (0,0,0)
def yT:Nat->Nat->List UInt8->List Y
 |0,_,_=>[]
 |f+1,a,l=>
   if l.drop (lead blB l)=[]then []
   else ⟨⟨(tokOf (l.drop (lead blB l))).1,(tokOf (l.drop (lead blB l))).2.1,a+lead blB l⟩,(tokOf (l.drop (lead blB l))).2.2⟩::
    if (tokOf (l.drop (lead blB l))).2.2=0 then []else yT f (a+lead blB l+(tokOf (l.drop (lead blB l))).2.2) ((l.drop (lead blB l)).drop (tokOf (l.drop (lead blB l))).2.2)
def qk (a:Nat) (l:List UInt8):List Y:=yT (l.length+1) a l
theorem KB:∀(f g a:Nat) (l:List UInt8),l.length<f->l.length<g->yT f a l=yT g a l:=by
 intro f
 induction f with
 |zero=>intro g a l h;omega
 |succ f ih=>
   intro g a l j i;obtain⟨g,rfl⟩:∃k,g=k+1:=⟨g-1,by omega⟩;unfold yT;split
   ·rfl
   ·rename_i b;congr 1;split
    ·rfl
    ·rename_i e;have d:0<(l.drop (lead blB l)).length:=by
      rcases h:l.drop (lead blB l)with _|⟨c,r⟩
      ·exact absurd h b
      ·simp
     refine ih g _ _ ?_ ?_<;>(simp only[jj]at d⊢;omega)
theorem zt (a:Nat) (l:List UInt8) (h:l.drop (lead blB l)=[]):qk a l=[]:=by
 unfold qk yT;rw[if_pos h]
theorem xu (a:Nat) (l:List UInt8) (h:l.drop (lead blB l)≠[]) (c:(tokOf (l.drop (lead blB l))).2.2=0):
  qk a l=[⟨⟨(tokOf (l.drop (lead blB l))).1,(tokOf (l.drop (lead blB l))).2.1,a+lead blB l⟩,0⟩]:=by
 unfold qk yT;rw[if_neg h,if_pos c,c]
theorem zJ (a:Nat) (l:List UInt8) (h:l.drop (lead blB l)≠[]) (d:(tokOf (l.drop (lead blB l))).2.2≠0):
  qk a l=⟨⟨(tokOf (l.drop (lead blB l))).1,(tokOf (l.drop (lead blB l))).2.1,a+lead blB l⟩,(tokOf (l.drop (lead blB l))).2.2⟩::
   qk (a+lead blB l+(tokOf (l.drop (lead blB l))).2.2) ((l.drop (lead blB l)).drop (tokOf (l.drop (lead blB l))).2.2):=by
 have b:0<(l.drop (lead blB l)).length:=by
  rcases hh:l.drop (lead blB l)with _|⟨c,r⟩
  ·exact absurd hh h
  ·simp
 unfold qk
 conv=>lhs;unfold yT
 rw[if_neg h,if_neg d];congr 1;refine KB _ _ _ _ ?_ ?_<;>(simp only[jj]at b⊢;omega)
def zZ (l:List UInt8):List Tok×Int×Int:=
 if 2000<l.length then ([],2000,91)
 else match (qk 0 l).find? (fun y=>y.m==0)with
  |some y=>([],y.t.at',70)
  |none=>((qk 0 l).map (·.t)++[⟨0,0,l.length⟩],0,0)
theorem SW (p:UInt8->Bool):∀(l:List UInt8) (k:Nat),(∀j (h:j<l.length),j<k->p l[j]=true)->k<=l.length->lead p l=k+lead p (l.drop k)
 |l,0,_,_=>by simp
 |[],k+1,_,h=>by simp at h
 |c::l,k+1,h,hk=>by
   have a:=h 0 (by simp) (by omega);rw[List.getElem_cons_zero]at a;rw[zP,if_pos a,dE,SW p l k (fun j d b=>by have:=h (j+1) (by simp;omega) (by omega);simpa using this) (by simpa using hk)];omega
theorem Np (p:UInt8->Bool) (q:Nat->Bool) (k:∀c:UInt8,c.toNat<128->q c.toNat=!p c) (l:∀n,128<=n->q n=true) (j:∀c:UInt8,128<=c.toNat->p c=false) (s:ByteArray):
  ∀(f i:Nat),i<=s.size->s.size<=i+f->
   Lib.idxFuncFrom q true s f i=if i+lead p (s.data.toList.drop i)=s.size then-1 else ((i+lead p (s.data.toList.drop i):Nat):Int)
 |0,i,h1,h2=>by
   have:(s.data.toList.drop i)=[]:=jt (by have:s.data.toList.length=s.size:=(by simp);omega);rw[this,vu,if_pos (by omega)];rfl
 |f+1,i,h1,h2=>by
   have o:s.data.toList.length=s.size:=by simp
   unfold Lib.idxFuncFrom;by_cases a:i<s.size
   ·rw[if_pos a];have g:s.data.toList.drop i=s[i]::s.data.toList.drop (i+1):=by
     rw[je (by omega),IF s i a]
    rw[g,zP];by_cases d:s[i].toNat<128
    ·rw[decode_ascii s i a d];simp only[];rw[k _ d];by_cases b:p s[i]=true
     ·rw[b,if_neg (by decide),if_pos rfl,Np p q k l j s f (i+1) (by omega) (by omega)];rw[show i+(lead p (s.data.toList.drop (i+1))+1)=i+1+lead p (s.data.toList.drop (i+1))from by omega]
     ·have e:p s[i]=false:=by simpa using b
      rw[e,if_pos (by decide),if_neg Bool.false_ne_true,if_neg (by omega)];rfl
    ·have m:=decode_high s i a (by omega);rw[l _ m.1,if_pos rfl,j _ (by omega),if_neg Bool.false_ne_true,if_neg (by omega)];rfl
   ·rw[if_neg a];have:(s.data.toList.drop i)=[]:=jt (by omega);rw[this,vu,if_pos (by omega)]
theorem UV (c:UInt8) (h:digB c=true):letB c=false∧blB c=false∧xm c=false∧c≠60∧c≠61∧c≠33∧c≠62:=by
 have a:48<=c.toNat∧c.toNat<=57:=by simpa[digB]using h
 have d:xm c=false:=by
  rw[Bool.eq_false_iff];intro d;simp only[xm,BN,List.contains_iff_mem,jI,jH,or_false]at d;rcases d with rfl|rfl|rfl|rfl|rfl|rfl|rfl|rfl|rfl|rfl|rfl|rfl<;>(revert h;decide)
 refine⟨by simp[letB];omega,by simp[blB];omega,d,?_,?_,?_,?_⟩<;>(rintro rfl;revert h;decide)
theorem Uw (c:UInt8) (h:letB c=true):digB c=false∧blB c=false∧xm c=false∧c≠60∧c≠61∧c≠33∧c≠62:=by
 have a:97<=c.toNat∧c.toNat<=122:=by simpa[letB]using h
 have d:xm c=false:=by
  rw[Bool.eq_false_iff];intro d;simp only[xm,BN,List.contains_iff_mem,jI,jH,or_false]at d;rcases d with rfl|rfl|rfl|rfl|rfl|rfl|rfl|rfl|rfl|rfl|rfl|rfl<;>(revert h;decide)
 refine⟨by simp[digB];omega,by simp[blB];omega,d,?_,?_,?_,?_⟩<;>(rintro rfl;revert h;decide)
theorem bl_is (c:UInt8) (h:blB c=true):c=32:=by
 have:c.toNat=32:=by simpa[blB]using h
 exact UInt8.toNat_inj.1 this
theorem No (p:UInt8->Bool) (l:List UInt8):0<lead p l↔∃c r,l=c::r∧p c=true:=by
 cases l with
 |nil=>simp[vu]
 |cons c r=>
   rw[zP];by_cases h:p c=true<;>simp[h]
theorem zO (p:UInt8->Bool) (c:UInt8) (r:List UInt8) (h:p c=false):lead p (c::r)=0:=by rw[zP,h];rfl
theorem yI (p:UInt8->Bool) (u r:List UInt8):lead p (u++r)=if lead p u=u.length then u.length+lead p r else lead p u:=by
 induction u with
 |nil=>simp[vu]
 |cons c u ih=>
   rw[jE,zP,zP,ih];by_cases h:p c=true
   ·simp only[h,if_true,jF];by_cases a:lead p u=u.length
    ·rw[if_pos a,if_pos (by omega)];omega
    ·rw[if_neg a,if_neg (by omega)]
   ·simp only[h,jF];simp
theorem SU (p:UInt8->Bool) (r a:List UInt8) (h:r.head?=a.head?):lead p r=0↔lead p a=0:=by
 cases r<;>cases a<;>simp at h
 ·rfl
 ·subst h;rw[zP,zP];split<;>simp
theorem SV (p:UInt8->Bool) (u r:List UInt8) (h:lead p (u++r)=u.length):lead p u=u.length∧lead p r=0:=by
 rw[yI]at h;have:=vg p u;split at h
 ·exact⟨by assumption,by omega⟩
 ·rename_i a;exact absurd h a
theorem Bt (p:UInt8->Bool) (u r:List UInt8) (h:lead p u=u.length) (a:lead p r=0):lead p (u++r)=u.length:=by
 rw[yI,if_pos h,a];rfl
theorem Bq (k:Nat):(qJ k).length<=2:=by
 unfold qJ;split<;>simp
theorem opOf_le (l:List UInt8):(qJ (opOf l)).length<=l.length:=by
 cases l with
 |nil=>simp[opOf,qJ]
 |cons c r=>
   cases r with
   |nil=>simp only[opOf,List.head?_nil];(repeat' split)<;>simp_all [qJ]
   |cons x r=>have:=Bq (opOf (c::x::r));simp only[jF];omega
theorem BY (l:List UInt8):(tokOf l).2.2<=l.length:=by
 unfold tokOf;have d:=vg digB l;have a:=vg letB l;have b:=opOf_le l
 repeat' split
 all_goals first|exact jg _|assumption|skip
 ·have:=vg letB l;simp only[];omega
 ·cases l with
  |nil=>rename_i h;simp[xm,BN]at h
  |cons c r=>simp
def stops (r:List UInt8):Prop:=∀c,r.head?=some c->digB c=false∧letB c=false∧c≠61
theorem DM {r:List UInt8} (h:stops r):lead digB r=0∧lead letB r=0∧r.head?≠some 61:=by
 cases r with
 |nil=>simp[vu]
 |cons c r=>
   obtain⟨d,a,b⟩:=h c rfl;exact⟨zO _ _ _ d,zO _ _ _ a,by simpa using b⟩
theorem DJ (u r y:List UInt8) (F:u≠[]) (n:(tokOf (u++r)).2.2=u.length) (h:y.head?=r.head?∨stops y):tokOf (u++y)=tokOf (u++r):=by
 obtain⟨c,v,rfl⟩:∃c v,u=c::v:=by cases u<;>simp_all
 have b:∀p,(p=digB∨p=letB)->lead p (c::v++r)=(c::v).length->lead p (c::v++y)=(c::v).length:=by
  intro p z C;obtain⟨i,e⟩:=SV p _ _ C;refine Bt p _ _ i ?_;rcases h with h|h
  ·exact(SU p _ _ h).2 e
  ·rcases z with rfl|rfl
   ·exact(DM h).1
   ·exact(DM h).2.1
 have q:(c::v++r).headD 0=c:=rfl;have j:(c::v++y).headD 0=c:=rfl;have E:(c::v++r).take (c::v).length=c::v:=by simp
 have f:(c::v++y).take (c::v).length=c::v:=by simp
 have B:∀p:UInt8->Bool,p c=false->∀s,lead p (c::v++s)=0:=fun p z s=>zO p c _ z;have z:∀p:UInt8->Bool,p c=true->∀s,0<lead p (c::v++s):=fun p z s=>by rw[jE,zP,if_pos z];omega
 by_cases i:digB c=true
 ·unfold tokOf at n⊢;rw[if_pos (z _ i r)]at n⊢;rw[if_pos (z _ i y)];split at n
  ·simp only[]at n;rw[b digB (.inl rfl) n,n,E,f]
  ·simp at n
 ·have d:digB c=false:=by simpa using i
  by_cases e:letB c=true
  ·unfold tokOf at n⊢;rw[B _ d r,if_neg (Nat.lt_irrefl 0),if_pos (z _ e r)]at n⊢;rw[B _ d y,if_neg (Nat.lt_irrefl 0),if_pos (z _ e y)];split at n
   ·rename_i C;have k:lead letB (c::v++r)=(c::v).length:=by rw[C];exact n
    rw[b letB (.inr rfl) k,<-n,if_pos rfl,C,if_pos rfl];rfl
   ·split at n
    ·simp only[]at n;rename_i C t;rw[b letB (.inr rfl) n,n,E,f];rfl
    ·simp at n
  ·have g:letB c=false:=by simpa using e
   unfold tokOf at n⊢;rw[B _ d r,if_neg (Nat.lt_irrefl 0),B _ g r,if_neg (Nat.lt_irrefl 0)]at n⊢;rw[B _ d y,if_neg (Nat.lt_irrefl 0),B _ g y,if_neg (Nat.lt_irrefl 0)];have key:opOf (c::v++y)=opOf (c::v++r):=by
    by_cases A:(v++r).head?=some 61
    ·by_cases a:(v++y).head?=some 61
     ·simp[opOf,A,a]
     ·have D:v=[]:=by
       cases v with
       |nil=>rfl
       |cons x v=>simp at A a;exact absurd A a
      subst D;simp only[jD]at A a;simp only[jE,jD,opOf,A,a,if_true,if_false]at n⊢;by_cases m:c=60
      ·subst m;simp[qJ]at n
      by_cases l:c=33
      ·subst l;simp[qJ]at n
      by_cases o:c=62
      ·subst o;simp[qJ]at n
      simp[m,l,o]
    ·by_cases a:(v++y).head?=some 61
     ·exfalso;have D:v=[]:=by
       cases v with
       |nil=>rfl
       |cons x v=>simp at A a;exact absurd a A
      subst D;simp only[jD]at A a;rcases h with h|h
      ·rw[h]at a;exact A a
      ·exact(DM h).2.2 a
     ·simp only[opOf,jE,if_neg A,if_neg a]
   rw[key,q,j]
theorem tokOf_nil:tokOf []=(0,0,0):=by
 unfold tokOf;rw[vu,vu,if_neg (Nat.lt_irrefl 0),if_neg (Nat.lt_irrefl 0)];rfl
theorem vo (c:UInt8) (r:List UInt8) (d:digB c=false) (e:letB c=false) (a:c≠60∧c≠61∧c≠33∧c≠62) (f:xm c=false):tokOf (c::r)=(0,0,0):=by
 unfold tokOf;rw[zO _ _ _ d,zO _ _ _ e,if_neg (Nat.lt_irrefl 0),if_neg (Nat.lt_irrefl 0)];simp[opOf,a.1,a.2.1,a.2.2.1,a.2.2.2,f]
theorem GU (c:UInt8) (r:List UInt8) (h:(tokOf (c::r)).2.2≠0):blB c=false:=by
 rw[Bool.eq_false_iff];intro a;obtain rfl:=bl_is c a;rw[vo 32 r (by decide) (by decide) (by decide) (by decide)]at h;exact h rfl
theorem Fy (p:UInt8->Bool) (c:UInt8):∀(l r:List UInt8),l.drop (lead p l)=c::r->p c=false
 |[],_,h=>by simp at h
 |x::l,r,h=>by
   rw[zP]at h;by_cases a:p x=true
   ·rw[if_pos a,dE]at h;exact Fy p c l r h
   ·rw[if_neg a,ju]at h;obtain⟨rfl,_⟩:=List.cons.inj h;simpa using a
theorem xe (p:UInt8->Bool) (l:List UInt8):l.drop (lead p l)=[]↔lead p l=l.length:=by
 rw[List.drop_eq_nil_iff];have:=vg p l;omega
def good (a:List Y):Prop:=∀y∈a,y.m≠0
theorem Bw {a:Nat} {l:List UInt8} (c:good (qk a l)) (h:l.drop (lead blB l)≠[]):(tokOf (l.drop (lead blB l))).2.2≠0:=by
 intro b;rw[xu a l h b]at c;exact c _ (List.mem_singleton.2 rfl) rfl
theorem Fr {a:Nat} {l:List UInt8} (d:good (qk a l)) (h:l.drop (lead blB l)≠[]):
  good (qk (a+lead blB l+(tokOf (l.drop (lead blB l))).2.2) ((l.drop (lead blB l)).drop (tokOf (l.drop (lead blB l))).2.2)):=by
 have c:=Bw d h;rw[zJ a l h c]at d;exact fun y b=>d y (List.mem_cons_of_mem _ b)
theorem yields_bad (c:UInt8) (s:digB c=false) (t:letB c=false) (u:c≠60∧c≠61∧c≠33∧c≠62) (z:xm c=false) (y:blB c=false):
  ∀(n a:Nat) (l:List UInt8),l.length<=n->good (qk a l)->qk a (l++[c])=qk a l++[⟨⟨0,0,a+l.length⟩,0⟩]:=by
 intro n
 induction n with
 |zero=>
   intro a l B _;obtain rfl:l=[]:=jV (by omega);rw[zt a [] (by simp),jD,xu a [c] (by rw[zO _ _ _ y];simp) (by rw[zO _ _ _ y,ju,vo c [] s t u z]),zO _ _ _ y,ju,vo c [] s t u z];simp
 |succ n ih=>
   intro a l B q;by_cases h:l.drop (lead blB l)=[]
   ·have k:=(xe blB l).1 h;have d:lead blB (l++[c])=l.length:=by rw[yI,if_pos k,zO _ _ _ y];rfl
    have b:(l++[c]).drop l.length=[c]:=by simp
    rw[zt a l h,xu a (l++[c]) (by rw[d,b];simp) (by rw[d,b,vo c [] s t u z]),d,b,vo c [] s t u z];simp
   ·have j:=Bw q h;have i:=Fr q h;have k:lead blB l≠l.length:=fun e=>h ((xe blB l).2 e);have o:=vg blB l;have d:lead blB (l++[c])=lead blB l:=by rw[yI,if_neg k]
    have b:(l++[c]).drop (lead blB l)=l.drop (lead blB l)++[c]:=by rw[List.drop_append_of_le_length o]
    have m:=BY (l.drop (lead blB l));have g:tokOf (l.drop (lead blB l)++[c])=tokOf (l.drop (lead blB l)):=by
     have e:=jv (tokOf (l.drop (lead blB l))).2.2 (l.drop (lead blB l));have f:((l.drop (lead blB l)).take (tokOf (l.drop (lead blB l))).2.2).length=(tokOf (l.drop (lead blB l))).2.2:=by rw[jb];omega
     have:=DJ ((l.drop (lead blB l)).take (tokOf (l.drop (lead blB l))).2.2) ((l.drop (lead blB l)).drop (tokOf (l.drop (lead blB l))).2.2) ((l.drop (lead blB l)).drop (tokOf (l.drop (lead blB l))).2.2++[c])
      (fun A=>by rw[A]at f;exact j f.symm) (by rw[e];exact f.symm) (by
       cases C:(l.drop (lead blB l)).drop (tokOf (l.drop (lead blB l))).2.2 with
       |nil=>exact .inr (fun x p=>by simp at p;subst p;exact⟨s,t,u.2.1⟩)
       |cons x r=>exact .inl (by simp))
     rw[<-jk,e]at this;exact this
    rw[zJ a l h j,zJ a (l++[c]) (by rw[d,b];simp) (by rw[d,b,g];exact j),d,b,g,List.drop_append_of_le_length m,
     ih _ _ (by simp only[jj]at m⊢;omega) i,jE]
    congr 3;simp only[jj]at m⊢;simp only[Y.mk.injEq,Tok.mk.injEq,true_and,and_true];omega
theorem kE:∀(n a:Nat) (l:List UInt8),l.length<=n->∀y∈qk a l,(a:Int)<=y.t.at'∧y.t.at'+y.m<=a+l.length:=by
 intro n
 induction n with
 |zero=>
   intro a l f y b;obtain rfl:l=[]:=jV (by omega);rw[zt a [] (by simp)]at b;cases b
 |succ n ih=>
   intro a l f y b;have e:=vg blB l;by_cases h:l.drop (lead blB l)=[]
   ·rw[zt a l h]at b;cases b
   ·by_cases d:(tokOf (l.drop (lead blB l))).2.2=0
    ·rw[xu a l h d]at b;obtain rfl:=List.mem_singleton.1 b;simp only[];omega
    ·have c:=BY (l.drop (lead blB l));rw[zJ a l h d]at b;rcases jI.1 b with rfl|b
     ·simp only[jj]at c⊢;omega
     ·have:=ih _ _ (by simp only[jj]at c⊢;omega) y b;simp only[jj]at c this;omega
def Y.shift (y:Y) (j:Nat):Y:=⟨⟨y.t.kind,y.t.n,y.t.at'+j⟩,y.m⟩
theorem Di (j:Nat):∀(f a:Nat) (l:List UInt8),yT f (a+j) l=(yT f a l).map (·.shift j)
 |0,_,_=>rfl
 |f+1,a,l=>by
   unfold yT;split
   ·rfl
   ·rw[List.map_cons];congr 1
    ·simp only[Y.shift,Y.mk.injEq,Tok.mk.injEq,true_and,and_true];omega
    ·split
     ·rfl
     ·rw[<-Di j f,show a+j+lead blB l+(tokOf (l.drop (lead blB l))).2.2=a+lead blB l+(tokOf (l.drop (lead blB l))).2.2+j from by omega]
theorem KA (j a:Nat) (l:List UInt8):qk (a+j) l=(qk a l).map (·.shift j):=Di j _ a l
theorem Bg (a:Nat) (l:List UInt8):qk a (32::l)=qk (a+1) l:=by
 have d:lead blB (32::l)=lead blB l+1:=by rw[zP,if_pos (by decide)]
 have b:(32::l).drop (lead blB (32::l))=l.drop (lead blB l):=by rw[d,dE]
 by_cases h:l.drop (lead blB l)=[]
 ·rw[zt a _ (by rw[b];exact h),zt _ _ h]
 ·by_cases c:(tokOf (l.drop (lead blB l))).2.2=0
  ·rw[xu a _ (by rw[b];exact h) (by rw[b];exact c),xu _ _ h c,b,d];simp only[List.cons.injEq,Y.mk.injEq,Tok.mk.injEq,true_and,and_true];omega
  ·rw[zJ a _ (by rw[b];exact h) (by rw[b];exact c),zJ _ _ h c,b,d];rw[show a+(lead blB l+1)=a+1+lead blB l from by omega];congr 1;simp only[Y.mk.injEq,Tok.mk.injEq,true_and,and_true];omega
theorem shift_zero (a:List Y):a.map (·.shift 0)=a:=by
 conv=>rhs;rw[<-List.map_id a]
 refine List.map_congr_left fun y _=>?_;simp[Y.shift]
theorem yields_cut:∀(n a:Nat) (l:List UInt8),l.length<=n->good (qk a l)->∀(k c:Nat),(a+c:Int)=((qk a l)[k]?.map (·.t.at')).getD (a+l.length)->k<=(qk a l).length->
  qk a (l.take c++32::l.drop c)=(qk a l).take k++((qk a l).drop k).map (·.shift 1):=by
 intro n
 induction n with
 |zero=>
   intro a l P _ k c g p;obtain rfl:l=[]:=jV (by omega);rw[zt a [] (by simp)]at g p⊢;simp at g p;subst p;simp only[List.take_nil,List.drop_nil,jD,Bg,zt _ [] (by simp:[].drop (lead blB [])=[])];rfl
 |succ n ih=>
   intro a l P D k c g p;by_cases h:l.drop (lead blB l)=[]
   ·have u:=(xe blB l).1 h;rw[zt a l h]at g p⊢;simp at g p;subst p;obtain rfl:c=l.length:=by omega
    simp only[jn,List.drop_length,List.take_nil,List.drop_nil,List.map_nil,jo];refine zt _ _ ?_;rw[xe,yI,if_pos u,zP,if_pos (by decide),vu];simp
   ·have t:=Bw D h;have A:=Fr D h;have u:lead blB l≠l.length:=fun e=>h ((xe blB l).2 e);have H:=vg blB l;have C:=BY (l.drop (lead blB l));have m:=zJ a l h t;cases k with
    |zero=>
      rw[m]at g;simp at g;obtain rfl:c=lead blB l:=by omega
      simp only[dF,jD,ju];have q:lead blB (l.take (lead blB l))=(l.take (lead blB l)).length:=by
       have:=yI blB (l.take (lead blB l)) (l.drop (lead blB l));rw[jv]at this;have f:(l.take (lead blB l)).length=lead blB l:=by rw[jb];omega
       split at this
       ·assumption
       ·rw[<-this,f]
      have f:(l.take (lead blB l)).length=lead blB l:=by rw[jb];omega
      obtain⟨x,r,o⟩:∃x r,l.drop (lead blB l)=x::r:=by
       rcases e:l.drop (lead blB l)with _|⟨x,r⟩
       ·exact absurd e h
       ·exact⟨x,r,rfl⟩
      have s:=Fy blB x l r o;have j:lead blB (l.take (lead blB l)++32::l.drop (lead blB l))=lead blB l+1:=by
       rw[yI,if_pos q,f,zP,if_pos (by decide),o,zO _ _ _ s]
      have i:(l.take (lead blB l)++32::l.drop (lead blB l)).drop (lead blB l+1)=l.drop (lead blB l):=by
       rw[List.drop_append,jt (by omega),f,jD,show lead blB l+1-lead blB l=1 from by omega];rfl
      rw[zJ a _ (by rw[j,i];exact h) (by rw[j,i];exact t),j,i,<-KA,zJ (a+1) l h t];rw[show a+(lead blB l+1)=a+1+lead blB l from by omega];congr 1;simp only[Y.mk.injEq,Tok.mk.injEq,true_and,and_true];omega
    |succ k=>
      rw[m]at g p;simp only[jN,jF]at g p
      --the cut lies behind the first token
      generalize w:(tokOf (l.drop (lead blB l))).2.2=M at*;have I:lead blB l+M<=c∧c<=l.length:=by
       have O:=kE l.length (a+lead blB l+M) ((l.drop (lead blB l)).drop M) (by simp);simp only[jj]at C;cases N:(qk (a+lead blB l+M) ((l.drop (lead blB l)).drop M))[k]? with
       |none=>rw[N]at g;simp at g;omega
       |some y=>
         rw[N]at g;have:=O y (jY N);simp only[jj,Option.map_some,Option.getD_some]at this g;omega
      obtain⟨b,rfl⟩:∃b,c=lead blB l+M+b:=⟨c-(lead blB l+M),by omega⟩;have K:l.take (lead blB l+M+b)=l.take (lead blB l)++((l.drop (lead blB l)).take M++((l.drop (lead blB l)).drop M).take b):=by
       rw[Nat.add_assoc,List.take_add,List.take_add]
      have F:l.drop (lead blB l+M+b)=((l.drop (lead blB l)).drop M).drop b:=by
       rw[List.drop_drop,List.drop_drop,Nat.add_assoc]
      have f:(l.take (lead blB l)).length=lead blB l:=by rw[jb];omega
      have q:lead blB (l.take (lead blB l))=(l.take (lead blB l)).length:=by
       have:=yI blB (l.take (lead blB l)) (l.drop (lead blB l));rw[jv]at this;split at this
       ·assumption
       ·rw[<-this,f]
      obtain⟨x,r,o⟩:∃x r,l.drop (lead blB l)=x::r:=by
       rcases e:l.drop (lead blB l)with _|⟨x,r⟩
       ·exact absurd e h
       ·exact⟨x,r,rfl⟩
      have s:=Fy blB x l r o;have d:((l.drop (lead blB l)).take M).length=M:=by rw[jb];omega
      have v:tokOf ((l.drop (lead blB l)).take M++(((l.drop (lead blB l)).drop M).take b++32::((l.drop (lead blB l)).drop M).drop b))=tokOf (l.drop (lead blB l)):=by
       have e:=jv M (l.drop (lead blB l));have:=DJ ((l.drop (lead blB l)).take M) ((l.drop (lead blB l)).drop M) (((l.drop (lead blB l)).drop M).take b++32::((l.drop (lead blB l)).drop M).drop b)
        (fun L=>by rw[L]at d;exact t d.symm) (by rw[e,w];exact d.symm) (by
         cases b with
         |zero=>exact .inr (fun x o=>by simp at o;subst o;decide)
         |succ b=>
           cases O:(l.drop (lead blB l)).drop M with
           |nil=>exact .inr (fun x o=>by simp at o;subst o;decide)
           |cons x r=>exact .inl (by simp))
       rw[e]at this;exact this
      have J:l.take (lead blB l+M+b)++32::l.drop (lead blB l+M+b)=l.take (lead blB l)++((l.drop (lead blB l)).take M++(((l.drop (lead blB l)).drop M).take b++32::((l.drop (lead blB l)).drop M).drop b)):=by
       rw[K,F,jk,jk]
      rw[J];have B:(l.drop (lead blB l)).take M≠[]:=fun L=>by rw[L]at d;exact t d.symm
      have j:lead blB (l.take (lead blB l)++((l.drop (lead blB l)).take M++(((l.drop (lead blB l)).drop M).take b++32::((l.drop (lead blB l)).drop M).drop b)))=lead blB l:=by
       rw[yI,if_pos q,f,o];obtain⟨E,rfl⟩:∃E,M=E+1:=⟨M-1,by omega⟩;rw[jm,jE,zO _ _ _ s];rfl
      have i:(l.take (lead blB l)++((l.drop (lead blB l)).take M++(((l.drop (lead blB l)).drop M).take b++32::((l.drop (lead blB l)).drop M).drop b))).drop (lead blB l)=(l.drop (lead blB l)).take M++(((l.drop (lead blB l)).drop M).take b++32::((l.drop (lead blB l)).drop M).drop b):=by
       rw[List.drop_append,jt (by omega),f,Nat.sub_self];rfl
      have z:((l.drop (lead blB l)).take M++(((l.drop (lead blB l)).drop M).take b++32::((l.drop (lead blB l)).drop M).drop b)).drop M=((l.drop (lead blB l)).drop M).take b++32::((l.drop (lead blB l)).drop M).drop b:=by
       rw[List.drop_append,jt (by omega),d,Nat.sub_self];rfl
      rw[zJ a _ (by rw[j,i];simp[B]) (by rw[j,i,v,w];exact t),j,i,v,w,z,
       ih (a+lead blB l+M) ((l.drop (lead blB l)).drop M) (by simp only[jj]at C⊢;omega) A k b (by simp only[jj]at g C⊢;simp only[Int.natCast_add]at g⊢;rw[<-Int.add_assoc,<-Int.add_assoc]at g;rw[g];congr 1;omega) (by omega),m]
      rfl
def qS (a n:Int):List UInt8:=
 if a=1∧0<=n∧n<=1099511627776 then Lib.itoa n
 else if a=2∧0<=n∧n<26 then [UInt8.ofNat (97+n.toNat)]
 else if a=3∧n=0 then BV
 else if a=4∧0<n∧n<7 then qJ n.toNat
 else if a=5∧0<n∧n<128∧xm (UInt8.ofNat n.toNat)=true then [UInt8.ofNat n.toNat]
 else []
theorem Hs (c:UInt8) (r:List UInt8) (h:0<opOf (c::r)):(c::r).take (qJ (opOf (c::r))).length=qJ (opOf (c::r))∧opOf (c::r)<7:=by
 cases r with
 |nil=>
   simp only[opOf,List.head?_nil]at h⊢
   (repeat' split at h)<;>simp_all [qJ]
 |cons x r=>
   simp only[opOf,List.head?_cons]at h⊢;by_cases b:x=61
   ·subst b
    (repeat' split at h)<;>simp_all [qJ]
   ·have a:¬some x=some (61:UInt8):=fun e=>b (Option.some.inj e);simp only[a,if_false]at h⊢
    (repeat' split at h)<;>simp_all [qJ]
theorem Dt (l:List UInt8) (h:lead digB l=l.length) (f:(readOf l).2=0):0<=(readOf l).1:=by
 cases l with
 |nil=>rw[OV]at f;cases f
 |cons c r=>
   have a:(c::r).all digB=true:=by
    have:∀(l:List UInt8),lead digB l=l.length->l.all digB=true:=by
     intro l
     induction l with
     |nil=>intro _;rfl
     |cons c l ih=>
       intro h;rw[zP]at h;by_cases b:digB c=true
       ·rw[if_pos b]at h;simp only[List.all_cons,b,Bool.true_and];exact ih (by simpa using h)
       ·rw[if_neg b]at h;simp at h
    exact this _ h
   rw[Ey c r a]at f⊢;by_cases e:zB (c::r)=true
   ·rw[if_pos e]at f⊢;by_cases d:zj 0 (c::r)<9223372036854775808
    ·rw[if_pos d];simp
    ·rw[if_neg d];simp
   ·rw[if_neg e];simp
theorem Cy (p:UInt8->Bool) (l:List UInt8):lead p (l.take (lead p l))=lead p l∧(l.take (lead p l)).length=lead p l:=by
 have b:=vg p l;have a:(l.take (lead p l)).length=lead p l:=by rw[jb];omega
 refine⟨?_,a⟩;have:=yI p (l.take (lead p l)) (l.drop (lead p l));rw[jv]at this;split at this
 ·rename_i h;rw[h,a]
 ·exact this.symm
theorem TZ (l:List UInt8) (h:(tokOf l).2.2≠0):qS (tokOf l).1 (tokOf l).2.1=l.take (tokOf l).2.2:=by
 unfold tokOf at h⊢;by_cases g:0<lead digB l
 ·rw[if_pos g]at h⊢;split at h
  ·rename_i a;rw[if_pos a];simp only[];have f:=Dt (l.take (lead digB l)) (by rw[(Cy digB l).1,(Cy digB l).2]) a.1;unfold qS;rw[if_pos ⟨rfl,f,a.2⟩];exact MR _ _ (by rw[<-a.1])
  ·exact absurd rfl h
 ·rw[if_neg g]at h⊢;by_cases a:0<lead letB l
  ·rw[if_pos a]at h⊢;obtain⟨c,r,rfl,j⟩:=(No letB l).1 a;have i:97<=c.toNat∧c.toNat<=122:=by simpa[letB]using j
   split at h
   ·rename_i d;rw[if_pos d];simp only[List.headD_cons];unfold qS;rw[if_neg (by omega),if_pos ⟨rfl,by omega,by omega⟩];rw[show 97+((c.toNat:Int)-97).toNat=c.toNat from by omega,UInt8.ofNat_toNat];rfl
   ·rename_i d;rw[if_neg d];split at h
    ·rename_i b;rw[if_pos b];simp only[];rw[b];rfl
    ·exact absurd rfl h
  ·rw[if_neg a]at h⊢;cases l with
   |nil=>simp[opOf,xm,BN]at h
   |cons c r=>
     by_cases d:0<opOf (c::r)
     ·rw[if_pos d];simp only[];obtain⟨e,m⟩:=Hs c r d;rw[e];unfold qS;rw[if_neg (by omega),if_neg (by omega),if_neg (by omega),if_pos ⟨rfl,by omega,by omega⟩];rfl
     ·rw[if_neg d]at h⊢;split at h
      ·rename_i b;rw[if_pos b];simp only[List.headD_cons]at b⊢;have k:0<c.toNat∧c.toNat<128:=by
        simp only[xm,BN,List.contains_iff_mem,jI,jH,or_false]at b;rcases b with rfl|rfl|rfl|rfl|rfl|rfl|rfl|rfl|rfl|rfl|rfl|rfl<;>decide
       unfold qS;rw[if_neg (by omega),if_neg (by omega),if_neg (by omega),if_neg (by omega),if_pos ⟨rfl,by omega,by omega,by rw[Int.toNat_natCast,UInt8.ofNat_toNat];exact b⟩];rw[Int.toNat_natCast,UInt8.ofNat_toNat];rfl
      ·exact absurd rfl h
def Ke:List (List UInt8)->List UInt8
 |[]=>[]
 |[w]=>w
 |w::v::ws=>w++32::Ke (v::ws)
inductive Kz {α:Type} (R:α->α->Prop):List α->List α->Prop
 |nil:Kz R [] []
 |cons {x y:α} {l r:List α} (h:R x y) (t:Kz R l r):Kz R (x::l) (y::r)
def Lb (y z:Y):Prop:=y.t.kind=z.t.kind∧y.t.n=z.t.n∧z.m≠0
theorem yields_again:∀(n a:Nat) (l:List UInt8),l.length<=n->good (qk a l)->∀b:Nat,
  Kz Lb (qk a l) (qk b (Ke ((qk a l).map fun y=>qS y.t.kind y.t.n))):=by
 intro n
 induction n with
 |zero=>
   intro a l F _ b;obtain rfl:l=[]:=jV (by omega);rw[zt a [] (by simp)];simp only[List.map_nil,Ke];rw[zt b [] (by simp)];exact .nil
 |succ n ih=>
   intro a l F u b;by_cases h:l.drop (lead blB l)=[]
   ·rw[zt a l h];simp only[List.map_nil,Ke];rw[zt b [] (by simp)];exact .nil
   ·have i:=Bw u h;have p:=Fr u h;have B:=BY (l.drop (lead blB l));have D:=TZ _ i;have A:=fun b=>ih (a+lead blB l+(tokOf (l.drop (lead blB l))).2.2) ((l.drop (lead blB l)).drop (tokOf (l.drop (lead blB l))).2.2) (by simp only[jj]at B⊢;omega) p b;rw[zJ a l h i];generalize o:tokOf (l.drop (lead blB l))=T at*;generalize z:qk (a+lead blB l+T.2.2) ((l.drop (lead blB l)).drop T.2.2)=C at*;have c:((l.drop (lead blB l)).take T.2.2).length=T.2.2:=by rw[jb];omega
    have k:(l.drop (lead blB l)).take T.2.2≠[]:=fun E=>by rw[E]at c;exact i c.symm
    obtain⟨x,r,d⟩:∃x r,l.drop (lead blB l)=x::r:=by
     rcases e:l.drop (lead blB l)with _|⟨x,r⟩
     ·exact absurd e h
     ·exact⟨x,r,rfl⟩
    have t:blB x=false:=GU x r (by rw[<-d,o];exact i);have key:∀s,(s=[]∨∃w,s=32::w)->Kz Lb C (qk (b+T.2.2) s)->
      Kz Lb (⟨⟨T.1,T.2.1,a+lead blB l⟩,T.2.2⟩::C) (qk b ((l.drop (lead blB l)).take T.2.2++s)):=by
     intro s H hF;have j:tokOf ((l.drop (lead blB l)).take T.2.2++s)=T:=by
      have e:=jv T.2.2 (l.drop (lead blB l));have:=DJ ((l.drop (lead blB l)).take T.2.2) ((l.drop (lead blB l)).drop T.2.2) s k (by rw[e,o];exact c.symm) (by
        rcases H with rfl|⟨w,rfl⟩
        ·exact .inr (fun x d=>by simp at d)
        ·exact .inr (fun x d=>by simp at d;subst d;decide))
      rw[e,o]at this;exact this
     have f:lead blB ((l.drop (lead blB l)).take T.2.2++s)=0:=by
      rw[d];obtain⟨v,q⟩:∃v,T.2.2=v+1:=⟨T.2.2-1,by omega⟩;rw[q,jm,jE,zO _ _ _ t]
     have g:((l.drop (lead blB l)).take T.2.2++s).drop 0=(l.drop (lead blB l)).take T.2.2++s:=rfl;have m:((l.drop (lead blB l)).take T.2.2++s).drop T.2.2=s:=by
      rw[List.drop_append,jt (by omega),c,Nat.sub_self];rfl
     rw[zJ b _ (by rw[f,g];simp[k]) (by rw[f,g,j];exact i),f,g,j,m];exact .cons ⟨rfl,rfl,i⟩ hF
    cases C with
    |nil=>
      simp only[List.map_cons,List.map_nil,Ke,D];have:=key [] (.inl rfl) (by rw[zt _ [] (by simp)];exact .nil);rwa [jo]at this
    |cons y C=>
      simp only[List.map_cons,Ke,D];refine key _ (.inr ⟨_,rfl⟩) ?_;rw[Bg];simpa using A (b+T.2.2+1)
theorem Oj (p:UInt8->Bool):∀(l:List UInt8),l.all p=true->lead p l=l.length
 |[],_=>rfl
 |c::l,h=>by
   simp only[List.all_cons,jJ]at h;rw[zP,if_pos h.1,Oj p l h.2];rfl
theorem Ij (n:Int) (h:0<=n):Lib.itoa n=Lib.decDigits n.toNat:=by
 unfold Lib.itoa;rw[if_neg (by omega)]
theorem Qr (t n:Int) (h:qS t n≠[]):tokOf (qS t n)=(t,n,(qS t n).length):=by
 unfold qS at h⊢;by_cases i:t=1∧0<=n∧n<=1099511627776
 ·rw[if_pos i];obtain⟨rfl,b,d⟩:=i;have a:=yy n.toNat;have f:=As _ a.1;have u:=Oj digB _ f;rw[<-Ij n b]at u;have m:0<(Lib.itoa n).length:=by
   rw[Ij n b];cases e:Lib.decDigits n.toNat with
   |nil=>rw[e]at a;simp[zB]at a
   |cons c r=>simp
  have l:=MQ n (by omega);unfold tokOf;rw[if_pos (by omega),u,jn,l,if_pos ⟨rfl,d⟩]
 ·rw[if_neg i]at h⊢;by_cases b:t=2∧0<=n∧n<26
  ·rw[if_pos b];obtain⟨rfl,d,g⟩:=b;have x:(UInt8.ofNat (97+n.toNat)).toNat=97+n.toNat:=by rw[UInt8.toNat_ofNat'];omega
   have s:digB (UInt8.ofNat (97+n.toNat))=false:=by simp[digB];omega
   have u:letB (UInt8.ofNat (97+n.toNat))=true:=by simp[letB];omega
   unfold tokOf;rw[zO _ _ _ s,if_neg (Nat.lt_irrefl 0),zP,if_pos u,vu,if_pos (by decide),if_pos rfl];simp only[List.headD_cons,x,jF,jO,Prod.mk.injEq,true_and,and_true];omega
  ·rw[if_neg b]at h⊢;by_cases d:t=3∧n=0
   ·rw[if_pos d];obtain⟨rfl,rfl⟩:=d;decide
   ·rw[if_neg d]at h⊢;by_cases g:t=4∧0<n∧n<7
    ·rw[if_pos g];obtain⟨rfl,j,p⟩:=g;have:n=1∨n=2∨n=3∨n=4∨n=5∨n=6:=by omega
     rcases this with rfl|rfl|rfl|rfl|rfl|rfl<;>decide
    ·rw[if_neg g]at h⊢;by_cases j:t=5∧0<n∧n<128∧xm (UInt8.ofNat n.toNat)=true
     ·rw[if_pos j];obtain⟨rfl,p,q,o⟩:=j;have x:(UInt8.ofNat n.toNat).toNat=n.toNat:=by rw[UInt8.toNat_ofNat'];omega
      generalize UInt8.ofNat n.toNat=c at*;have k:n=c.toNat:=by omega
      subst k;clear h i b d g p q x;simp only[xm,BN,List.contains_iff_mem,jI,jH,or_false]at o;rcases o with rfl|rfl|rfl|rfl|rfl|rfl|rfl|rfl|rfl|rfl|rfl|rfl<;>decide
     ·rw[if_neg j]at h;exact absurd rfl h
end Go.Proofs.YtnmpcdnbklmhkaaGreatDoor
