import Derived.Test.YtnmpcdnbklmhkaaGreatDoorQAf
import Derived.Outline
import Derived.Laws.Rows
import Derived.Test.YtnmpcdnbklmhkaaGreatDoorQAa
import Derived.StillTailTactics
import Derived.Test.YtnmpcdnbklmhkaaGreatDoorQAb
import Derived.RegionIn
import Derived.BigRegionIn
import Derived.BigQuiet
import Derived.Deep.QuietTactic
namespace Go.Proofs.YtnmpcdnbklmhkaaGreatDoor
open Go.Proofs.Tryz Go.RowKit
set_option maxRecDepth 100000
set_option linter.all false
set_option maxHeartbeats 8000000
theorem SO (r:Int) (w:World):Cs 104 #[.int .i32 r] w fun e w'=>e=Rt (Vb (decide (48<=r∧r<=57)))∧w=w':=by
 go_enter func104,ntmps104;go_wp2_with fail
 all_goals
  go_ret;refine⟨?_,rfl⟩;congr 2;simp
  try omega
theorem Py (r:Int) (w:World):Cs 106 #[.int .i32 r] w fun e w'=>e=Rt (Vb (decide (97<=r∧r<=122)))∧w=w':=by
 go_enter func106,ntmps106;go_wp2_with fail
 all_goals
  go_ret;refine⟨?_,rfl⟩;congr 2;simp
  try omega
theorem SQ (r:Int) (w:World):Cs 57 #[.int .i32 r] w fun e w'=>e=Rt (Vb (r==32))∧w=w':=by
 go_enter func57,ntmps57;go_wp2_with fail;go_ret;exact⟨rfl,rfl⟩
def Tells (g:Nat) (q:Nat->Bool):Prop:=∀(x:Nat) (W:World),Cs g #[.int .i32 x] W fun e w'=>e=Rt (Vb (q x))∧W=w'
theorem SN (g:Nat) (f:∀c w,(callFunc g c).run prog w= .ok (.enter g c) w) (q:Nat->Bool) (d:Tells g q) (x B:Nat) (W:World) (i:W.cell? ⟨B,0,none⟩=some (.func (.func g) #[] #[])):
  Cs 103 #[.int .i32 x,Vp B 0] W fun e w'=>e=Rt (Vb (!q x))∧W=w':=by
 have a:=d x W;go_enter func103,ntmps103;go_wp2_with (go_at_fn g;refine a.mono ?_;rintro e w' ⟨rfl,rfl⟩);go_ret;exact⟨rfl,rfl⟩
theorem LX:En0 103:=enters_of func103 rfl rfl
theorem Ib (g:Nat) (m:∀l w,(callFunc g l).run prog w= .ok (.enter g l) w) (q:Nat->Bool) (y:Tells g q) (p:UInt8->Bool)
  (o:∀c:UInt8,c.toNat<128->q c.toNat=p c) (r:∀n,128<=n->q n=false) (t:∀c:UInt8,128<=c.toNat->p c=false) (s:ByteArray) (w:World):
  Cs 56 #[.string s,.func (.func g) #[] #[]] w (Rw w (Vi (lead p s.data.toList))):=by
 have b:=Np p (fun x=>!q x) (fun c j=>by simp[o c j]) (fun n u=>by simp[r n u]) t s s.size 0 (jg _) (by omega);simp only[ju,dG]at b;have h:lead p s.data.toList<=s.size:=by have:=vg p s.data.toList;simpa using this
 have f:PredGrows prog 103 #[Vp w.1.size 0] (fun x=>!q x) (w.alloc (Oc #[.func (.func g) #[] #[]] 136)):=by
  intro W x _ d;refine(SN g m q y x w.1.size W ?_).mono ?_
  ·exact(d.cell (p:=Ad w.1.size 0) (by simp)).trans (vh rfl _ _).cell
  ·rintro e w' ⟨rfl,rfl⟩;exact⟨rfl,Below.refl _ _⟩
 have a:=Tryz.strings_IndexFunc_grows 103 #[Vp w.1.size 0] LX (fun x=>!q x) s _ f;rw[show Lib.idxFunc (fun x=>!q x) true s=_ from b]at a;clear b f;by_cases k:lead p s.data.toList=s.size
 ·rw[if_pos k]at a;rw[k];have i:=hiD a;clear a k h;go_enter func56,ntmps56;go_wp2_with fail;refine i.out.mono ?_;rintro e w' ⟨rfl,d⟩;go_wp2_with fail;go_ret;exact⟨rfl,bB.trans (d.mono (by simp))⟩
 ·rw[if_neg k]at a;have i:=hiD a;clear a k;go_enter func56,ntmps56;go_wp2_with fail;refine i.out.mono ?_;rintro e w' ⟨rfl,d⟩;go_wp2_with fail;go_ret;exact⟨rfl,bB.trans (d.mono (by simp))⟩
section
open Go.ChangeShapes Go.WideShapes Go.ChangeAt
def strs (a:List (List UInt8)):Array Value:=(a.map fun l=>Value.string ⟨l.toArray⟩).toArray
theorem Re {P:Program} {W:World} {c:String} {g:Nat} {a:Array Value} (e:P.globalNamed c=some g) (h:W.var? P c=some a):∃t d,W.1[g]?=some (.cells a t d):=by
 simp only[World.var?,e,Option.bind_some]at h;split at h
 ·rename_i f;obtain rfl:=Option.some.inj h;exact⟨_,_,f⟩
 ·cases h
theorem gOps:prog.globalNamed "straggle/lex.ops" =some 0:=by kernel_rfl
structure GL (w:World):Prop where
 g:G w
 ops:w.var? prog "straggle/lex.ops" =some (strs ((List.range 7).map qJ))
theorem GL.mono' {w w':World} {B:Nat} (c:Below B w w') (a:w.1.size<=B) (h:GL w):GL w':=⟨h.g.mono' c a,Joins.var_stays gOps h.ops c a⟩
theorem GL.mono {w w':World} (a:Bz w w') (h:GL w):GL w':=h.mono' a nLe
theorem GL.alloc {w:World} (h:GL w) (o:Obj):GL (w.alloc o):=h.mono (bRf.alloc nLe o)
def opS (k:Nat):ByteArray:=⟨(qJ k).toArray⟩
theorem GL.cell {w:World} (h:GL w) (k:Nat) (a:k<7):w.cell? ⟨0,k,none⟩=some (.string (opS k)):=by
 rw[World.var?_cell gOps h.ops];have:k=0∨k=1∨k=2∨k=3∨k=4∨k=5∨k=6:=by omega
 rcases this with rfl|rfl|rfl|rfl|rfl|rfl|rfl<;>rfl
end
def best:Nat->List UInt8->Nat
 |0,_=>0
 |k+1,l=>if qJ k≠[]∧Lib.hasPrefix l (qJ k)=true∧(qJ (best k l)).length<(qJ k).length then k else best k l
theorem QY:∀(k:Nat) (l:List UInt8),0<k->best k l<k
 |k+1,l,_=>by
   unfold best;split
   ·omega
   ·rcases Nat.eq_zero_or_pos k with rfl|h
    ·simp[best]
    ·have:=QY k l h;omega
theorem kq {l:List UInt8} (k x:Nat) (h:best k l=x):best (k+1) l=if qJ k≠[]∧Lib.hasPrefix l (qJ k)=true∧(qJ x).length<(qJ k).length then k else x:=by rw[best,h]
theorem TE (l:List UInt8) (i k j e:Bool) (m:Bool) (t:Lib.hasPrefix l [60]=i) (x:Lib.hasPrefix l [61]=k) (z:Lib.hasPrefix l [62]=j) (u:Lib.hasPrefix l [60,61]=(i&&e)) (A:Lib.hasPrefix l [62,61]=(j&&e)) (y:Lib.hasPrefix l [33,61]=(m&&e))
  (o:(i&&k)=false) (p:(i&&j)=false) (r:(k&&j)=false) (n:(i&&m)=false) (q:(k&&m)=false) (s:(j&&m)=false):
  best 7 l=if i then (if e then 2 else 1)else if k then 3 else if m then (if e then 4 else 0)else if j then (if e then 6 else 5)else 0:=by
 have g:=kq (l:=l) 0 _ rfl;simp[qJ]at g;have a:=kq 1 _ g;simp only[qJ,t]at a;cases i<;>cases k<;>cases j<;>cases m<;>cases e<;>first|(exfalso;revert o p r n q s;decide)|skip
 all_goals
  simp at a;have c:=kq 2 _ a;simp[qJ,u]at c;have f:=kq 3 _ c;simp[qJ,x]at f;have h:=kq 4 _ f;simp[qJ,y]at h;have b:=kq 5 _ h;simp[qJ,z]at b;have d:=kq 6 _ b;simp[qJ,A]at d;rw[d];rfl
theorem best_op (l:List UInt8):best 7 l=opOf l:=by
 cases l with
 |nil=>rfl
 |cons c r=>
   have b:∀x:UInt8,Lib.hasPrefix (c::r) [x]=decide (c=x):=by
    intro x;by_cases h:c=x
    ·simp[Lib.hasPrefix,List.isPrefixOf,h]
    ·simp[Lib.hasPrefix,List.isPrefixOf,h,Ne.symm h]
   have a:∀x:UInt8,Lib.hasPrefix (c::r) [x,61]=(decide (c=x)&&decide (r.head?=some 61)):=by
    intro x;cases r with
    |nil=>simp[Lib.hasPrefix,List.isPrefixOf]
    |cons y r=>
      by_cases h:c=x
      ·by_cases d:y=61
       ·simp[Lib.hasPrefix,List.isPrefixOf,h,d]
       ·simp[Lib.hasPrefix,List.isPrefixOf,h,d,Ne.symm d]
      ·simp[Lib.hasPrefix,List.isPrefixOf,h,Ne.symm h]
   rw[TE (c::r) (decide (c=60)) (decide (c=61)) (decide (c=62)) (decide (r.head?=some 61)) (decide (c=33)) (b 60) (b 61) (b 62) (a 60) (a 62) (a 33)
    (by by_cases h:c=60<;>simp[h]) (by by_cases h:c=60<;>simp[h]) (by by_cases h:c=61<;>simp[h]) (by by_cases h:c=60<;>simp[h]) (by by_cases h:c=61<;>simp[h]) (by by_cases h:c=62<;>simp[h])]
   simp only[opOf,decide_eq_true_eq]
theorem Sx:(opS 0).toList=qJ 0:=by kernel_rfl
theorem Sw:(opS 1).toList=qJ 1:=by kernel_rfl
theorem Sv:(opS 2).toList=qJ 2:=by kernel_rfl
theorem Su:(opS 3).toList=qJ 3:=by kernel_rfl
theorem Ss:(opS 4).toList=qJ 4:=by kernel_rfl
theorem Sr:(opS 5).toList=qJ 5:=by kernel_rfl
theorem Sn:(opS 6).toList=qJ 6:=by kernel_rfl
theorem Uk (k:Nat) (a:k<7):(opS k).toList=qJ k:=by
 match k,a with
 |0,_=>exact Sx
 |1,_=>exact Sw
 |2,_=>exact Sv
 |3,_=>exact Su
 |4,_=>exact Ss
 |5,_=>exact Sr
 |6,_=>exact Sn
theorem B7 (k:Nat):(opS k).size=(qJ k).length:=by simp[opS,ByteArray.size]
def kH:Array Value:=strs ((List.range 7).map qJ)
theorem Ki (w:World):(Instr.index 181 (.agg kH) (Vi 0)).run prog w= .ok (.string (opS 0)) w:=by kernel_rfl
theorem Th (w:World):(Instr.index 181 (.agg kH) (Vi 1)).run prog w= .ok (.string (opS 1)) w:=by kernel_rfl
theorem Tg (w:World):(Instr.index 181 (.agg kH) (Vi 2)).run prog w= .ok (.string (opS 2)) w:=by kernel_rfl
theorem Tf (w:World):(Instr.index 181 (.agg kH) (Vi 3)).run prog w= .ok (.string (opS 3)) w:=by kernel_rfl
theorem Te (w:World):(Instr.index 181 (.agg kH) (Vi 4)).run prog w= .ok (.string (opS 4)) w:=by kernel_rfl
theorem Td (w:World):(Instr.index 181 (.agg kH) (Vi 5)).run prog w= .ok (.string (opS 5)) w:=by kernel_rfl
theorem Tc (w:World):(Instr.index 181 (.agg kH) (Vi 6)).run prog w= .ok (.string (opS 6)) w:=by kernel_rfl
theorem Tb (k:Nat) (a:k<7) (w:World):(Instr.index 181 (.agg kH) (Vi k)).run prog w= .ok (.string (opS k)) w:=by
 match k,a with
 |0,_=>exact Ki w
 |1,_=>exact Th w
 |2,_=>exact Tg w
 |3,_=>exact Tf w
 |4,_=>exact Te w
 |5,_=>exact Td w
 |6,_=>exact Tc w
theorem lex_op (s:ByteArray) (w:World) (B:GL w):Cs 107 #[.string s] w fun e w'=>e=Rt (Vu (opOf s.data.toList))∧w=w':=by
 obtain⟨x,z,p⟩:=Re gOps B.ops;rw[<-best_op];go_enter func107,ntmps107;go_wp2_with (refine wpList_load_row rfl 181 (.global 0) rfl 0 rfl x kH z _ p underlying181 rfl rfl ?_)
 go_loop [2,6] (fun c i=>∃k:Nat,k<=7∧i=Vi k∧c=Vu (best k s.data.toList:Nat)) (fun _ i=>8-(intOf i).toNat)
 case atStart=>exact⟨0,by omega,rfl,rfl⟩
 case round=>
  obtain⟨k,A,rfl,rfl⟩:=hrel;by_cases g:k<7
  ·have E:=Tb k g w;have q:best k s.data.toList<7:=by
    rcases Nat.eq_zero_or_pos k with rfl|h
    ·exact(by decide:0<7)
    ·have:=QY k s.data.toList h;omega
   have t:=B.cell _ q;have a:best (k+1) s.data.toList=if qJ k≠[]∧Lib.hasPrefix s.data.toList (qJ k)=true∧(qJ (best k s.data.toList)).length<(qJ k).length then k else best k s.data.toList:=rfl
   rw[<-B7 k,<-B7 (best k s.data.toList)]at a;generalize best k s.data.toList=m at*;clear p B;have b:Cs 138 #[.string s,.string (opS k)] w fun e w'=>e=Rt (Vb (Lib.hasPrefix s.data.toList (qJ k)))∧w'=w:=by
    have:=Tryz.strings_HasPrefix s (opS k) w;rwa [show (opS k).data.toList=qJ k from by simp[opS]]at this
   have u:(opS k).size<=2:=by rw[B7];exact Bq k
   have v:(opS m).size<=2:=by rw[B7];exact Bq m
   by_cases o:k=0
   ·subst o;have C:(opS 0).toList=[]:=by kernel_rfl
    have E:=Ki w;have d:=hiD a;clear a b;go_wp2_with fail
    go_round
    case rel=>exact⟨1,by omega,by go_num,by rw[show best 1 s.data.toList=m from by have:=d.out;simpa[qJ]using this]⟩
    case measure=>simp[intOf]
   ·have f:qJ k≠[]:=by
     have:k=1∨k=2∨k=3∨k=4∨k=5∨k=6:=by omega
     rcases this with rfl|rfl|rfl|rfl|rfl|rfl<;>decide
    have C:¬(opS k).toList=[]:=by
     rw[Uk k g];exact f
    have y:(opS k).toList.isEmpty=false:=by simpa using C
    have r:=hiD f;clear f;by_cases n:Lib.hasPrefix s.data.toList (qJ k)=true
    ·rw[n]at b a;by_cases D:(opS m).size<(opS k).size
     ·rw[if_pos ⟨r.out,rfl,D⟩]at a;have d:=hiD a;clear a;have l:=hiD b;clear b n;go_wp2_with fail;refine l.out.mono ?_;rintro e w' ⟨rfl,rfl⟩;go_wp2_with fail
      go_round
      case rel=>exact⟨k+1,by omega,by go_num,by rw[d.out]⟩
      case measure=>simp[intOf];omega
     ·rw[if_neg (fun h=>D h.2.2)]at a;have d:=hiD a;clear a;have l:=hiD b;clear b n;go_wp2_with fail;refine l.out.mono ?_;rintro e w' ⟨rfl,rfl⟩;go_wp2_with fail
      go_round
      case rel=>exact⟨k+1,by omega,by go_num,by rw[d.out]⟩
      case measure=>simp[intOf];omega
    ·have j:Lib.hasPrefix s.data.toList (qJ k)=false:=by simpa using n
     rw[j]at b;rw[if_neg (fun h=>n h.2.1)]at a;have d:=hiD a;clear a;have l:=hiD b;clear b n j;go_wp2_with fail;refine l.out.mono ?_;rintro e w' ⟨rfl,rfl⟩;go_wp2_with fail
     go_round
     case rel=>exact⟨k+1,by omega,by go_num,by rw[d.out]⟩
     case measure=>simp[intOf];omega
  ·obtain rfl:k=7:=by omega
   clear p B;go_wp2_with fail;go_ret;exact⟨rfl,rfl⟩
theorem L1:En0 104:=enters_of func104 rfl rfl
theorem Jm:En0 106:=enters_of func106 rfl rfl
theorem L2:En0 57:=enters_of func57 rfl rfl
theorem DX (s:ByteArray) (w:World):Cs 56 #[.string s,.func (.func 104) #[] #[]] w (Rw w (Vi (lead digB s.data.toList))):=
 Ib 104 L1 (fun x=>decide (48<=(x:Int)∧(x:Int)<=57)) (fun x W=>SO x W) digB (fun c _=>by unfold digB;congr 1;simp only[eq_iff_iff];omega) (fun n d=>by simp;omega) (fun c a=>by simp[digB];omega) s w
theorem Ga (s:ByteArray) (w:World):Cs 56 #[.string s,.func (.func 106) #[] #[]] w (Rw w (Vi (lead letB s.data.toList))):=
 Ib 106 Jm (fun x=>decide (97<=(x:Int)∧(x:Int)<=122)) (fun x W=>Py x W) letB (fun c _=>by unfold letB;congr 1;simp only[eq_iff_iff];omega) (fun n d=>by simp;omega) (fun c a=>by simp[letB];omega) s w
theorem PH (s:ByteArray) (w:World):Cs 56 #[.string s,.func (.func 57) #[] #[]] w (Rw w (Vi (lead blB s.data.toList))):=
 Ib 57 L2 (fun x=>(x:Int)==32) (fun x W=>SQ x W) blB (fun c _=>by
  unfold blB;by_cases h:c.toNat=32
  ·simp[h]
  ·rw[decide_eq_false h];simp only[beq_eq_false_iff_ne];omega) (fun n d=>by simp only[beq_eq_false_iff_ne];omega) (fun c a=>by simp[blB];omega) s w
theorem Jb (s:ByteArray) (n:Nat) (c:n<=s.size) (d:s.size<=140737488351232) (w:World) (a:G w):
  Cs 105 #[.string (s.extract 0 n)] w fun e w'=>
  e=Rt (.tuple #[Vi (readOf (s.data.toList.take n)).1,Vi (readOf (s.data.toList.take n)).2])∧Bz w w':=by
 have h:(s.extract 0 n).data.toList=s.data.toList.take n:=by simp
 have:=Uo (s.extract 0 n) (by simp;omega) w a;rwa [h]at this
theorem Ro (l:List UInt8) (h:0<lead digB l):tokOf l=if (readOf (l.take (lead digB l))).2=0∧(readOf (l.take (lead digB l))).1<=1099511627776 then (1,(readOf (l.take (lead digB l))).1,lead digB l)else (0,0,0):=by
 unfold tokOf;rw[if_pos h]
theorem Rn (l:List UInt8) (a:¬0<lead digB l) (h:0<lead letB l):tokOf l=if lead letB l=1 then (2,((l.headD 0).toNat:Int)-97,1)else if l.take (lead letB l)=BV then (3,0,lead letB l)else (0,0,0):=by
 unfold tokOf;rw[if_neg a,if_pos h]
theorem T0 (l:List UInt8) (a:¬0<lead digB l) (c:¬0<lead letB l):tokOf l=if 0<opOf l then (4,(opOf l:Int),(qJ (opOf l)).length)else if xm (l.headD 0)=true then (5,((l.headD 0).toNat:Int),1)else (0,0,0):=by
 unfold tokOf;rw[if_neg a,if_neg c]
def Az (s:ByteArray) (w:World) (e:Ending) (w':World):Prop:=
 e=Rt (.tuple #[.agg #[Vu (tokOf s.data.toList).1,Vi (tokOf s.data.toList).2.1,Vi 0],Vi (tokOf s.data.toList).2.2])∧Bz w w'
theorem Oz {s:ByteArray} {w:World} {v:Value} {w':World} {k n:Int} {m:Nat} (h:tokOf s.data.toList=(k,n,m)) (c:v= .tuple #[.agg #[Vu k,Vi n,Vi 0],Vi m]) (a:Bz w w'):Az s w (.returned v) w':=by
 unfold Az;rw[h,c];exact⟨rfl,a⟩
theorem xX {s:ByteArray} {w W:World} {tmps:Array Value} {k n:Int} {m B:Nat} {a:Array Value} (c:tmps.getD 2 undef=Vp B 0) (d:tmps.getD 3 undef=Vi m) (g:Holds W B 88 a)
  (f:a=#[Vu k,Vi n,Vi 0]) (i:tokOf s.data.toList=(k,n,m)) (e:Bz w W):bodyPost prog Tryz.f58 (Az s w) .ret {tmps:=tmps,defers:=[]} W:=by
 subst f;refine bodyPost_ret (xH rfl _ _ B _ _ _ c g underlying88 rfl (by kernel_rfl)) rfl (Oz i ?_ e);rw[d]
theorem xF {W:World} {b:Nat} {x y z:Value} (h:Holds W b 88 #[x,y,z]):W.cell? ⟨b,0,none⟩=some x∧W.cell? ⟨b,1,none⟩=some y∧W.cell? ⟨b,2,none⟩=some z:=⟨h.cell 0,h.cell 1,h.cell 2⟩
theorem vi {w W:World} (h:Bz w W) (x y z:Value):Bz w (((W.setCell ⟨w.1.size,0,none⟩ x).setCell ⟨w.1.size,1,none⟩ y).setCell ⟨w.1.size,2,none⟩ z):=
 ((h.setCell (p:=Ad w.1.size 0) nLe x).setCell (p:=Ad w.1.size 1) nLe y).setCell (p:=Ad w.1.size 2) nLe z
theorem KP (s:ByteArray) (M:s.size<=140737488351232) (w:World) (l:GL w) (L:0<lead digB s.data.toList):Cs 58 #[.string s] w (Az s w):=by
 have v:lead digB s.data.toList<=s.size:=by have:=vg digB s.data.toList;simpa using this
 have c:=Ro s.data.toList L;have A:=fun w=>DX s w;have H:=fun w l=>Jb s (lead digB s.data.toList) v M w l;have k:=Lg (s.data.toList.take (lead digB s.data.toList));generalize lead digB s.data.toList=n at*;generalize readOf (s.data.toList.take n)=r at*;obtain⟨m,u⟩:=r;simp only at c H k;have x:=hiD A;clear A;have t:=hiD H;clear H;by_cases o:u=0∧m<=1099511627776
 ·obtain⟨rfl,E⟩:=o;rw[if_pos ⟨rfl,E⟩]at c;have q:=hiD c;clear c;go_enter func58,ntmps58;go_wp2_with fail;refine zE 0 rfl ?_;go_wp2_with fail;refine(x.out _).mono ?_;rintro e y ⟨rfl,b⟩;have g:=(l.alloc _).mono b;have d:=(bA w _).trans (b.mono (by simp));have j:=(Holds.fresh w 88 #[Vu 0,Vi 0,Vi 0]).later b;clear b;go_wp2_with fail;refine(t.out _ g.g).mono ?_;rintro e B ⟨rfl,f⟩;have i:=d.trans (f.mono d.size);have a:=j.later f;obtain⟨J,z,K⟩:=xF a;have C:=a.free;have p:=a.size;go_wp2_with fail;rw[qU];exact xX rfl rfl (((a.set 0 _).set 1 _).set 2 _) rfl q.out (vi i _ _ _)
 ·rw[if_neg o]at c;have q:=hiD c;clear c;by_cases I:u=0
  ·subst I;have F:¬m<=1099511627776:=fun h=>o ⟨rfl,h⟩;clear o;go_enter func58,ntmps58;go_wp2_with fail;refine zE 0 rfl ?_;go_wp2_with fail;refine(x.out _).mono ?_;rintro e y ⟨rfl,b⟩;have g:=(l.alloc _).mono b;have d:=(bA w _).trans (b.mono (by simp));have j:=(Holds.fresh w 88 #[Vu 0,Vi 0,Vi 0]).later b;clear b;go_wp2_with fail;refine(t.out _ g.g).mono ?_;rintro e B ⟨rfl,f⟩;have i:=d.trans (f.mono d.size);have a:=j.later f;obtain⟨J,z,K⟩:=xF a;have C:=a.free;have p:=a.size;go_wp2_with fail;apply wp_goto;refine xS ?_;go_wp2_with fail;rw[dD];exact xX rfl rfl (((a.set 0 _).set 1 _).set 2 _) rfl q.out (vi i _ _ _)
  ·have D:(u !=0)=true:=by simpa using I
   clear o;go_enter func58,ntmps58;go_wp2_with fail;refine zE 0 rfl ?_;go_wp2_with fail;refine(x.out _).mono ?_;rintro e y ⟨rfl,b⟩;have g:=(l.alloc _).mono b;have d:=(bA w _).trans (b.mono (by simp));have j:=(Holds.fresh w 88 #[Vu 0,Vi 0,Vi 0]).later b;clear b;go_wp2_with fail;refine(t.out _ g.g).mono ?_;rintro e B ⟨rfl,f⟩;have i:=d.trans (f.mono d.size);have a:=j.later f;obtain⟨J,z,K⟩:=xF a;have C:=a.free;have p:=a.size;go_wp2_with fail;apply wp_goto;refine xS ?_;go_wp2_with fail;rw[dD];exact xX rfl rfl (((a.set 0 _).set 1 _).set 2 _) rfl q.out (vi i _ _ _)
theorem Im (s:ByteArray) (h:0<s.size):s.data.toList.headD 0=s[0]:=by
 obtain⟨⟨l⟩⟩:=s;cases l with
 |nil=>exact absurd h (Nat.lt_irrefl 0)
 |cons c r=>rfl
theorem Jz (s:ByteArray) (n:Nat):(s.extract 0 n).toList=s.data.toList.take n:=by
 rw[ByteArray.toList_eq,Lib.extract_data];rfl
theorem KQ (s:ByteArray) (L:s.size<=140737488351232) (w:World) (H:¬0<lead digB s.data.toList) (I:0<lead letB s.data.toList):Cs 58 #[.string s] w (Az s w):=by
 have E:lead letB s.data.toList<=s.size:=by have:=vg letB s.data.toList;simpa using this
 have a:=Rn s.data.toList H I;have q:=fun w=>DX s w;rw[show lead digB s.data.toList=0 from by omega]at q;have F:=fun w=>Ga s w;have j:0<s.size:=by omega
 have t:97<=(s[0].toNat:Int)∧(s[0].toNat:Int)<=122:=by
  obtain⟨c,r,e,t⟩:=(No letB s.data.toList).1 I;have o:s[0]=c:=by rw[<-Im s j,e];rfl
  rw[o];have:97<=c.toNat∧c.toNat<=122:=by simpa[letB]using t
  omega
 obtain⟨B,C⟩:=t;rw[Im s j]at a;generalize lead letB s.data.toList=n at*;have v:=hiD q;clear q H;have p:=hiD F;clear F;by_cases o:n=1
 ·subst o;rw[if_pos rfl]at a;have l:=hiD a;clear a;go_enter func58,ntmps58;go_wp2_with fail;refine zE 0 rfl ?_;go_wp2_with fail;refine(v.out _).mono ?_;rintro e x ⟨rfl,d⟩;have f:=(bA w _).trans (d.mono (by simp));have i:=(Holds.fresh w 88 #[Vu 0,Vi 0,Vi 0]).later d;clear d;go_wp2_with fail;refine(p.out _).mono ?_;rintro e z ⟨rfl,g⟩;have h:=f.trans (g.mono f.size);have b:=i.later g;obtain⟨J,y,K⟩:=xF b;have A:=b.free;have m:=b.size;go_wp2_with fail;rw[qU];exact xX rfl rfl (((b.set 0 _).set 1 _).set 2 _) rfl l.out (vi h _ _ _)
 ·rw[if_neg o]at a;have D:((n:Int)==1)=false:=by simp only[beq_eq_false_iff_ne];omega
  by_cases k:s.data.toList.take n=BV
  ·rw[if_pos k]at a;have u:((s.extract 0 n).toList==[119,105,116,104,105,110])=true:=by rw[Jz,k];rfl
   have l:=hiD a;clear a k;go_enter func58,ntmps58;go_wp2_with fail;refine zE 0 rfl ?_;go_wp2_with fail;refine(v.out _).mono ?_;rintro e x ⟨rfl,d⟩;have f:=(bA w _).trans (d.mono (by simp));have i:=(Holds.fresh w 88 #[Vu 0,Vi 0,Vi 0]).later d;clear d;go_wp2_with fail;refine(p.out _).mono ?_;rintro e z ⟨rfl,g⟩;have h:=f.trans (g.mono f.size);have b:=i.later g;obtain⟨J,y,K⟩:=xF b;have A:=b.free;have m:=b.size;go_wp2_with fail;rw[qU];exact xX rfl rfl (((b.set 0 _).set 1 _).set 2 _) rfl l.out (vi h _ _ _)
  ·rw[if_neg k]at a;have u:((s.extract 0 n).toList==[119,105,116,104,105,110])=false:=by rw[Jz];simpa[BV]using k
   have l:=hiD a;clear a k;go_enter func58,ntmps58;go_wp2_with fail;refine zE 0 rfl ?_;go_wp2_with fail;refine(v.out _).mono ?_;rintro e x ⟨rfl,d⟩;have f:=(bA w _).trans (d.mono (by simp));have i:=(Holds.fresh w 88 #[Vu 0,Vi 0,Vi 0]).later d;clear d;go_wp2_with fail;refine(p.out _).mono ?_;rintro e z ⟨rfl,g⟩;have h:=f.trans (g.mono f.size);have b:=i.later g;obtain⟨J,y,K⟩:=xF b;have A:=b.free;have m:=b.size;go_wp2_with fail;apply wp_goto;refine xS ?_;go_wp2_with fail;rw[dD];exact xX rfl rfl (((b.set 0 _).set 1 _).set 2 _) rfl l.out (vi h _ _ _)
theorem Dy (c:UInt8):∀l:List UInt8,(0<=Lib.indexByte l c↔c∈l)∧-1<=Lib.indexByte l c
 |[]=>by simp[Lib.indexByte]
 |b::l=>by
   obtain⟨e,f⟩:=Dy c l;unfold Lib.indexByte;by_cases a:b=c
   ·subst a;simp
   ·rw[if_neg (by simpa using a)];by_cases d:Lib.indexByte l c=-1
    ·rw[if_pos (by simpa using d)];have:c∉l:=fun h=>by have:=e.2 h;omega
     simp[this,Ne.symm a]
    ·rw[if_neg (by simpa using d)];have:c∈l:=e.1 (by omega);exact⟨⟨fun _=>List.mem_cons_of_mem _ this,fun _=>by omega⟩,by omega⟩
theorem Gy (c:UInt8):0<=Lib.indexByte [33,123,125,91,93,40,41,44,59,38,43,45] c↔xm c=true:=by
 rw[(Dy c _).1];simp[xm,BN]
theorem N7 {W:World} {b a o:Nat} {u:Value} (h:W.cell? ⟨b,o,none⟩=some u) (c:b≠a) (x y z:Value):
  (((W.setCell ⟨a,0,none⟩ x).setCell ⟨a,1,none⟩ y).setCell ⟨a,2,none⟩ z).drew.cell? ⟨b,o,none⟩=some u:=by
 show (((W.setCell ⟨a,0,none⟩ x).setCell ⟨a,1,none⟩ y).setCell ⟨a,2,none⟩ z).cell? ⟨b,o,none⟩=some u;rw[World.cell?_setCell_other _ _ _ _ (fun e=>c (congrArg Addr.block e).symm),World.cell?_setCell_other _ _ _ _ (fun e=>c (congrArg Addr.block e).symm),World.cell?_setCell_other _ _ _ _ (fun e=>c (congrArg Addr.block e).symm)];exact h
theorem Oy (s:ByteArray) (W:0<s.size) (w:World) (p:GL w) (S:¬0<lead digB s.data.toList) (T:¬0<lead letB s.data.toList):Cs 58 #[.string s] w (Az s w):=by
 have a:=T0 s.data.toList S T;have A:=fun w=>DX s w;have n:=fun w=>Ga s w;have Q:=fun w p=>lex_op s w p;rw[show lead digB s.data.toList=0 from by omega]at A;rw[show lead letB s.data.toList=0 from by omega]at n;have E:opOf s.data.toList<7:=by
  cases e:s.data.toList with
  |nil=>exact(by decide:0<7)
  |cons c r=>
    rcases Nat.eq_zero_or_pos (opOf (c::r))with h|h
    ·omega
    ·exact(Hs c r h).2
 rw[Im s W]at a;generalize opOf s.data.toList=o at*;have F:=hiD A;clear A S;have z:=hiD n;clear n T;have D:=hiD Q;clear Q;by_cases J:0<o
 ·rw[if_pos J,<-B7]at a;have q:=hiD a;clear a;go_enter func58,ntmps58;go_wp2_with fail;refine zE 0 rfl ?_;go_wp2_with fail;refine(F.out _).mono ?_;rintro e H ⟨rfl,d⟩;have f:=(bA w _).trans (d.mono (by simp));have l:=(Holds.fresh w 88 #[Vu 0,Vi 0,Vi 0]).later d;clear d;go_wp2_with fail;refine(z.out _).mono ?_;rintro e K ⟨rfl,g⟩;have i:=f.trans (g.mono f.size);have b:=l.later g;have j:=p.mono' i nLe;obtain⟨U,L,V⟩:=xF b;have M:=b.free;have t:=b.size;go_wp2_with fail;refine(D.out _ j).mono ?_;rintro e v ⟨rfl,rfl⟩;have m:=j.cell o E;have B:0≠w.1.size:=by have:=vz (p.cell 0 (by omega));simp only at this;omega
  go_wp2_with fail;have P:(o:Int)<7:=by omega
  have y:=N7 m B (Vu 4) (Vi o) (Vi 0);go_region;go_wp2_with fail;rw[qU];exact xX rfl rfl (((b.set 0 _).set 1 _).set 2 _).drew rfl q.out (vi i _ _ _).drew
 ·rw[if_neg J]at a;obtain rfl:o=0:=by omega
  have R:∀w,Cs 108 #[.string ⟨#[33,123,125,91,93,40,41,44,59,38,43,45]⟩,Vu (s[0].toNat:Int)] w fun e w'=>e=Rt (Vi (Lib.indexByte [33,123,125,91,93,40,41,44,59,38,43,45] s[0]))∧w=w':=by
   intro w;have:=Tryz.strings_IndexByte ⟨#[33,123,125,91,93,40,41,44,59,38,43,45]⟩ (s[0].toNat:Int) w;rw[show ((s[0].toNat:Int)).toNat.toUInt8=s[0]from by simp]at this;exact this.mono fun _ _ h=>⟨h.1,h.2.symm⟩
  have u:=Gy s[0];have O:0<=(s[0].toNat:Int):=by omega
  have N:(s[0].toNat:Int)<256:=by have:=s[0].toNat_lt;omega
  generalize Lib.indexByte [33,123,125,91,93,40,41,44,59,38,43,45] s[0]=x at*;have I:=hiD (R);clear R;by_cases k:xm s[0]=true
  ·rw[if_pos k]at a;have C:=u.2 k;have q:=hiD a;clear a u k;go_enter func58,ntmps58;go_wp2_with fail;refine zE 0 rfl ?_;go_wp2_with fail;refine(F.out _).mono ?_;rintro e H ⟨rfl,d⟩;have f:=(bA w _).trans (d.mono (by simp));have l:=(Holds.fresh w 88 #[Vu 0,Vi 0,Vi 0]).later d;clear d;go_wp2_with fail;refine(z.out _).mono ?_;rintro e K ⟨rfl,g⟩;have i:=f.trans (g.mono f.size);have b:=l.later g;have j:=p.mono' i nLe;obtain⟨U,L,V⟩:=xF b;have M:=b.free;have t:=b.size;go_wp2_with fail;refine(D.out _ j).mono ?_;rintro e v ⟨rfl,rfl⟩;go_wp2_with fail;refine(I.out _).mono ?_;rintro e v ⟨rfl,rfl⟩;go_wp2_with fail;rw[qU];exact xX rfl rfl (((b.set 0 _).set 1 _).set 2 _) rfl q.out (vi i _ _ _)
  ·rw[if_neg k]at a;have C:¬0<=x:=fun h=>k (u.1 h);have q:=hiD a;clear a u k;go_enter func58,ntmps58;go_wp2_with fail;refine zE 0 rfl ?_;go_wp2_with fail;refine(F.out _).mono ?_;rintro e H ⟨rfl,d⟩;have f:=(bA w _).trans (d.mono (by simp));have l:=(Holds.fresh w 88 #[Vu 0,Vi 0,Vi 0]).later d;clear d;go_wp2_with fail;refine(z.out _).mono ?_;rintro e K ⟨rfl,g⟩;have i:=f.trans (g.mono f.size);have b:=l.later g;have j:=p.mono' i nLe;obtain⟨U,L,V⟩:=xF b;have M:=b.free;have t:=b.size;go_wp2_with fail;refine(D.out _ j).mono ?_;rintro e v ⟨rfl,rfl⟩;go_wp2_with fail;refine(I.out _).mono ?_;rintro e v ⟨rfl,rfl⟩;go_wp2_with fail
   go_step3
   go_wp2_with fail;rw[qU];exact xX rfl rfl (((b.set 0 _).set 1 _).set 2 _) rfl q.out (vi i _ _ _)
theorem SM (s:ByteArray) (e:0<s.size) (d:s.size<=140737488351232) (w:World) (c:GL w):Cs 58 #[.string s] w (Az s w):=by
 by_cases a:0<lead digB s.data.toList
 ·exact KP s d w c a
 ·by_cases b:0<lead letB s.data.toList
  ·exact KQ s d w a b
  ·exact Oy s e w c a b
section
attribute [local go_sem] Oper.semAt_some
theorem Ab {W d:World} (c:Bz W d):W.grownBy d none:=⟨c.os,c.tape,c.output,c.size,fun k a _=>c.block k a⟩
theorem qe.later {B:Nat} {I:World->Prop} (h:qe B I) {W a:World} (d:I W) (c:Bz W a):I a:=h W a none d (Ab c) (fun r e=>by cases e)
theorem Gq {F:Fence} {n:Nat} {P:Program} {Q:Exit->Act->World->Prop} {a:Act} {w:World} {c f:Code} (l:Nat) (J:Act->World->Prop) (μ:Act->World->Nat) (i:findLabel c l=some (Code.skip.seq f))
  (g:∀a w,J a w->f.wpIn F n P (Exit.jump l (fun b w'=>J b w'∧μ b w'<μ a w) Q) a w)
  (first:(∀a w,J a w->f.wpIn F n P (Exit.jump l J Q) a w)->c.wpIn F n P (Exit.jump l J Q) a w):(Code.scope c).wpIn F n P Q a w:=by
 refine E6 l J μ i (first fun a w h=>wpIn_mono (g a w h) fun e b w' d=>?_) fun a w h=>wpIn_seq (wpIn_skip (g a w h));cases e<;>first|exact d|exact⟨d.1,d.2.1⟩
theorem EK {l:Nat} {J:Act->World->Prop} {Q:Exit->Act->World->Prop} {a:Act} {w:World} (h:Q .ret a w):Exit.jump l J Q .ret a w:=h
def tokV (t:Tok):Value:= .agg #[Vu t.kind,Vi t.n,Vi t.at']
def E8 (a:List Y) (i:Nat):Array Value:=#[tokV (a.getD i ⟨⟨0,0,0⟩,0⟩).t,Vi (a.getD i ⟨⟨0,0,0⟩,0⟩).m]
def TkAt (s:ByteArray) (l B:Nat) (J:Nat->World->Prop) (c:Nat) (a:Act) (w:World):Prop:=
 ∃i:Nat,i<=(qk 0 s.data.toList).length∧c<=s.size∧(qk 0 s.data.toList).drop i=qk c (s.data.toList.drop c)∧J i w∧
  ∃u4 u5 u6 u7 u8 u9 u10 u11 u12 u13 u14 u15 u16 u17 u18 u19 u20 u21 u22 u23 u24 u25 u26 u27 u28 u29 u30 u31 u32 u33 u34 u35 d:Value,a={tmps:=#[.func (.yield l) #[] #[],Vp B 0,undef,Vi c,u4,u5,u6,u7,u8,u9,u10,u11,u12,u13,u14,u15,u16,u17,u18,u19,u20,u21,u22,u23,u24,u25,u26,u27,u28,u29,u30,u31,u32,u33,u34,u35,d],defers:=[]}
theorem Gx (s:ByteArray) (k:Nat) (w:World):CallsIn Fence.wide 0 prog 56 #[.string (s.extract k s.size),.func (.func 57) #[] #[]] w (Rw w (Vi (lead blB (s.data.toList.drop k)))):=by
 have h:(s.extract k s.size).data.toList=s.data.toList.drop k:=by
  rw[Lib.extract_data,jy (by simp)]
 have:=PH (s.extract k s.size) w;rw[h]at this;exact callsIn_wide.2 this
theorem Ox (s:ByteArray) (d:s.size<=140737488351232) (k:Nat) (c:k<s.size) (w:World) (a:GL w):CallsIn Fence.wide 0 prog 58 #[.string (s.extract k s.size)] w fun e w'=>
  e=Rt (.tuple #[.agg #[Vu (tokOf (s.data.toList.drop k)).1,Vi (tokOf (s.data.toList.drop k)).2.1,Vi 0],Vi (tokOf (s.data.toList.drop k)).2.2])∧Bz w w':=by
 have h:(s.extract k s.size).data.toList=s.data.toList.drop k:=by
  rw[Lib.extract_data,jy (by simp)]
 have:=SM (s.extract k s.size) (by simp;omega) (by simp;omega) w a;unfold Az at this;rw[h]at this;exact callsIn_wide.2 this
theorem Mq (s:ByteArray) (hs:s.size<=140737488351232) (B:Nat):Iter prog 55 #[Vp B 0] (E8 (qk 0 s.data.toList)) (qk 0 s.data.toList).length
  (fun W=>W.cell? ⟨B,0,none⟩=some (.string s)∧GL W):=by
 intro a4 J Jx W x a8 hF D y;refine callsIn_of_wp func55 rfl trivial ?_ rfl;simp only[ntmps55,jW,jF,jO,Nat.reduceAdd,Nat.reduceSub,jR,jQ,jX,jU,jD,jE];gi_wp2;refine Gq 0 (fun a w=>∃b,TkAt s a4 B J b a w) (fun a _=>s.size-(intOf (a.tmps.getD 3 undef)).toNat) rfl ?_ ?_
 ·rintro a w ⟨b,i,hi,a9,c,X,u4,u5,u6,u7,u8,u9,ac,ad,ae,af,ag,ah,ai,aj,ak,al,am,an,ao,ap,aq,ar,au,av,aw,ax,ay,az,a',b0,b1,b2,b3,rfl⟩;obtain⟨hc,hG⟩:=hF i w X;have E:=Gx s b;have p:(s.data.toList.drop b).length=s.size-b:=by simp
  have z:=vg blB (s.data.toList.drop b);have a0:b+lead blB (s.data.toList.drop b)<=s.size:=by omega
  have d:(s.data.toList.drop b).drop (lead blB (s.data.toList.drop b))=s.data.toList.drop (b+lead blB (s.data.toList.drop b)):=by rw[List.drop_drop]
  by_cases l:(s.data.toList.drop b).drop (lead blB (s.data.toList.drop b))=[]
  ·rw[zt _ _ l]at c;have hk:=(xe blB _).1 l;have Z:(qk 0 s.data.toList).length=i:=by
    have:=List.drop_eq_nil_iff.1 c;omega
   have hz:b+lead blB (s.data.toList.drop b)=s.size:=by omega
   generalize lead blB (s.data.toList.drop b)=k at*;have P:=hiD E;clear E;have HZ:((b:Int)+(k:Int)==(s.size:Int))=true:=by simp only[beq_iff_eq];omega
   have Q:=hiD D;clear D;have H:=hiD hF;clear hF;have HS:=hiD c;clear c;have N:=hiD Z;clear Z;clear p l hk hz d z;gi_wp2;refine⟨trivial,rfl,(P.out _).mono ?_⟩;rintro e F ⟨rfl,j⟩;have g:=(x i).later X j;obtain⟨L,q⟩:=H.out i F g;gi_wp2;refine EK (bodyPost_ret (results_none rfl _ _ _) rfl ?_);exact⟨⟨_,rfl⟩,.inl (by rw[N.out];exact g)⟩
  ·have M:lead blB (s.data.toList.drop b)≠(s.data.toList.drop b).length:=fun e=>l ((xe blB _).2 e);have S:b+lead blB (s.data.toList.drop b)<s.size:=by omega
   have n:=fun w=>Ox s hs (b+lead blB (s.data.toList.drop b)) S w;rw[<-d]at n;have K:=BY ((s.data.toList.drop b).drop (lead blB (s.data.toList.drop b)));have O:((s.data.toList.drop b).drop (lead blB (s.data.toList.drop b))).length=s.size-(b+lead blB (s.data.toList.drop b)):=by rw[d];simp
   have a7:((b:Int)+(lead blB (s.data.toList.drop b):Int)==(s.size:Int))=false:=by simp only[beq_eq_false_iff_ne];omega
   by_cases y:(tokOf ((s.data.toList.drop b).drop (lead blB (s.data.toList.drop b)))).2.2=0
   ·rw[xu _ _ l y]at c;rw[y]at n;have r:i<(qk 0 s.data.toList).length∧(qk 0 s.data.toList).length=i+1:=by
     have:=congrArg List.length c;simp only[jj,jF,jO]at this;omega
    have f:E8 (qk 0 s.data.toList) i=#[.agg #[Vu (tokOf ((s.data.toList.drop b).drop (lead blB (s.data.toList.drop b)))).1,Vi (tokOf ((s.data.toList.drop b).drop (lead blB (s.data.toList.drop b)))).2.1,Vi (b+lead blB (s.data.toList.drop b))],Vi 0]:=by
     have:(qk 0 s.data.toList)[i]?=((qk 0 s.data.toList).drop i)[0]?:=by simp
     unfold E8;rw[jx,this,c];rfl
    generalize tokOf ((s.data.toList.drop b).drop (lead blB (s.data.toList.drop b)))=t at*;generalize lead blB (s.data.toList.drop b)=k at*;have P:=hiD E;clear E;have V:=hiD n;clear n;have Q:=hiD D;clear D;have H:=hiD hF;clear hF;have T:=hiD f;clear f;have N:=hiD r.2;have h:=r.1;clear p l d z M K O y c r;gi_wp2;refine⟨trivial,rfl,(P.out _).mono ?_⟩;rintro e F ⟨rfl,j⟩;have g:=(x i).later X j;obtain⟨L,q⟩:=H.out i F g;gi_wp2;refine⟨trivial,rfl,(V.out _ q).mono ?_⟩;rintro e w2 ⟨rfl,A⟩;have C:=(x i).later g A;obtain⟨fn,a6,a2,a3,R,U⟩:=Q.out i _ h ((x i).alloc (Oc #[Vu t.1,Vi t.2.1,Vi (b+k)] 88) C);rw[T.out]at R;gi_wp2;refine⟨rfl,U.mono ?_⟩;rintro e W' (⟨rfl,v⟩|⟨rfl,u⟩)
    ·gi_wp2;refine EK (bodyPost_ret (results_none rfl _ _ _) rfl ?_);exact⟨⟨_,rfl⟩,.inl (by rw[N.out];exact v)⟩
    ·gi_wp2;refine EK (bodyPost_ret (results_none rfl _ _ _) rfl ?_);exact⟨⟨_,rfl⟩,.inr ⟨i,h,u⟩⟩
   ·have I:=c;rw[zJ _ _ l y]at c;have h:i<(qk 0 s.data.toList).length:=by
     have:=congrArg List.length c;simp only[jj,jF]at this;omega
    have f:E8 (qk 0 s.data.toList) i=#[.agg #[Vu (tokOf ((s.data.toList.drop b).drop (lead blB (s.data.toList.drop b)))).1,Vi (tokOf ((s.data.toList.drop b).drop (lead blB (s.data.toList.drop b)))).2.1,Vi (b+lead blB (s.data.toList.drop b))],Vi (tokOf ((s.data.toList.drop b).drop (lead blB (s.data.toList.drop b)))).2.2]:=by
     have:(qk 0 s.data.toList)[i]?=((qk 0 s.data.toList).drop i)[0]?:=by simp
     unfold E8;rw[jx,this,c];rfl
    have o:(qk 0 s.data.toList).drop (i+1)=qk (b+lead blB (s.data.toList.drop b)+(tokOf ((s.data.toList.drop b).drop (lead blB (s.data.toList.drop b)))).2.2) (s.data.toList.drop (b+lead blB (s.data.toList.drop b)+(tokOf ((s.data.toList.drop b).drop (lead blB (s.data.toList.drop b)))).2.2)):=by
     rw[<-List.drop_drop (i:=1),c,dE,ju,List.drop_drop,List.drop_drop]
    generalize tokOf ((s.data.toList.drop b).drop (lead blB (s.data.toList.drop b)))=t at*;obtain⟨kd,a5,m⟩:=t;simp only at*;generalize lead blB (s.data.toList.drop b)=k at*;have P:=hiD E;clear E;have V:=hiD n;clear n;have Q:=hiD D;clear D;have H:=hiD hF;clear hF;have T:=hiD f;clear f;have N:=hiD o;clear o;have aa:0<m:=by omega
    have ab:((m:Int)==0)=false:=by simp only[beq_eq_false_iff_ne];omega
    have a1:b+k+m<=s.size:=by omega
    clear p l d z M K O y c I;gi_wp2;refine⟨trivial,rfl,(P.out _).mono ?_⟩;rintro e F ⟨rfl,j⟩;have g:=(x i).later X j;obtain⟨L,q⟩:=H.out i F g;gi_wp2;refine⟨trivial,rfl,(V.out _ q).mono ?_⟩;rintro e w2 ⟨rfl,A⟩;have C:=(x i).later g A;obtain⟨fn,a6,a2,a3,R,U⟩:=Q.out i _ h ((x i).alloc (Oc #[Vu kd,Vi a5,Vi (b+k)] 88) C);rw[T.out]at R;gi_wp2;refine⟨rfl,U.mono ?_⟩;rintro e W' (⟨rfl,v⟩|⟨rfl,u⟩)
    ·gi_wp2;apply wpIn_goto;refine⟨rfl,⟨b+k+m,i+1,h,a1,N.out,v,_,_,_,_,_,_,_,_,_,_,_,_,_,_,_,_,_,_,_,_,_,_,_,_,_,_,_,_,_,_,_,_,_,rfl⟩,?_⟩;simp[intOf];omega
    ·gi_wp2;refine EK (bodyPost_ret (results_none rfl _ _ _) rfl ?_);exact⟨⟨_,rfl⟩,.inr ⟨i,h,u⟩⟩
 ·intro hp;gi_wp2;apply wpIn_label;rename_i hK;refine hK _ _ (hp _ _ ⟨0,0,jg _,jg _,rfl,y,_,_,_,_,_,_,_,_,_,_,_,_,_,_,_,_,_,_,_,_,_,_,_,_,_,_,_,_,_,_,_,_,_,rfl⟩)
theorem qe.holds {B:Nat} (b:Nat) (t:TypeId) (i:Array Value):qe B (fun W=>Holds W b t i):=
 fun W g l j f k=>j.grown f (fun e=>by
  obtain⟨_,o,c,d⟩:=k b e.symm;have a:W.1[b]?=some (.cells i t (0,0)):=j;rw[a]at c;cases c;cases d)
theorem Px (s:ByteArray) (w:World):Cs 32 #[.string s] w fun e w'=>
  e=Rt (.func (.func 55) #[] #[Vp w.1.size 0])∧w.alloc (Oc #[.string s] 9)=w':=by
 go_enter func32,ntmps32;go_wp2_with fail;go_ret;exact⟨rfl,rfl⟩
theorem Jh:En0 55:=enters_of func55 rfl rfl
theorem Nq {W a:World} (k:KeepsOthers W a):KeepsOthers W a.drew:=⟨k.size,k.same⟩
theorem Bf:∀(n a:Nat) (l:List UInt8),l.length<=n->(qk a l).length<=l.length:=by
 intro n
 induction n with
 |zero=>
   intro a l f;obtain rfl:l=[]:=jV (by omega);rw[zt a [] (by simp)];simp
 |succ n ih=>
   intro a l f;by_cases h:l.drop (lead blB l)=[]
   ·rw[zt a l h];simp
   ·have b:0<(l.drop (lead blB l)).length:=by
     rcases e:l.drop (lead blB l)with _|⟨c,r⟩
     ·exact absurd e h
     ·simp
    by_cases d:(tokOf (l.drop (lead blB l))).2.2=0
    ·rw[xu a l h d];simp only[jj]at b;simp only[jF,jO];omega
    ·rw[zJ a l h d];have:=ih (a+lead blB l+(tokOf (l.drop (lead blB l))).2.2) ((l.drop (lead blB l)).drop (tokOf (l.drop (lead blB l))).2.2) (by simp only[jj]at b⊢;omega);simp only[jj]at b this;simp only[jF];omega
theorem A8 (W:World) (c:List Value) (t:TypeId) (j:Nat) (u:Value) (d:c[j]?=some u):(W.alloc (Oc c.toArray t)).cell? ((⟨W.1.size,0,none⟩:Addr).add j)=some u:=by
 have a:(W.alloc (Oc c.toArray t)).1[W.1.size]?=some (Oc c.toArray t):=dB W _;have e:((Ad W.1.size 0):Addr).add j=(Ad W.1.size j):=by unfold Addr.add;split<;>simp_all
 rw[e,cell_of_row _ _ _ _ _ _ a];simpa using d
def yg (a:List Tok):List Value:=a.flatMap fun t=>[Vu t.kind,Vi t.n,Vi t.at']
theorem Do (a:List Tok) (t:Tok):yg (a++[t])=yg a++[Vu t.kind,Vi t.n,Vi t.at']:=by simp[yg]
def BF (l:List UInt8) (w:World) (e:Ending) (w':World):Prop:=
 ∃v,e=Rt (.tuple #[v,Vi (zZ l).2.1,Vi (zZ l).2.2])∧w'.ownsRow w.1.size 88 3 v (zZ l).1.length (yg (zZ l).1)∧Bz w w'
theorem Ec {l:List UInt8} {w w':World} {v u:Value} {a:List Tok} {p c:Int} (h:zZ l=(a,p,c)) (f:u= .tuple #[v,Vi p,Vi c]) (e:w'.ownsRow w.1.size 88 3 v a.length (yg a)) (d:Bz w w'):
  BF l w (.returned u) w':=by
 unfold BF;rw[h];exact⟨v,by rw[f],e,d⟩
theorem Va (s:ByteArray) (d:s.size<=140737488351232) (h:2000<s.size) (w:World):Cs 12 #[.string s] w (BF s.data.toList w):=by
 have c:zZ s.data.toList=([],2000,91):=by unfold zZ;rw[if_pos (by simpa using h)]
 have a:=hiD c;clear c;refine qH func12 rfl ?_;simp only[ntmps12,jW,jF,jO,Nat.reduceAdd,Nat.reduceSub,jR,jQ,jX,jU,jD,jE];go_wp2_with fail;refine DP (v:= .tuple #[Vn,Vi 2000,Vi 91]) (by simp[results,results12,go_sem]) (Ec a.out rfl (js _ _ _ _) ?_);exact(bB.alloc (by simp) _).alloc (by simp;omega) _
def Vg (s:ByteArray) (w:World) (i:Nat) (W:World):Prop:=
 (∃v,Boxed W w.1.size 48 v∧W.ownsRow w.1.size 88 3 v i (yg (((qk 0 s.data.toList).take i).map (·.t))))∧
  Boxed W (w.1.size+1) 3 (Vi 0)∧Boxed W (w.1.size+1+1) 26 (Vi 0)∧Boxed W (w.1.size+1+1+1) 9 (.string s)∧Bz w W∧good ((qk 0 s.data.toList).take i)
def Vf (s:ByteArray) (w:World) (c:Code) (i:Nat) (W:World):Prop:=
 c= .ret∧Boxed W w.1.size 48 Vn∧Boxed W (w.1.size+1) 3 (Vi ((qk 0 s.data.toList).getD i ⟨⟨0,0,0⟩,0⟩).t.at')∧Boxed W (w.1.size+1+1) 26 (Vi 70)∧Bz w W∧
  good ((qk 0 s.data.toList).take i)∧((qk 0 s.data.toList).getD i ⟨⟨0,0,0⟩,0⟩).m=0
theorem TJ (s:ByteArray) (h:s.size<=2000) (w:World) (hG:GL w):Cs 12 #[.string s] w (BF s.data.toList w):=by
 refine qH func12 rfl ?_;simp only[ntmps12,jW,jF,jO,Nat.reduceAdd,Nat.reduceSub,jR,jQ,jX,jU,jD,jE];go_wp2_with fail;refine(Px _ _).mono ?_;rintro e H ⟨rfl,rfl⟩;go_wp2_with fail;obtain⟨i0,Z,a2,a1,ac⟩:=info_parts (by kernel_rfl:(prog.info? 88).map (fun i=>(i.zero,i.size,i.bytes))=some (some (.agg #[Vu 0,Vi 0,Vi 0]),3,24));refine Ak rfl Jh (Mq s (by omega) (w.1.size+1+1+1)) (fun _=>rfl) (Vg s w) (Vf s w) ?_ ?_ ?_ ?_
  (fun i U W=>∃b,w.1.size+1+1+1<b∧Holds W b 88 #[Vu ((qk 0 s.data.toList).getD i ⟨⟨0,0,0⟩,0⟩).t.kind,Vi ((qk 0 s.data.toList).getD i ⟨⟨0,0,0⟩,0⟩).t.n,Vi ((qk 0 s.data.toList).getD i ⟨⟨0,0,0⟩,0⟩).t.at']∧
   U={tmps:=#[.string s,undef,Vp w.1.size 0,Vp (w.1.size+1) 0,Vp (w.1.size+1+1) 0,Vp b 0,Vi ((qk 0 s.data.toList).getD i ⟨⟨0,0,0⟩,0⟩).m,
    .string s,Vi s.size,Vb (decide (2000<(s.size:Int))),.string s,.func (.func 55) #[] #[Vp (w.1.size+1+1+1) 0],
    tokV ((qk 0 s.data.toList).getD i ⟨⟨0,0,0⟩,0⟩).t,Vi ((qk 0 s.data.toList).getD i ⟨⟨0,0,0⟩,0⟩).m,undef,undef,undef,undef,undef,undef,undef,undef,undef,undef,undef,undef,undef,undef],defers:=[]})
  ?_ ?_ ?_ ?_ ?_
 ·intro i;exact(qe.row _ _ _ _ _ _ _).and ((qe.boxed _ _ _).and ((qe.boxed _ _ _).and ((qe.boxed _ _ _).and ((qe.below (by simp;omega) nLe).and (qe.pure _)))))
 ·intro af i;exact(qe.pure _).and ((qe.boxed _ _ _).and ((qe.boxed _ _ _).and ((qe.boxed _ _ _).and ((qe.below (by simp;omega) nLe).and ((qe.pure _).and (qe.pure _))))))
 ·rintro i W ⟨_,_,_,O,A,_⟩;exact⟨O.cell,hG.mono' A nLe⟩
 ·refine⟨⟨_,(((vh rfl _ _).alloc _).alloc _).alloc _,js _ _ _ _⟩,((vh (by simp) _ _).alloc _).alloc _,(vh (by simp) _ _).alloc _,vh (by simp) _ _,?_,fun y j=>by simp at j⟩;exact((bB.alloc (by simp) _).alloc (by simp;omega) _).alloc (by simp;omega) _
 ·intro i U;exact qe.ex fun b=>(qe.pure _).and ((qe.holds _ _ _).and (qe.pure _))
 ·intro ad i W ak Z X hK;have ai:w.1.size+1+1+1<W.1.size:=X.2.2.2.1.lt;have a0:=fun o=>(show qe w.1.size (Vg s w i)from(qe.row _ _ _ _ _ _ _).and ((qe.boxed _ _ _).and ((qe.boxed _ _ _).and ((qe.boxed _ _ _).and ((qe.below nLe nLe).and (qe.pure _)))))).alloc o X;have HI:=hiD a0;clear a0 X;unfold E8 tokV;unfold tokV at hK;generalize (qk 0 s.data.toList).getD i ⟨⟨0,0,0⟩,0⟩=y at*;gi_wp2;exact hK _ _ ((KeepsOthers.alloc W _).from _) (HI.out _) ⟨W.1.size,ai,Holds.fresh _ _ _,rfl⟩
 ·rintro ad i U W hl g ⟨⟨v,l,c⟩,E,F,O,A,B⟩ ⟨b,hb,hh,rfl⟩;have a8:(qk 0 s.data.toList)[i]?=some ((qk 0 s.data.toList).getD i ⟨⟨0,0,0⟩,0⟩):=by simp[g]
  have aj:=hiD a8;clear a8;by_cases M:((qk 0 s.data.toList).getD i ⟨⟨0,0,0⟩,0⟩).m=0
  ·have a7:Vf s w .ret i=fun W=>(Code.ret= .ret∧Boxed W w.1.size 48 Vn∧Boxed W (w.1.size+1) 3 (Vi ((qk 0 s.data.toList).getD i ⟨⟨0,0,0⟩,0⟩).t.at')∧Boxed W (w.1.size+1+1) 26 (Vi 70)∧Bz w W∧
  good ((qk 0 s.data.toList).take i)∧((qk 0 s.data.toList).getD i ⟨⟨0,0,0⟩,0⟩).m=0):=rfl
   have HO:=hiD a7;clear a7;have T:=hiD B;clear B;generalize j:(qk 0 s.data.toList).getD i ⟨⟨0,0,0⟩,0⟩=y at*;obtain⟨⟨K,a6,x⟩,ae⟩:=y;simp only at M;subst M;have HY:=hiD j;clear j;have a4:W.cell? ⟨b,2,none⟩=some (Vi x):=hh.cell 2;have a3:=l.cell;have al:=E.cell;have J:=F.cell;have ao:=l.frozen;have ap:=E.frozen;have aq:=F.frozen;gi_wp2;refine vx ad 2 (by kernel_rfl) (by kernel_rfl) (fun ⟨_,_,h⟩=>h) (by kernel_rfl) (fun W'=>W'.cell? ⟨b,2,none⟩=some (Vi x)) a4 (fun _ _ _ _ _ h=>h) ?_;simp only[jm,dF,dE,ju];refine qA rfl (fun w' hS=>by (go_simp<;>rfl)) ?_;refine qA rfl (fun w' hS=>by (go_simp<;>rfl)) ?_;simp only[Act.put,jC,jL,jK];refine CU ?_;refine vV rfl ?_;go_simp;refine vV rfl ?_;go_simp;refine vV rfl ?_;go_simp;gi_wp2;refine⟨(Nq (((KeepsOthers.setCell W ⟨w.1.size,0,none⟩ Vn).trans (KeepsOthers.setCell _ ⟨w.1.size+1,0,none⟩ (Vi x))).trans (KeepsOthers.setCell _ ⟨w.1.size+1+1,0,none⟩ (Vi 70)))).from _,rfl,?_,?_,?_,?_,T.out,by rw[HY.out]⟩
   ·exact((l.set _).other (by omega) _).other (by omega) _
   ·rw[HY.out];exact((E.other (by omega) _).set _).other (by omega) _
   ·exact((F.other (by omega) _).other (by omega) _).set _
   ·exact(((A.setCell (p:=⟨w.1.size,0,none⟩) nLe _).setCell (p:=⟨w.1.size+1,0,none⟩) (by simp) _).setCell (p:=⟨w.1.size+1+1,0,none⟩) (by simp;omega) _).drew
  ·have a9:good ((qk 0 s.data.toList).take (i+1)):=by
    rw[ja g];intro y j;rcases List.mem_append.1 j with j|j
    ·exact B y j
    ·obtain rfl:=List.mem_singleton.1 j;simpa[jx,g]using M
   have ab:yg (((qk 0 s.data.toList).take (i+1)).map (·.t))=yg (((qk 0 s.data.toList).take i).map (·.t))++[Vu ((qk 0 s.data.toList).getD i ⟨⟨0,0,0⟩,0⟩).t.kind,Vi ((qk 0 s.data.toList).getD i ⟨⟨0,0,0⟩,0⟩).t.n,Vi ((qk 0 s.data.toList).getD i ⟨⟨0,0,0⟩,0⟩).t.at']:=by
    rw[ja g,dC,List.map_singleton,Do];simp[jx,g]
   have ar:i<2001:=by
    have:=Bf _ 0 s.data.toList nLe;have hl:s.data.toList.length=s.size:=by simp
    omega
   have HT:=hiD ab;clear ab;have T:=hiD a9;clear a9 B;generalize j:(qk 0 s.data.toList).getD i ⟨⟨0,0,0⟩,0⟩=y at*;obtain⟨⟨K,a6,x⟩,ae⟩:=y;simp only at M;have au:((ae:Int)==0)=false:=by simp only[beq_eq_false_iff_ne];omega
   obtain⟨am,an,a4⟩:=xF hh;have a3:=l.cell;clear M j;have P:w.1.size<=(W.alloc (Oc #[Vu K,Vi a6,Vi x] 88)).1.size:=by have:=A.size;simp;omega
   have av:=vh (rfl:W.1.size=W.1.size) 88 (Vu K);gi_wp2_with (gi_at_builtin;refine wpListIn_append_own _ rfl (.tmp 18) (.tmp 20) 48 rfl w.1.size 88 i0 (.agg #[Vu 0,Vi 0,Vi 0]) 3 24 underlying48 Z a2 a1 ac rfl (by decide) v i (yg (((qk 0 s.data.toList).take i).map (·.t))) rfl (c.alloc _) ⟨W.1.size,0,none⟩ 1 1 [Vu K,Vi a6,Vi x] rfl rfl ?c1 ?c2 ?c3 ?c4 P ?_);case c2=>exact⟨rfl,rfl,rfl⟩
   case c3=>unfold maxLen;omega
   case c4=>omega
   intro v' H a d _;obtain⟨u,t,rfl⟩:=qh a;obtain⟨C,Q,I,N,J⟩:=l.appended (by decide) c A.size nLe a d;have m:∀r o,W.1[r]?=some o->v.ownBlock≠some r->H.1[r]?=some o:=fun r o k R=>
    (d.block r (by have:=(jA.1 k).1;simp;omega) (fun e=>R e.symm)).trans ((Below.heap_alloc W _ r (jA.1 k).1).trans k)
   have n:Boxed H (w.1.size+1) 3 (Vi 0):=m _ _ E (fun e=>(E.not_row (by decide) c) e.symm);have S:Boxed H (w.1.size+1+1) 26 (Vi 0):=m _ _ F (fun e=>(F.not_row (by decide) c) e.symm);have k3:Boxed H (w.1.size+1+1+1) 9 (.string s):=m _ _ O (fun e=>(O.not_row (by decide) c) e.symm);have kv:=C.cell;have kf:=C.frozen;gi_wp2;refine⟨N.from _,⟨_,Q,?_⟩,n.other (by omega) _,S.other (by omega) _,k3.other (by omega) _,A.trans J,T.out⟩;rw[HT.out];simpa using I
 ·rintro D W V ⟨⟨v,l,c⟩,E,F,O,A,B⟩ q;have f:zZ s.data.toList=((qk 0 s.data.toList).map (·.t)++[⟨0,0,s.data.toList.length⟩],0,0):=by
   unfold zZ;rw[if_neg (by simp;omega),List.find?_eq_none.2 ?_];intro y j;rw[jn]at B;have:=B y j;simpa using this
  rw[jn]at c;have a5:=Bf _ 0 s.data.toList nLe;rw[show s.data.toList.length=s.size from by simp]at f a5;have L:=hiD f;clear f B;have a3:=l.cell;have P:w.1.size<=(W.alloc (Oc #[Vu 0,Vi 0,Vi s.size] 88)).1.size:=by have:=A.size;simp;omega
  go_wp2_with (at_builtin;refine wpList_append_own _ rfl (.tmp 22) (.tmp 26) 48 rfl w.1.size 88 i0 (.agg #[Vu 0,Vi 0,Vi 0]) 3 24 underlying48 Z a2 a1 ac rfl (by decide) v (qk 0 s.data.toList).length (yg ((qk 0 s.data.toList).map (·.t))) rfl (c.alloc _) ⟨W.1.size,0,none⟩ 1 1 [Vu 0,Vi 0,Vi s.size] rfl rfl ?d1 ?d2 ?d3 ?d4 P ?_);case d1=>exact A8 W [Vu 0,Vi 0,Vi s.size] 88
  case d2=>
   intro a' hu;simp only[jI,jH,or_false]at hu;rcases hu with rfl|rfl|rfl<;>rfl
  case d3=>unfold maxLen;omega
  case d4=>omega
  intro v' H a d _;obtain⟨u,t,rfl⟩:=qh a;obtain⟨C,Q,I,N,J⟩:=l.appended (by decide) c A.size nLe a d;have m:∀r o,W.1[r]?=some o->v.ownBlock≠some r->H.1[r]?=some o:=fun r o k R=>
   (d.block r (by have:=(jA.1 k).1;simp;omega) (fun e=>R e.symm)).trans ((Below.heap_alloc W _ r (jA.1 k).1).trans k)
  have n:Boxed H (w.1.size+1) 3 (Vi 0):=m _ _ E (fun e=>(E.not_row (by decide) c) e.symm);have S:Boxed H (w.1.size+1+1) 26 (Vi 0):=m _ _ F (fun e=>(F.not_row (by decide) c) e.symm);have kv:=C.cell;have kf:=C.frozen;have ay:=n.cell;have aw:=n.frozen;have az:=S.cell;have ax:=S.frozen;go_wp2_with fail;have g1:=(Q.other (show w.1.size≠w.1.size+1 by omega) (Vi 0)).other (show w.1.size≠w.1.size+1+1 by omega) (Vi 0);have g2:=((n.other (show w.1.size+1≠w.1.size by omega) (Sq u ((qk 0 s.data.toList).length+1) t)).set (Vi 0)).other (show w.1.size+1≠w.1.size+1+1 by omega) (Vi 0);have g3:=((S.other (show w.1.size+1+1≠w.1.size by omega) (Sq u ((qk 0 s.data.toList).length+1) t)).other (show w.1.size+1+1≠w.1.size+1 by omega) (Vi 0)).set (Vi 0);have z:=(KeepsOthers.setCell _ ⟨w.1.size+1+1,0,none⟩ (Vi 0)).same D _ ((KeepsOthers.setCell _ ⟨w.1.size+1,0,none⟩ (Vi 0)).same D _ (N.same D _ q rfl) rfl) rfl;have aa:=(I.kept (grownBy_setCell' _ (w.1.size+1) (Vi 0)) (.inr ((n.other (show w.1.size+1≠w.1.size by omega) _).not_row (by decide) I).symm));have ag:=aa.kept (grownBy_setCell' _ (w.1.size+1+1) (Vi 0)) (.inr (((S.other (show w.1.size+1+1≠w.1.size by omega) _).other (show w.1.size+1+1≠w.1.size+1 by omega) _).not_row (by decide) aa).symm);have q1:=qW (c:= .deferred none) z rfl g1.cell;have q2:=qW (c:= .deferred none) z rfl g2.cell;have q3:=qW (c:= .deferred none) z rfl g3.cell;refine qZ (v:= .tuple #[Sq u ((qk 0 s.data.toList).length+1) t,Vi 0,Vi 0]) z (by simp[results,results12,go_sem,q1,q2,q3]) (Ec L.out rfl ?_ (qB (((A.trans J).setCell (p:=⟨w.1.size+1,0,none⟩) (by simp) _).setCell (p:=⟨w.1.size+1+1,0,none⟩) (by simp;omega) _) z (by simp at V;omega)));rw[Do];have ah:=ownsRow_putObj ag (.deferred none) z rfl;simpa using ah
 ·rintro D af i W V g ⟨rfl,E,F,O,A,B,M⟩ q;have f:zZ s.data.toList=([],((qk 0 s.data.toList).getD i ⟨⟨0,0,0⟩,0⟩).t.at',70):=by
   have hf:(qk 0 s.data.toList).find? (fun y=>y.m==0)=some ((qk 0 s.data.toList).getD i ⟨⟨0,0,0⟩,0⟩):=by
    rw[List.find?_eq_some_iff_append];refine⟨by simpa using M,(qk 0 s.data.toList).take i,(qk 0 s.data.toList).drop (i+1),?_,fun y j=>by have:=B y j;simpa using this⟩;rw[jx,jB g,Option.getD_some,<-je g,jv]
   unfold zZ;rw[if_neg (by simp;omega),hf]
  have L:=hiD f;clear f B M;generalize ((qk 0 s.data.toList).getD i ⟨⟨0,0,0⟩,0⟩).t.at'=p at*;apply wp_ret;have q1:=qW (c:= .deferred none) q rfl E.cell;have q2:=qW (c:= .deferred none) q rfl F.cell;have q3:=qW (c:= .deferred none) q rfl O.cell;refine qZ (v:= .tuple #[Vn,Vi p,Vi 70]) q (by simp[results,results12,go_sem,q1,q2,q3]) (Ec L.out rfl (js _ _ _ _) (qB A q (by simp at V;omega)))
theorem QK (s:ByteArray) (c:s.size<=140737488351232) (w:World) (a:GL w):Cs 12 #[.string s] w (BF s.data.toList w):=by
 by_cases h:s.size<=2000
 ·exact TJ s h w a
 ·exact Va s c (by omega) w
end
def kt (w:World) (a:Option Addr) (c:List Tok):Prop:=
 c=[]∨∃b d,a=some ⟨b,d,none⟩∧∀i (h:i<c.length),w.cell? ⟨b,d+i*3,none⟩=some (Vu c[i].kind)∧w.cell? ⟨b,d+i*3+1,none⟩=some (Vi c[i].n)∧w.cell? ⟨b,d+i*3+2,none⟩=some (Vi c[i].at')
theorem kt.mono {w w':World} {B:Nat} {a:Option Addr} {g:List Tok} (e:Below B w w') (d:w.1.size<=B) (h:kt w a g):kt w' a g:=by
 rcases h with rfl|⟨b,j,rfl,c⟩
 ·exact .inl rfl
 ·exact .inr ⟨b,j,rfl,fun i f=>⟨qd e d (c i f).1,qd e d (c i f).2.1,qd e d (c i f).2.2⟩⟩
theorem kt.get {w:World} {a:Option Addr} {e:List Tok} (h:kt w a e) (i:Nat) (f:i<e.length):∃b d,a=some ⟨b,d,none⟩∧
  w.cell? ⟨b,d+i*3,none⟩=some (Vu e[i].kind)∧w.cell? ⟨b,d+i*3+1,none⟩=some (Vi e[i].n)∧w.cell? ⟨b,d+i*3+2,none⟩=some (Vi e[i].at'):=by
 rcases h with rfl|⟨b,d,rfl,c⟩
 ·simp at f
 ·exact⟨b,d,rfl,c i f⟩
theorem Eh:∀(a:List Tok) (i:Nat) (h:i<a.length),(yg a)[i*3]?=some (Vu a[i].kind)∧(yg a)[i*3+1]?=some (Vi a[i].n)∧(yg a)[i*3+2]?=some (Vi a[i].at')
 |[],_,h=>by simp at h
 |t::a,0,_=>by simp[yg]
 |t::a,i+1,h=>by
   have:=Eh a i (by simpa using h);have e:yg (t::a)=Vu t.kind::Vi t.n::Vi t.at'::yg a:=by simp[yg]
   rw[e,show (i+1)*3=i*3+1+1+1 from by omega];simpa using this
theorem FK {w:World} {q k:Nat} {E:TypeId} {v:Value} {l:List Tok} (h:w.ownsRow q E 3 v k (yg l)) (n:l.length=k):∃a m,v=Sq a l.length m∧l.length<=m∧kt w a l:=by
 rcases h.2 with⟨rfl,o⟩|⟨g,m,d,rfl,_,j,f,_⟩
 ·have:k=0:=by have:=h.1;rw[o]at this;simp at this;omega
  subst this;obtain rfl:=jV n;exact⟨none,0,rfl,Nat.le_refl _,.inl rfl⟩
 ·refine⟨some (Ad g 0),m,by rw[n],by omega,.inr ⟨g,0,rfl,fun i p=>?_⟩⟩;obtain⟨e,c,b⟩:=Eh l i p;refine⟨?_,?_,?_⟩
  ·rw[dG,h.cellAt (i*3) (by omega),e]
  ·rw[dG,h.cellAt (i*3+1) (by omega),c]
  ·rw[dG,h.cellAt (i*3+2) (by omega),b]
def Mem (T:TypeId) (W c:World):Prop:=∀b a,Holds W b T a->Holds c b T a
theorem Mem.trans {T:TypeId} {W c d:World} (h:Mem T W c) (f:Mem T c d):Mem T W d:=fun b e a=>f b e (h b e a)
theorem Mem.putObj {T:TypeId} {W:World} {l:Nat} {o:Obj} (i:Obj) (e:W.1[l]?=some o) (g:o.isCells=false):Mem T W (W.putObj l i):=fun b f d=>by
 have a:b≠l:=by
  rintro rfl;have c:W.1[b]?=some (.cells f T (0,0)):=d;rw[c]at e;cases e;cases g
 exact(jc a).trans d
def Ky (P:Program) (g:Nat) (j:Array Value) (f:Nat->Array Value) (N:Nat) (d:World->Prop) (T:TypeId):Prop:=
 ∀(l:Nat) (J:Nat->World->Prop) (W:World),(∀i,qe W.1.size (J i))->(∀i W,J i W->d W)->
  (∀i c,i<N->J i c->YieldAt Fence.wide 0 P l (f i) c fun e a=>e=Rt (Vb true)∧J (i+1) a∧Mem T c a)->
  J 0 W->CallsIn Fence.wide 0 P g (#[.func (.yield l) #[] #[]]++j) W fun e a=>(∃v,e=Rt v)∧J N a
def tpost (B:Nat) (I:Nat->World->Prop) (T:TypeId) (i:Nat) (W:World):Exit->Act->World->Prop
 |.normal,_,W'=>KeepsFrom B W W'∧I (i+1) W'∧Mem T W W'
 |_,_,_=>False
theorem Mem.put {T:TypeId} {r:Nat} {W c:World} (p:Vq r W c):Mem T W c:=by
 obtain⟨o,d,b,a,rfl⟩:=p;exact Mem.putObj _ b a
theorem Ok {P:Program} {g:Operand} {x:Array Tmp} {A C:Code} {Q:Exit->Act->World->Prop} {a:Act} {w:World}
  {r:Nat} {E:Array Value} (R:a.eval g= .func (.func r) #[] E) (F:∀z w,(callFunc r z).run P w= .ok (.enter r z) w)
  {u:Nat->Array Value} {N:Nat} {y:World->Prop} {T:TypeId} (S:Ky P r E u N y T) (V:∀i,(u i).size=x.size)
  (I:Nat->World->Prop) (n:∀i,qe w.1.size (I i)) (J:∀i W,I i W->y W) (H:I 0 w)
  (B:Nat->Act)
  (L:∀(l i:Nat) (W:World) (K:Act->World->Prop),i<N->K (B i) W->
   A.wpIn (Fence.wide.inRound l) 0 P (Exit.then K (fun _ _ _=>False)) {tmps:=(x.zip (u i)).foldl (fun a0 (p,v)=>a0.setIfInBounds p v) a.tmps,defers:=[]} W)
  (M:∀(l i:Nat) (W:World),w.1.size<=l->i<N->I i W->C.wpIn (Fence.wide.inRound l) 0 P (tpost w.1.size I T i W) (B i) W)
  (O:∀(D:Nat) (W:World),w.1.size<=D->I N W->W.1[D]?=some (.deferred (some []))->Q .normal {a with defers:=mark D::a.defers} W):
  (Code.rangeFunc g x A C).wp P Q a w:=by
 refine Vo R F fun f d j hs q k=>?_;refine(S (w.1.size+1) (fun i W=>I i W∧LR w.1.size (d .ready none) W) f (fun i=>((n i).mono (by omega)).and (LR.stable _ _ (by omega))) (fun i W h=>J i W h.1) ?_ ⟨(n 0).on H j,q⟩).mono ?_
 ·rintro i W s ⟨U,X⟩;refine k W _ _ X (V i) (L _ i W _ s ⟨KeepsFrom.refl _ _,fun a4 t=>wpIn_mono (M _ i _ (by omega) s ((n i).put U (by omega) t)) ?_⟩);rintro e a3 m c;cases e<;>first
   |exact c.elim
   |exact⟨c.1,fun a2 b q=>⟨rfl,⟨(n _).put c.2.1 (by omega) b,q⟩,((Mem.put t).trans c.2.2).trans (Mem.put b)⟩⟩
 ·rintro e a1 ⟨Z,s,q⟩;exact⟨Z,.inl ⟨q,fun m t o=>O _ _ nLe ((n _).put s (by omega) t) o⟩⟩
end Go.Proofs.YtnmpcdnbklmhkaaGreatDoor
