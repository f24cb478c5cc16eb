import Derived.Test.YtnmpcdnbklmhkaaGreatDoorQAa
import Derived.Test.YtnmpcdnbklmhkaaGreatDoorQAb
import Derived.Test.YtnmpcdnbklmhkaaGreatDoorQAd
import Derived.Test.YtnmpcdnbklmhkaaGreatDoorQAc
import Derived.Laws.Externs
import Derived.Laws.ComplexArith
import Derived.StillTailTactics
import Derived.Deep.QuietTactic
import Derived.BigQuiet
import Derived.Deep.RegionHeld3
import Derived.Deep.DrawnRows
namespace Go.Proofs.YtnmpcdnbklmhkaaGreatDoor
open Go.Proofs.Tryz Go.RowKit
set_option maxRecDepth 100000
set_option maxHeartbeats 8000000
def Vd (a b:Int):Int×Int:=if (decide (wrap64 (a+b)<a))!=(decide (b<0))then (0,12)else (wrap64 (a+b),0)
def GZ (a b:Int):Int×Int:=if (decide (a<wrap64 (a-b)))!=(decide (b<0))then (0,12)else (wrap64 (a-b),0)
theorem num_Sub (a b:Int) (w:World):Cs 251 #[Vi a,Vi b] w fun e w'=>
  e=Rt (.tuple #[Vi (GZ a b).1,Vi (GZ a b).2])∧w=w':=by
 go_enter func251,ntmps251;go_wp2;refine zE 0 rfl ?_;go_wp2
 ·have h:(!decide (a<wrap64 (a-b))==decide (b<0))=true:=by assumption
  apply wp_goto;refine xS ?_;go_wp2;rw[dD];go_ret2;rw[GZ,if_pos (by rw[<-h];rfl)];exact⟨rfl,rfl⟩
 ·have h:(!decide (a<wrap64 (a-b))==decide (b<0))=false:=by assumption
  rw[qU];go_ret2;rw[GZ,if_neg (by intro g;have:(!decide (a<wrap64 (a-b))==decide (b<0))=true:=g;rw[h]at this;cases this)];exact⟨rfl,rfl⟩
def sumFrom (n:Int):List Int->Int×Int
 |[]=>(n,0)
 |x::l=>if (Vd n x).2=0 then sumFrom (Vd n x).1 l else (0,(Vd n x).2)
theorem num_Text (n:Int) (c:-9223372036854775808<=n) (d:n<=9223372036854775807) (w:World) (f:G w):
  Cs 21 #[Vi n] w (Rw w (.string ⟨(Lib.itoa n).toArray⟩)):=by
 go_enter func21,ntmps21;go_wp2_with fail;refine(Tryz.strconv_Itoa n c d _ f.pow).mono ?_;rintro e w' ⟨rfl,k,a,rfl⟩;go_wp2_with fail;go_ret;exact⟨rfl,Ea _ _ _⟩
def xW (n:Int):List Int->Int
 |[]=>n
 |x::l=>xW (n*256+x) l
theorem QB (m x:Int) (c:0<=m) (f:m<281474976710656) (d:0<=x) (g:x<256):bits .or .i64 (m*256) (wrap64 x)=m*256+x:=by
 rw[IntWalk.wrap64_in x (by omega)];obtain⟨a,rfl⟩:=jr c;obtain⟨b,rfl⟩:=jr d;have e:(a*256|||b)=a*256+b:=by
  have:=Nat.two_pow_add_eq_or_of_lt (i:=8) (b:=b) (by omega) a;rw[Nat.mul_comm a 256];exact this.symm
 show IntKind.i64.wrap ((BitVec.ofInt 64 (((a*256:Nat):Int))|||BitVec.ofInt 64 (b:Int)).toNat:Int)=_;rw[BitVec.toNat_or,ofInt_u64 _ (by omega),ofInt_u64 b (by omega),e,IntKind.wrap_i64];omega
theorem IE (m x:Int) (k:Nat) (a:0<=m) (c:m<256^k) (d:0<=x∧x<256):0<=m*256+x∧m*256+x<256^(k+1):=by
 rw[Int.pow_succ];omega
theorem Gk (m:Int) (k:Nat) (c:m<256^k) (d:k<7):m<281474976710656:=by
 have a:k=0∨k=1∨k=2∨k=3∨k=4∨k=5∨k=6:=by omega
 rcases a with rfl|rfl|rfl|rfl|rfl|rfl|rfl<;>simp only[Int.reducePow]at c<;>omega
theorem Un (l:List Int) (a:Option Addr) (c:Nat) (H:l.length<=c) (w:World) (F:zA w .u8 a l) (E:∀x∈l,0<=x∧x<256):
  Cs 161 #[Sq a l.length c] w fun e w'=>
  e=Rt (Vi (xW 0 (l.drop (l.length-7))))∧w=w':=by
 obtain⟨A,j⟩:=F;by_cases z:7<l.length
 ·obtain⟨b,C,rfl,r⟩:∃b C,a=some (Ad b C)∧∀i,i<l.length->Cq w b (C+i) (Vu (l.getD i 0)):=by
   rcases j with rfl|j
   ·simp at z
   ·exact j
  have q:max (0:Int) ((l.length:Int)-7)=((l.length-7:Nat):Int):=by omega
  have v:¬c=l.length-7:=by omega
  clear j;go_enter func161,ntmps161;go_wp2_with fail;clear q v
  go_loop [2,4,12] (fun n x i=>∃(k:Nat) (m:Int),k<=7∧i=Vi k∧n=Vi m∧0<=m∧m<256^k∧xW 0 (l.drop (l.length-7))=xW m (l.drop (l.length-7+k))) (fun _ _ i=>8-(intOf i).toNat)
  case atStart=>exact⟨0,0,by omega,rfl,rfl,by omega,by decide,rfl⟩
  case round=>
   obtain⟨k,m,y,rfl,rfl,g,d,B⟩:=hrel;by_cases f:k<7
   ·have h:=r (l.length-7+k) (by omega);rw[<-Nat.add_assoc]at h;rw[je (show l.length-7+k<l.length by omega),xW]at B;have p:=hiD B;clear B r;have s:=E (l[l.length-7+k]'(by omega)) (dI _);have o:=hiD s;clear s;have D:=Gk m k d f;have u:=hiD d;clear d;go_wp2_with fail;have e:l[l.length-7+k]?.getD 0=l[l.length-7+k]'(by omega):=by rw[jB (by omega)];rfl
    have t:=IE m _ k g u.out o.out
    go_round
    case rel=>exact⟨k+1,_,by omega,by go_num,by rw[e,QB _ _ g D o.out.1 o.out.2],t.1,t.2,by rw[p.out];rfl⟩
    case measure=>simp[intOf];omega
   ·have p:=hiD B;clear B r;have u:=hiD d;clear d;go_wp2_with fail;go_ret;rw[p.out,jt (by omega)];exact⟨rfl,rfl⟩
 ·have q:max (0:Int) ((l.length:Int)-7)=0:=by omega
  rw[show l.length-7=0 from by omega,ju];go_enter func161,ntmps161;go_wp2_with fail;clear q
  go_loop [2,4,12] (fun n x i=>∃(k:Nat) (m:Int),k<=l.length∧i=Vi k∧n=Vi m∧0<=m∧m<256^k∧xW 0 l=xW m (l.drop k)) (fun _ _ i=>8-(intOf i).toNat)
  case atStart=>exact⟨0,0,by omega,rfl,rfl,by omega,by decide,rfl⟩
  case round=>
   obtain⟨k,m,y,rfl,rfl,g,d,B⟩:=hrel;by_cases f:k<l.length
   ·obtain⟨b,C,rfl,r⟩:∃b C,a=some (Ad b C)∧∀i,i<l.length->Cq w b (C+i) (Vu (l.getD i 0)):=by
     rcases j with rfl|j
     ·simp at f
     ·exact j
    have h:=r k f;rw[je f,xW]at B;have p:=hiD B;clear B r j;have s:=E l[k] (dI _);have o:=hiD s;clear s;have D:=Gk m k d (by omega);have u:=hiD d;clear d;go_wp2_with fail;have e:l[k]?.getD 0=l[k]:=by rw[jB (by omega)];rfl
    have t:=IE m _ k g u.out o.out
    go_round
    case rel=>exact⟨k+1,_,by omega,by go_num,by rw[QB _ _ g D o.out.1 o.out.2],t.1,t.2,by rw[p.out]⟩
    case measure=>simp[intOf];omega
   ·have p:=hiD B;clear B j;have u:=hiD d;clear d;go_wp2_with fail;go_ret;rw[p.out,jt (by omega)];exact⟨rfl,rfl⟩
section
attribute [local go_sem] Oper.semAt_some
def putN (b:Int):Nat:=(max 0 (min b 8)).toNat
theorem Ji:En0 166:=enters_of func166 rfl rfl
theorem MA (t:Int) (B:Nat) (d:-9223372036854775808<=t) (C:t<=9223372036854775807):Iter prog 166 #[Vp B 0] (fun i=>#[Vi (8*((putN t:Int)-1)-8*i)]) (putN t)
  (fun W=>W.cell? ⟨B,0,none⟩=some (Vi t)):=by
 intro l J q W o g hF k d;have h:=hF 0 W d;have x:(putN t:Int)=max 0 (min t 8):=by unfold putN;omega
 generalize putN t=n at*;have f:max 0 (min t 8)=(n:Int):=x.symm;have j:n<=8:=by omega
 clear x;refine callsIn_of_wp func166 rfl trivial ?_ rfl;simp only[ntmps166,jW,jF,jO,Nat.reduceAdd,Nat.reduceSub,jR,jQ,jX,jU,jD,jE];gi_wp2;clear f h;gi_loopw [3] (fun p wr=>∃i:Nat,i<=n∧p=Vi (8*((n:Int)-1)-8*i)∧J i wr) (fun p wr=>(intOf p+9).toNat);case atStart=>exact⟨0,by omega,by simp,d⟩
 case round=>
  obtain⟨i,D,rfl,u⟩:=hrel;by_cases a:i<n
  ·obtain⟨A,E,y,z,r,m⟩:=k i wr a u;gi_wp2;refine⟨rfl,m.mono ?_⟩;rintro e s (⟨rfl,c⟩|⟨rfl,b⟩)
   ·gi_wp2;go_roundw;case rel=>exact⟨i+1,by omega,by go_num,c⟩
    case measure=>simp[intOf];omega
   ·gi_wp2;refine bodyPost_ret (results_none rfl _ _ _) rfl ?_;exact⟨⟨_,rfl⟩,.inr ⟨i,a,b⟩⟩
  ·gi_wp2;go_end0;have e:i=n:=by omega
   subst e;exact⟨⟨_,rfl⟩,.inl u⟩
theorem Pj (a:Int) (w:World):Cs 131 #[Vi a] w fun e w'=>
  e=Rt (.func (.func 166) #[] #[Vp w.1.size 0])∧w.alloc (Oc #[Vi a] 3)=w':=by
 go_enter func131,ntmps131;go_wp2_with fail;go_ret;exact⟨rfl,rfl⟩
def putAt (n b:Int) (i:Nat):Int:=IntKind.u8.wrap (IntKind.u64.wrap n/2^(8*((putN b:Int)-1)-8*i).toNat)
def jq (n b:Int):List Int:=(List.range (putN b)).map (putAt n b)
theorem OX (n b:Int) (i:Nat) (h:i<putN b):(jq n b).take (i+1)=(jq n b).take i++[putAt n b i]:=by
 rw[ja (by simpa[jq]using h)];simp[jq]
theorem LA (n O:Int) (V:-9223372036854775808<=O) (X:O<=9223372036854775807) (w:World):Cs 99 #[Vi n,Vi O] w fun e w'=>
  ∃v,e=Rt v∧w'.ownsRow w.1.size 5 1 v (putN O) ((jq n O).map (Value.int .u8))∧Bz w w':=by
 refine qH func99 rfl ?_;simp only[ntmps99,jW,jF,jO,Nat.reduceAdd,Nat.reduceSub,jR,jQ,jX,jU,jD,jE];go_wp2_with fail;refine(Pj _ _).mono ?_;rintro e N ⟨rfl,rfl⟩;go_wp2_with fail;have M:putN O<=8:=by unfold putN;omega
 obtain⟨i0,U,m,A,z⟩:=iP5;refine kT rfl Ji (MA O (w.1.size+1+1) V X) (fun _=>rfl)
  (fun i W=>(∃v,Boxed W (w.1.size+1) 33 v∧W.ownsRow w.1.size 5 1 v i (((jq n O).take i).map (Value.int .u8)))∧
   Boxed W w.1.size 3 (Vi n)∧Boxed W (w.1.size+1+1) 3 (Vi O)∧Bz w W)
  (fun _ _ _=>False) (fun i=>(qe.row _ _ _ _ _ _ _).and ((qe.boxed _ _ _).and ((qe.boxed _ _ _).and (qe.below (by simp;omega) nLe)))) (fun _ _=>qe.pure _) (fun i W h=>h.2.2.1.cell) ?_
  (fun i=>{tmps:=#[Vi n,Vi O,Vp w.1.size 0,undef,Vp (w.1.size+1) 0,Vi (8*((putN O:Int)-1)-8*i),Vi O,
   .func (.func 166) #[] #[Vp (w.1.size+1+1) 0],Vi (8*((putN O:Int)-1)-8*i),undef,undef,undef,undef,undef,undef,undef,undef,undef],defers:=[]}) ?_ ?_ ?_ (fun _ _ _ _ _ _ h _=>h.elim)
 ·refine⟨⟨_,(vh (by simp) _ _).alloc _,js _ _ _ _⟩,((Boxed.new w _ _).alloc _).alloc _,vh (by simp) _ _,?_⟩;exact(bB.alloc (by simp) _).alloc (by simp;omega) _
 ·intro l i W K U y;gi_wp2;exact y
 ·rintro l i W hl q ⟨⟨v,Q,P⟩,a,f,j⟩;have C:=OX n O i q;have I:=hiD C;clear C;gi_wp2;refine vx l 6 (by kernel_rfl) (by kernel_rfl) (fun ⟨_,_,h⟩=>h) (by kernel_rfl) (fun H=>Cq H w.1.size 0 (Vi n)∧Cq H (w.1.size+1) 0 v) ⟨a.cell,Q.cell⟩ (fun _ _ _ _ _ h=>h) ?_;simp only[jm,dF,dE,ju]
  repeat (refine qA rfl (fun w' Z=>by obtain⟨a1,a0⟩:=Z;(go_simp<;>rfl)) ?_)
  simp only[Act.put,jC,jL,jK];refine CU ?_;refine KV (B:=w.1.size+1) (s:=w.1.size) (k:=i) (T:=33) (E:=5) (p:=1) (M:=1) (e:=15) (g:=16) (x:=Vu (IntKind.u8.wrap (IntKind.u64.wrap n/2^(8*((putN O:Int)-1)-8*i).toNat))) (v:=v)
   rfl rfl rfl rfl rfl rfl rfl rfl rfl (fun w=>by kernel_rfl) (fun w=>by kernel_rfl) underlying33 U m A z rfl (by decide) (by decide) rfl rfl (by simp[Value.cells,Value.oneCell']) (by simp) (by simp) rfl (fun _=>rfl)
   Q P j.size (by omega) (by unfold maxLen;omega) (by omega) ?_ ?_
  ·intro w' s F S;exact⟨(FD a (by omega) (by decide) P S).cell,s.cell⟩
  ·intro J w' s o F g S;refine⟨(PI F).from _,⟨J,s,?_⟩,FD a (by omega) (by decide) P S,FD f (by omega) (by decide) P S,Qg j g⟩;rw[I.out,dC];exact o
 ·rintro D W L ⟨⟨v,Q,P⟩,a,f,j⟩ y;obtain⟨d,R,rfl⟩:=qh P;have a2:=Q.cell;have S:=Q.frozen;go_wp2_with fail;have r:=Q.set (Sq d (putN O) R);have b:=(KeepsOthers.setCell W (Ad (w.1.size+1) 0) (Sq d (putN O) R)).same D _ y rfl;have c:=P.kept (grownBy_setCell' W (w.1.size+1) (Sq d (putN O) R)) (.inr (Q.not_row (by decide) P).symm);have u:=j.setCell (p:=Ad (w.1.size+1) 0) (by simp) (Sq d (putN O) R);have t:=qW (c:= .deferred none) b rfl r.cell;refine qZ (v:=Sq d (putN O) R) b (by simp[results,results99,go_sem,t]) ⟨_,rfl,?_,qB u b (by simp at L;omega)⟩;rw[jy (by simp[jq])]at c;exact ownsRow_putObj c _ b rfl
end
section
attribute [local go_sem] Oper.semAt_some
attribute [local go_sem ↓] Go.wp_at_zero Go.wp_at_succ
theorem MD (w:World):(callFunc 234 #[.float .f64 0]).run prog w= .ok (.value (.int .u64 0)) w:=by
 rw[run_callFunc_extern (e:=Extern.MathFloatBits.float64bits) func234 rfl rfl rfl rfl];rfl
theorem MC (w:World):(callFunc 233 #[.int .u64 0]).run prog w= .ok (.value (.float .f64 0)) w:=by
 rw[run_callFunc_extern (e:=Extern.MathFloatBits.float64frombits) func233 rfl rfl rfl rfl];rfl
theorem RJ (w:World):(callFunc 235 #[.float .f64 0]).run prog w= .ok (.value (.float .f64 0)) w:=by
 rw[run_callFunc_extern (e:=Extern.MathFloor.toIntegral "math.archTrunc" .zero) func235 rfl rfl rfl rfl];rfl
theorem xE:bits .andNot .u64 0 9223372036854775808=0∧FloatKind.f64.format.order 0 4697254411347427328=some .lt∧FloatKind.f64.format.order 0 0=some .eq∧FloatKind.f64.format.order 0 13920626448202203136=some .gt∧floatOfInt .f64 0=0:=by decide+kernel
theorem Vk (w:World):(convert 108 3 (.float .f64 0)).run prog w= .ok (Vi 0) w:=run_convert_float_int w 108 3 .f64 .i64 0 0 (by rw[underlying108];rfl) underlying3 (by decide+kernel)
def evA (e:Ev):Value:= .agg (evV e).toArray
theorem Cd (e:Ev) (f:evWf e) (w:World):Cs 92 #[evA e] w fun r w'=>r=Rt (Vb (evB e))∧Bz w w':=by
 have d:=MD;have a:=MC;have c:=RJ;have b:=xE;rcases f with rfl|rfl|rfl
 all_goals
  simp only[evA,evV,l1,l2,ev0];go_enter func92,ntmps92;go_wp2;go_ret;exact⟨rfl,bB⟩
theorem OU (e:Ev) (c:evWf e) (w:World):Cs 47 #[evA e] w fun r w'=>r=Rt (Vb true)∧Bz w w':=by
 have a:=xE;have b:=Vk;rcases c with rfl|rfl|rfl
 all_goals
  simp only[evA,evV,l1,l2,ev0];go_enter func47,ntmps47;go_wp2;go_ret;exact⟨rfl,bB⟩
theorem ref2_X (w:World):Cs 27 #[Vc 0 0] w fun e w'=>e=Rt (Vi 0)∧w=w':=by
 have a:=xE;have b:=Vk;go_enter func27,ntmps27;go_wp2;go_ret;exact⟨rfl,rfl⟩
theorem ref2_Y (w:World):Cs 28 #[Vc 0 0] w fun e w'=>e=Rt (Vi 0)∧w=w':=by
 have a:=xE;have b:=Vk;go_enter func28,ntmps28;go_wp2;go_ret;exact⟨rfl,rfl⟩
theorem O0 (w:World):Cs 162 #[Vi 0,Vi 0] w fun e w'=>e=Rt (.tuple #[Vc 0 0,Vi 0])∧w=w':=by
 have a:=xE;go_enter func162,ntmps162;go_wp2_with fail;refine zE 0 rfl ?_;go_wp2_with fail;rw[qU];go_ret2;exact⟨rfl,rfl⟩
theorem OZ (w:World):Cs 272 #[Vc 0 0,Vc 0 0] w fun e w'=>e=Rt (Vb true)∧w=w':=by
 have a:=xE;go_enter func272,ntmps272;go_wp2;go_ret;exact⟨rfl,rfl⟩
theorem R4 (w:World):Cs 71 #[Vc 0 0,Vc 0 0] w fun e w'=>e=Rt (Vb true)∧w=w':=by
 have a:=xE;go_enter func71,ntmps71;go_wp2;go_ret;exact⟨rfl,rfl⟩
theorem Ci (x y:Int) (w:World):Cs 165 #[Vi x,Vi y] w fun e w'=>e=Rt (Vi (cmpI x y))∧w=w':=by
 refine(Tryz.cmp_Compare_int x y w).mono ?_;rintro e w' ⟨rfl,h⟩;exact⟨rfl,h.symm⟩
def orI (x y z:Int):Int:=if x≠0 then x else if y≠0 then y else z
theorem cmp_Or (b:Nat) (x y z:Int) (w:World) (h:Holds w b 3 #[Vi x,Vi y,Vi z]):Cs 164 #[Sq (some ⟨b,0,none⟩) 3 3] w fun e w'=>e=Rt (Vi (orI x y z))∧w=w':=by
 obtain⟨c,a,d,-⟩:=h.g3;clear h;unfold orI;rcases(show x≠0∨x=0∧y≠0∨x=0∧y=0∧z≠0∨x=0∧y=0∧z=0 by omega)with h|⟨rfl,h⟩|⟨rfl,rfl,h⟩|⟨rfl,rfl,rfl⟩
 all_goals
  try rw[if_pos h]
  go_enter func164,ntmps164;go_wp2_with fail;refine wp_loop_rounds 4 ?_
  repeat (rw[rounds_succ];go_wp2_with fail)
  go_ret;exact⟨rfl,rfl⟩
theorem Holds.lv {w:World} {b t:Nat} {a c d e f:Value} (h:Holds w b t #[a,c,d,e,f]):(∀u:Lat w,u.v.cell? ⟨b,0,none⟩=some a)∧(∀u:Lat w,u.v.cell? ⟨b,1,none⟩=some c)∧(∀u:Lat w,u.v.cell? ⟨b,2,none⟩=some d)∧(∀u:Lat w,u.v.cell? ⟨b,3,none⟩=some e)∧(∀u:Lat w,u.v.cell? ⟨b,4,none⟩=some f):=⟨fun u=>u.cell (h.cell 0),fun u=>u.cell (h.cell 1),fun u=>u.cell (h.cell 2),fun u=>u.cell (h.cell 3),fun u=>u.cell (h.cell 4)⟩
theorem Vh (a b:List Value) (w:World):∃W,W=(w.alloc (Oc a.toArray 36)).alloc (Oc b.toArray 36)∧Holds W w.1.size 36 a.toArray∧Holds W (w.1.size+1) 36 b.toArray∧Bz w W:=
 ⟨_,rfl,(Holds.fresh w 36 _).alloc _,Holds.fresh' (w:=w.alloc (Oc a.toArray 36)) (b:=w.1.size+1) (by simp) 36 _,(bA w _).alloc (by simp) _⟩
theorem Fu (a b:Ev) (w:World):Cs 130 #[evA a,evA b] w fun r w'=>r=Rt (Vi (cmpE a b))∧Bz w w':=by
 obtain⟨W,l,q,K,k⟩:=Vh (evV a) (evV b) w;obtain⟨H,F,n,I,J,t⟩:=a;obtain⟨f,d,c,g,i,j⟩:=b;have s:=hiD (fun w=>Ci H f w);have m:=hiD (fun w=>Ci F d w);have p:=hiD (fun w=>Ci n c w);have o:=hiD (fun b w h=>cmp_Or b (cmpI H f) (cmpI F d) (cmpI n c) w h);rw[show cmpE ⟨H,F,n,I,J,t⟩ ⟨f,d,c,g,i,j⟩=orI (cmpI H f) (cmpI F d) (cmpI n c)from rfl];simp only[evA,evV]at*;generalize cmpI H f=x at*;generalize cmpI F d=y at*;generalize cmpI n c=z at*;generalize orI x y z=r at*;go_enter func130,ntmps130;go_wp2_with fail;rw[<-l];clear l;obtain⟨A,D,E,-⟩:=q.g3;obtain⟨v,B,C,-⟩:=K.g3;refine wp_region_still_tail 15 (by kernel_rfl) (by kernel_rfl) ?_;simp only[jm,dF,dE,ju]
 repeat still_step
 still_call ((s.out _).same)
 repeat still_step
 still_call ((m.out _).same)
 repeat still_step
 still_call ((p.out _).same)
 repeat still_step
 refine wpStill_nil ?_;go_wp2_with fail;refine(o.out _ _ (Holds.drew (Holds.fresh W _ _))).mono ?_;rintro e u ⟨rfl,rfl⟩;go_wp2_with fail;go_ret;exact⟨rfl,(k.alloc k.size _).drew⟩
theorem yN (a b:Ev) (w:World):Cs 97 #[evA a,evA b] w fun r w'=>r=Rt (Vb (lessE a b))∧Bz w w':=by
 have j:=hiD (fun w=>Fu a b w);unfold lessE;generalize cmpE a b=x at*;obtain⟨s,q,p,n,o,m⟩:=a;obtain⟨k,d,c,g,h,i⟩:=b;simp only[evA,evV]at*;go_enter func97,ntmps97;go_wp2_with fail;refine(j.out _).mono ?_;rintro e l ⟨rfl,f⟩;go_wp2_with fail;go_ret;exact⟨rfl,(bB.alloc (by simp) _).trans (f.mono (by simp;omega))⟩
theorem kP (a:Ev) (w:World):Cs 271 #[evA a] w fun r w'=>r=Rt (.agg #[Vi a.ts,Vi a.src,Vi a.seq])∧Bz w w':=by
 obtain⟨t,s,n,u,x,c⟩:=a;simp only[evA,evV]at*;have e:=(Holds.fresh w 36 #[Vi t,Vi s,Vi n,Vi u,Vc x c]).alloc (Oc #[Vi 0,Vi 0,Vi 0] 152);have y:=Holds.fresh' (w:=w.alloc (Oc #[Vi t,Vi s,Vi n,Vi u,Vc x c] 36)) (b:=w.1.size+1) (by simp) 152 #[Vi 0,Vi 0,Vi 0];have h:=(bA w (Oc #[Vi t,Vi s,Vi n,Vi u,Vc x c] 36)).alloc (by simp) (Oc #[Vi 0,Vi 0,Vi 0] 152);go_enter func271,ntmps271;go_wp2_with fail;generalize (w.alloc (Oc #[Vi t,Vi s,Vi n,Vi u,Vc x c] 36)).alloc (Oc #[Vi 0,Vi 0,Vi 0] 152)=W at*;obtain⟨l,m,o,-⟩:=e.g3;obtain⟨j,k,g,i,f⟩:=y.g3;go_region_held3 (fun w'=>w'.cell? ⟨w.1.size,0,none⟩=some (Vi t)∧w'.cell? ⟨w.1.size,1,none⟩=some (Vi s)∧w'.cell? ⟨w.1.size,2,none⟩=some (Vi n)) (go_keep) (fail);have z:=(((y.set 0 (Vi t)).set 1 (Vi s)).set 2 (Vi n)).drew;have d:=(((h.setCell (p:=⟨w.1.size+1,0,none⟩) (Nat.le_succ _) (Vi t)).setCell (p:=⟨w.1.size+1,1,none⟩) (Nat.le_succ _) (Vi s)).setCell (p:=⟨w.1.size+1,2,none⟩) (Nat.le_succ _) (Vi n)).drew;generalize (((W.setCell {block:=w.1.size+1,off:=0} (Value.int IntKind.i64 t)).setCell {block:=w.1.size+1,off:=1} (Value.int IntKind.i64 s)).setCell {block:=w.1.size+1,off:=2} (Value.int IntKind.i64 n)).drew=q at*;clear l m o j k g i f e y h;obtain⟨j,k,g,i,f⟩:=z.g3;go_wp2_with fail;exact bodyPost_ret (zU rfl _ _ (w.1.size+1) 152 #[Vi t,Vi s,Vi n] _ rfl (((z.set 0 (Vi t)).set 1 (Vi s)).set 2 (Vi n)) underlying152 rfl rfl) rfl
  ⟨rfl,((d.setCell (p:=⟨w.1.size+1,0,none⟩) (Nat.le_succ _) (Vi t)).setCell (p:=⟨w.1.size+1,1,none⟩) (Nat.le_succ _) (Vi s)).setCell (p:=⟨w.1.size+1,2,none⟩) (Nat.le_succ _) (Vi n)⟩
theorem Ac (a b:Ev) (t:evWf a) (u:b=a∨b=ev0) (w:World):Cs 237 #[evA a,evA b] w fun r w'=>r=Rt (Vb (sameE a b))∧Bz w w':=by
 obtain⟨W,j,e,n,f⟩:=Vh (evV a) (evV b) w;have i:=hiD (Go.Calls.rel (fun w=>kP a w) W);have g:=hiD (Go.Calls.rel (fun w=>kP b w) W);have h:=hiD (Go.Calls.relSame (fun w=>OZ w) W);have l:=fun (a b c p q s:Int) w=>xZ 9998 152 3 underlying152 underlying3 sizeOf3 isAgg3 a b c p q s w;rcases t with rfl|rfl|rfl<;>rcases u with rfl|rfl
 all_goals
  simp only[evA,evV,l1,l2,ev0]at*;have m:=e.lv;have o:=n.lv;clear e n;go_enter func237,ntmps237;go_wp2_with fail;rw[<-j];refine qz W (by kernel_rfl) (by kernel_rfl) bRf ?_
  repeat (go_big_quiet_step (first|with_reducible exact Lat.call i.out _|with_reducible exact Lat.call g.out _|with_reducible exact Lat.call h.out _))
  refine wpQuiet_nil ?_;rintro _ ⟨⟨k,d⟩,rfl⟩;go_wp2_with fail;go_ret;exact⟨rfl,f.trans (d.mono f.size)⟩
theorem MP (a:Ev) (w:World):Cs 70 #[evA a] w fun r w'=>r=Rt (.agg #[Vi a.ts,Vi a.src,Vi a.seq])∧Bz w w':=by
 obtain⟨e,d,c,f,g,b⟩:=a;simp only[evA,evV]at*;go_enter func70,ntmps70;go_wp2_with fail;exact bodyPost_ret (zU rfl _ _ (w.1.size+1) 152 #[Vi e,Vi d,Vi c] _ rfl (Holds.fresh' (by simp) _ _) underlying152 rfl rfl) rfl
  ⟨rfl,bB.alloc (by simp) _⟩
theorem R3 (w:World):Cs 48 #[evA ev0,evA ev0] w fun r w'=>r=Rt (Vb true)∧Bz w w':=by
 obtain⟨W,f,b,k,c⟩:=Vh (evV ev0) (evV ev0) w;have e:=hiD (Go.Calls.rel (fun w=>MP ev0 w) W);have d:=hiD (Go.Calls.relSame (fun w=>R4 w) W);have j:=xZ 9998 152 3 underlying152 underlying3 sizeOf3 isAgg3 0 0 0 0 0 0;simp only[evA,evV,ev0]at*;have g:=b.lv;have h:=k.lv;clear b k;go_enter func48,ntmps48;go_wp2_with fail;rw[<-f];refine qz W (by kernel_rfl) (by kernel_rfl) bRf ?_
 repeat (go_big_quiet_step (first|with_reducible exact Lat.call e.out _|with_reducible exact Lat.call d.out _))
 refine wpQuiet_nil ?_;rintro _ ⟨⟨i,a⟩,rfl⟩;go_wp2_with fail;go_ret;exact⟨rfl,c.trans (a.mono c.size)⟩
end
section
variable {P : Program} {Q : Exit -> Act -> World -> Prop} {ops : Array Oper} {md : Region.Mode} {w : World}
theorem Gw {o:Oper} {a:Act} {K:Act->Prop} {i:Act->World->Prop} (h:∀a,K a->i a w) (g:o.still P a w K):o.wpIn Fence.wide 0 P a w i Q:=by
 unfold Oper.still at g;unfold Oper.wpIn;refine⟨fun _ _=>trivial,?_⟩;rw[show Fence.wide.round=none from rfl,Oper.semAt_none];generalize (execOp a.eval o).run P w=r at*;cases r with
 |ok x w'=>
   cases x with
   |value v=>obtain⟨rfl,b⟩:=g;exact h _ b
   |skip=>obtain⟨rfl,b⟩:=g;exact h _ b
   |enter f args=>
     obtain⟨rfl,v,c,j⟩:=g;refine⟨fun g=>by simp[Fence.wide]at g,(callsIn_wide.2 c).mono ?_⟩;rintro e d ⟨rfl,rfl⟩;exact h _ j
   |_=>exact g.elim
 |halt x w'=>cases x<;>exact g.elim
theorem Lx {i:Nat} {a:Act} {K:Act->Prop} {e:Act->World->Prop} (h:∀a,K a->e a w) (d:stOp P ops w i K a):wpOpIn Fence.wide 0 P ops Q i e a w:=by
 unfold stOp at d;unfold wpOpIn;split
 ·rename_i b;simp only[b]at d;exact h _ d
 ·rename_i o b;simp only[b]at d;split
  ·rename_i c;simp only[c,if_true]at d;exact Gw h d
  ·rename_i c;simp only[c]at d;exact⟨fun _ _=>trivial,h _ d⟩
theorem DH {n g:Nat} {L:Array Bool->Act->Prop} (j:∀e a,L e a->wpAnyIn Fence.wide 0 P md ops Q g e a w):
  ∀(f:Nat) (e:Array Bool) (a:Act),wpAnyL P md ops w n L f e a->wpAnyIn Fence.wide 0 P md ops Q (f+g) e a w
 |0,e,a,h=>by rw[dG];exact j _ _ h
 |f+1,e,a,h=>by
   rw[show f+1+g=(f+g)+1 by omega];exact⟨fun b=>absurd b h.1,fun i k=>Lx (fun c d=>DH j f _ c d) (h.2 i k).2⟩
theorem E4:∀(l:List Oper) (k:Nat) (m:Array Bool) (a:Act) (w:World),(∀j,l[j]?=ops[k+j]?)->
  Region.seqB md ops l.length k m=true->wpListIn Fence.wide 0 P ops Q l a w->wpAnyIn Fence.wide 0 P md ops Q l.length m a w
 |[],_,_,_,_,_,hB,h=>⟨by simpa[Region.seqB]using hB,h⟩
 |o::l,k,m,a,w,hl,hB,h=>by
   have d:ops[k]?=some o:=by simpa using(hl 0).symm
   simp only[jF,Region.seqB,jJ,decide_eq_true_eq]at hB;refine⟨fun c=>(by rw[hB.1]at c;cases c),fun i n=>?_⟩;rw[hB.1]at n;have b:i=k:=by simpa using n
   subst b;have e:wpOpIn Fence.wide 0 P ops Q i (wpListIn Fence.wide 0 P ops Q l) a w:=by unfold wpOpIn;simp only[d];exact h
   exact wpOpIn_mono (fun f w' g=>E4 l (i+1) _ f w' (fun j=>by have:=hl (j+1);simpa[Nat.add_assoc,Nat.add_comm 1 j]using this) hB.2 g) e
theorem BH {id:Nat} {a:Act} {r:List Oper} (n:Nat) (z:P.follows .mixedOrders=true) (s:Region.lexTailB .any r.toArray n=true)
  (h:wpStill P r.toArray {w with drawn:=w.drawn+1} (fun k=>wpListIn Fence.wide 0 P r.toArray Q (r.drop n) k {w with drawn:=w.drawn+1}) (r.take n) a):(Code.region id r.toArray true).wpIn Fence.wide 0 P Q a w:=by
 simp only[Region.lexTailB,jJ,decide_eq_true_eq]at s;obtain⟨⟨⟨⟨f,y⟩,A⟩,o⟩,i⟩:=s;have p:n<r.length:=by simpa using y
 have c:(r.take n).length=n:=by simp;omega
 have d:(r.drop n).length=r.toArray.size-n:=by simp
 have e:HeadInv .any r.toArray n (Array.replicate r.toArray.size false):=
  ⟨by simp,fun j q _ x=>(by rw[getD_replicate_false]at x;cases x),fun t _ B=>getD_in (by simpa using B) (getD_replicate_false _ _)⟩
 have H:=wpAnyL_lex (md:= .any) (g:=r.toArray.size-n) f A o y (r.take n) 0 _ a (fun j u=>by
  have l:j<n:=by rw[c]at u;exact u
  simp[l]) (by simpa using c) e (by rw[c];exact i) h
 refine wpIn_region_any z ?_;have:=DH (Q:=Q) (g:=r.toArray.size-n) (fun b k m=>by
  have:=E4 (md:= .any) (Q:=Q) (r.drop n) n b k {w with drawn:=w.drawn+1} (fun j=>by simp[List.getElem?_drop]) (by rw[d];exact m.1) m.2;rwa [d]at this) _ _ _ H
 rw[c,show n+(r.toArray.size-n)=r.toArray.size by omega]at this;exact this
end
section
variable {α : Type}
def Turned (F:TypeId->Bool) (W:World) (c:Option Nat):Prop:=∀r,c=some r->∃o,W.1[r]?=some o∧(o.isCells=false∨∃a t q,o= .cells a t q∧F t=true)
def qM (F:TypeId->Bool) (I:World->Prop):Prop:=∀W a c,I W->W.grownBy a c->Turned F W c->I a
section
variable {F : TypeId -> Bool} {I J : World -> Prop} {W W' : World}
theorem Turned.none':Turned F W none:=fun _ e=>nomatch e
theorem Turned.noCells {r:Nat} {o:Obj} (h:W.1[r]?=some o) (a:o.isCells=false):Turned F W (some r):=fun _ e=>by cases e;exact⟨o,h,.inl a⟩
theorem Turned.holds {r t:Nat} {a:Array Value} (h:Holds W r t a) (c:F t=true):Turned F W (some r):=fun _ e=>by cases e;exact⟨_,h,.inr ⟨_,_,_,rfl,c⟩⟩
theorem Aw (c:Bz W W'):W.grownBy W' none:=⟨c.os,c.tape,c.output,c.size,fun k a _=>c.block k a⟩
theorem qM.and (h:qM F I) (k:qM F J):qM F (fun W=>I W∧J W):=fun W a e d b c=>⟨h W a e d.1 b c,k W a e d.2 b c⟩
theorem qM.ex {β:Type} {I:β->World->Prop} (h:∀x,qM F (I x)):qM F (fun W=>∃x,I x W):=fun W b f e c d=>e.elim fun x a=>⟨x,h x W b f a c d⟩
theorem qM.pure (p:Prop):qM F (fun _=>p):=fun _ _ _ a _ _=>a
theorem qM.stable (h:qM F I) (B:Nat):qe B I:=fun W c i g d f=>h W c i g d fun r e=>by
 obtain⟨_,o,b,a⟩:=f r e;exact⟨o,b,.inl a⟩
theorem qM.later (h:qM F I) (c:I W) (a:Bz W W'):I W':=h W W' none c (Aw a) Turned.none'
theorem qM.set (h:qM F I) (f:I W) {b t:Nat} {c:Array Value} (d:Holds W b t c) (g:F t=true) (i:Nat) (v:Value):I (W.setCell ⟨b,i,none⟩ v):=
 h W _ (some b) f (⟨rfl,rfl,rfl,(KeepsWalks.setCell W _ v).size,fun k _ a=>Below.heap_setCell _ _ _ k (fun e=>a (by rw[e]))⟩) (Turned.holds d g)
theorem qM.put (h:qM F I) (d:I W) {D:Nat} {o a:Obj} (c:W.1[D]?=some o) (e:o.isCells=false):I (W.putObj D a):=
 h W _ (some D) d (grownBy_putObj' W D a) (Turned.noCells c e)
theorem qM.holds (b:Nat) (t:TypeId) (j:Array Value) (m:F t=false):qM F (fun W=>Holds W b t j):=fun W i n k g l=>k.grown g fun e=>by
 obtain⟨o,d,c⟩:=l b e.symm;have a:W.1[b]?=some (.cells j t (0,0)):=k;rw[a]at d;cases d;rcases c with c|⟨_,_,_,h,f⟩
 ·cases c
 ·cases h;rw[m]at f;cases f
end
def RowT (k:Nat) (E:TypeId) (c:α->List Value) (W:World) (v:Value) (l:List α):Prop:=
 RowV k c W v l∧∀b,v.ownBlock=some b->∃a q,W.1[b]?=some (.cells a E q)
section
variable {k E : Nat} {enc : α -> List Value} {W W' : World} {v : Value} {l : List α}
theorem RowT.nil (k E:Nat) (a:α->List Value) (W:World):RowT k E a W Vn []:=⟨RowV.nil _ _ _,fun _ e=>nomatch e⟩
theorem RowT.abides {F:TypeId->Bool} (hF:F E=false) (v:Value) (l:List α):qM F (fun W=>RowT k E enc W v l):=fun W m r h i p=>by
 have d:∀b,v.ownBlock=some b->some b≠r:=fun b a e=>by
  obtain⟨n,q,f⟩:=h.2 b a;obtain⟨o,g,c⟩:=p b e.symm;rw[f]at g;cases g;rcases c with c|⟨_,_,_,j,c⟩
  ·cases c
  ·cases j;rw[hF]at c;cases c
 refine⟨h.1.grown i fun b e a=>d b a e.symm,fun b a=>?_⟩;obtain⟨n,q,f⟩:=h.2 b a;exact⟨n,q,(i.block b (jA.1 f).1 (d b a)).trans f⟩
theorem RowT.later (h:RowT k E enc W v l) (a:Bz W W'):RowT k E enc W' v l:=(RowT.abides (F:=fun _=>false) rfl v l).later h a
theorem RowT.of_own (e:∀x,(enc x).length=k) {i n:Nat} (h:W.ownsRow i E k v n (l.flatMap enc)) (f:l.length=n):RowT k E enc W v l:=by
 refine⟨RowV.of_own e h f,fun b a=>?_⟩;rcases h.2 with⟨rfl,_⟩|⟨g,j,c,rfl,_,d,_⟩
 ·cases a
 ·cases a;exact⟨_,_,d⟩
theorem RowT.sub {b a n c:Nat} (h:RowT k E enc W (Sq (some ⟨b,a,none⟩) n c) l) (i j:Nat) (d:i<=j) (e:j<=l.length):
  RowT k E enc W (Sq (some ⟨b,a+i*k,none⟩) (j-i) (c-i)) ((l.take j).drop i):=⟨h.1.sub i j d e,h.2⟩
theorem RowT.form (h:RowT k E enc W v l):∃a c,v=Sq a l.length c∧l.length<=c:=h.1.form
end
abbrev Cl (k:Nat):={a:List Value//a.length=k}
def qv (k:Nat) (E:TypeId) (R:α->List Value->World->Prop) (W:World) (v:Value) (l:List α):Prop:=
 ∃a:List (α×Cl k),a.map (·.1)=l∧RowT k E (fun y=>y.2.1) W v a∧∀y∈a,R y.1 y.2.1 W
def qj (k:Nat) (c:Nat) (E:TypeId) (R:α->List Value->World->Prop) (W:World) (v:Value) (l:List α):Prop:=
 ∃a:List (α×Cl k),a.map (·.1)=l∧W.ownsRow c E k v l.length (a.flatMap fun y=>y.2.1)∧∀y∈a,R y.1 y.2.1 W
section
variable {k n₀ E : Nat} {R : α -> List Value -> World -> Prop} {W W' : World} {v : Value} {l : List α}
theorem qv.nil (k E:Nat) (R:α->List Value->World->Prop) (W:World):qv k E R W Vn []:=⟨[],rfl,RowT.nil _ _ _ _,fun _ h=>nomatch h⟩
theorem qv.form (h:qv k E R W v l):∃a c,v=Sq a l.length c∧l.length<=c:=by
 obtain⟨d,rfl,h,_⟩:=h;simpa using h.form
theorem qv.abides {F:TypeId->Bool} (hF:F E=false) (o:∀x j,qM F (R x j)) (v:Value) (l:List α):qM F (fun W=>qv k E R W v l):=
 fun W c i ⟨g,e,m,n⟩ d f=>⟨g,e,RowT.abides hF v g W c i m d f,fun y a=>o _ _ W c i (n y a) d f⟩
theorem qv.get (h:qv k E R W v l) {i:Nat} {x:α} (m:l[i]?=some x):
  ∃b o c p,v=Sq (some ⟨b,o,none⟩) l.length c∧l.length<=c∧p.length=k∧R x p W∧∀(j:Nat) (u:Value),p[j]?=some u->W.cell? ⟨b,o+i*k+j,none⟩=some u:=by
 obtain⟨q,rfl,f,a⟩:=h;rw[List.getElem?_map]at m;cases n:q[i]? with
 |none=>rw[n]at m;cases m
 |some y=>
   rw[n]at m;cases m;obtain⟨b,o,c,e,g,d⟩:=f.1.get n;exact⟨b,o,c,y.2.1,by simpa using e,by simpa using g,y.2.2,a y (jY n),d⟩
theorem qj.nil (k a E:Nat) (R:α->List Value->World->Prop) (W:World):qj k a E R W Vn []:=⟨[],rfl,js _ _ _ _,fun _ h=>nomatch h⟩
theorem qj.deep (h:qj k n₀ E R W v l):qv k E R W v l:=by
 obtain⟨c,rfl,b,a⟩:=h;exact⟨c,rfl,RowT.of_own (fun y=>y.2.2) b (by simp),a⟩
theorem qj.row (h:qj k n₀ E R W v l):∃c,W.ownsRow n₀ E k v l.length c:=by obtain⟨d,_,a,_⟩:=h;exact⟨_,a⟩
theorem qj.abides {F:TypeId->Bool} (hF:F E=false) (q:∀x n,qM F (R x n)) (v:Value) (l:List α):qM F (fun W=>qj k n₀ E R W v l):=
 fun W m s ⟨r,e,i,p⟩ b j=>⟨r,e,i.kept b (by
  rcases i.2 with⟨rfl,_⟩|⟨g,t,f,rfl,_,b,_⟩
  ·exact .inl rfl
  ·refine .inr fun e=>?_;obtain⟨o,c,a⟩:=j g e.symm;rw[b]at c;cases c;rcases a with a|⟨_,_,_,h,a⟩
   ·cases a
   ·cases h;rw[hF]at a;cases a),fun y d=>q _ _ W m s (p y d) b j⟩
end
end
end Go.Proofs.YtnmpcdnbklmhkaaGreatDoor
