import Derived.Test.YtnmpcdnbklmhkaaGreatDoorQAd
import Derived.Outline
import Derived.Test.YtnmpcdnbklmhkaaGreatDoorQAc
namespace Go.Proofs.YtnmpcdnbklmhkaaGreatDoor
open Go.Proofs.Tryz Go.RowKit
set_option maxRecDepth 100000
set_option maxHeartbeats 8000000
def tmA (t:Tm):Value:= .agg #[Vu t.kind,Vi t.n,Vi t.s,Vi t.r]
def cmA (c:Cm):Value:= .agg #[Vu c.op,Vu c.l.kind,Vi c.l.n,Vi c.l.s,Vi c.l.r,Vu c.r.kind,Vi c.r.n,Vi c.r.s,Vi c.r.r]
def stA (s:St) (v:Value):Value:= .agg #[Vb s.neg,Vi s.kind,Vi s.min,Vi s.max,Vb s.5,v]
theorem yU {a b:Bool} (h:a=b):Ending.returned (Vb a)=Rt (Vb b):=by rw[h]
theorem Am (n:Int) (w:World):Cs 37 #[Vi n] w fun e w'=>e=Rt (Vb (numB n))∧w=w':=by
 obtain⟨r,c⟩:=xR (numB n);have a:=hiD c;clear c;go_enter func37,ntmps37;go_wp2_with fail
 all_goals
  go_ret;refine⟨?_,rfl⟩;refine yU ?_
  simp_all [numB]
  try omega
theorem Eg (t:Tm) (w:World):Cs 111 #[tmA t] w (Rw w (Vb (twoB t))):=by
 have a:∀b,(t.kind==5)=b->(b||t.kind==6)=twoB t:=by rintro b rfl;rfl
 obtain⟨k,n,s,r⟩:=t;simp only[tmA]at*;by_cases c:k=5
 ·subst c;have f:=hiD a;clear a;go_enter func111,ntmps111;go_wp2_with fail;go_ret;exact⟨rfl,bB⟩
 ·have d:(k==5)=false:=by simpa using c
  have g:=a _ d;clear c a;rw[Bool.false_or]at g;have e:=hiD g;clear g;go_enter func111,ntmps111;go_wp2_with fail;go_ret;exact⟨yU e.out,bB⟩
theorem KR (t:Tm):tmB t=true↔(-1099511627776<=t.n∧t.n<=1099511627776∧t.kind<7∧0<=t.s∧t.s<26∧0<=t.r∧t.r<26∧(t.kind≠0∨t.s=0)∧(t.kind=5∨t.kind=6∨t.r=0)):=by
 simp only[tmB,twoB,jJ,decide_eq_true_eq,Bool.or_eq_true,bne_iff_ne,ne_eq,beq_iff_eq];constructor
 ·rintro⟨⟨⟨⟨⟨⟨⟨⟨d,a⟩,e⟩,b⟩,f⟩,h⟩,c⟩,g⟩,i⟩;exact⟨d,a,e,b,f,h,c,g,by omega⟩
 ·rintro⟨d,a,e,b,f,h,c,g,i⟩;exact⟨⟨⟨⟨⟨⟨⟨⟨d,a⟩,e⟩,b⟩,f⟩,h⟩,c⟩,g⟩,by omega⟩
theorem tmB_no (t:Tm) (h:¬(-1099511627776<=t.n∧t.n<=1099511627776∧t.kind<7∧0<=t.s∧t.s<26∧0<=t.r∧t.r<26∧(t.kind≠0∨t.s=0)∧(t.kind=5∨t.kind=6∨t.r=0))):tmB t=false:=
 Bool.eq_false_iff.2 fun g=>h ((KR t).1 g)
theorem JE (t:Tm) (w:World):Cs 63 #[tmA t] w (Rw w (Vb (tmB t))):=by
 have a:=fun h=>(KR t).2 h;have c:=tmB_no t;obtain⟨k,n,s,r⟩:=t;simp only[tmA]at*;by_cases A:-1099511627776<=n∧n<=1099511627776∧k<7∧0<=s∧s<26∧0<=r∧r<26
 ·obtain⟨x,u,m,v,o,q,y⟩:=A;by_cases d:k=0
  ·subst d;have C:=fun w=>Eg ⟨0,n,0,r⟩ w;rw[show twoB ⟨0,n,0,r⟩=false from rfl]at C;simp only[tmA]at C;have g:=hiD C;clear C;have B:=hiD a;clear a;have i:=hiD c;clear c;go_enter func63,ntmps63;go_wp2_with fail;refine zE 0 rfl ?_;go_wp2_with fail;refine(g.out _).mono ?_;rintro e l ⟨rfl,b⟩;obtain⟨p,F⟩:=vk b;go_wp2_with fail
   all_goals
    rw[qU];go_ret;refine⟨?_,((bB.alloc (by simp) _).trans (b.mono (by simp;omega))).setCell (by simp) _⟩
    first
     |exact yU (B.out (by omega)).symm
     |exact yU (i.out (by omega)).symm
  ·have z:(k==0)=false:=by simpa using d
   by_cases f:k=5∨k=6
   ·have C:=fun w=>Eg ⟨k,n,s,r⟩ w;rw[show twoB ⟨k,n,s,r⟩=true from by simpa[twoB]using f]at C;simp only[tmA]at C;have g:=hiD C;clear C;have D:=a ⟨x,u,m,v,o,q,y,.inl d,by omega⟩;have j:=hiD D;clear D a c d f;go_enter func63,ntmps63;go_wp2_with fail;refine zE 0 rfl ?_;go_wp2_with fail;refine(g.out _).mono ?_;rintro e l ⟨rfl,b⟩;obtain⟨p,F⟩:=vk b;go_wp2_with fail;rw[qU];go_ret;exact⟨yU j.out.symm,(bB.alloc (by simp) _).trans (b.mono (by simp;omega))⟩
   ·have C:=fun w=>Eg ⟨k,n,s,r⟩ w;rw[show twoB ⟨k,n,s,r⟩=false from by simpa[twoB]using f]at C;simp only[tmA]at C;have g:=hiD C;clear C;have D:tmB ⟨k,n,s,r⟩=(r==0):=by
     by_cases E:r=0
     ·rw[a ⟨x,u,m,v,o,q,y,.inl d,.inr (.inr E)⟩,E];rfl
     ·rw[c (by omega)];simpa using E
    have j:=hiD D;clear D a c d f;go_enter func63,ntmps63;go_wp2_with fail;refine zE 0 rfl ?_;go_wp2_with fail;refine(g.out _).mono ?_;rintro e l ⟨rfl,b⟩;obtain⟨p,F⟩:=vk b;go_wp2_with fail
    all_goals
     rw[qU];go_ret;refine⟨?_,((bB.alloc (by simp) _).trans (b.mono (by simp;omega))).setCell (by simp) _⟩;rw[j.out]
     first
      |exact yU rfl
      |(refine yU ?_;simp_all)
 ·have i:=hiD c;clear c a;go_enter func63,ntmps63;go_wp2_with fail;refine zE 0 rfl ?_;go_wp2_with fail
  all_goals first
   |(exfalso;omega)
   |(apply wp_goto;refine xS ?_;go_wp2_with fail;rw[dD];go_ret;exact⟨yU (i.out (by omega)).symm,bB.alloc (by simp) _⟩)
theorem TU (c:Cm) (I:0<=c.op) (w:World):Cs 39 #[cmA c] w (Rw w (Vb (!cmB c))):=by
 have f:=fun w=>JE c.l w;have H:=fun w=>JE c.r w;have E:cmB c=(decide (1<=c.op)&&decide (c.op<7)&&tmB c.l&&tmB c.r):=rfl;obtain⟨F,l,r⟩:=c;simp only at E f H I;generalize tmB l=A at*;generalize tmB r=u at*;obtain⟨k,n,s,q⟩:=l;obtain⟨z,t,x,y⟩:=r;simp only[cmA,tmA]at*;have j:=hiD f;clear f;have m:=hiD H;clear H;by_cases p:1<=F∧F<7
 ·obtain⟨h,i⟩:=p;have K:(F==0)=false:=by simp only[beq_eq_false_iff_ne];omega
  have D:decide (7<=F)=false:=by simp only[decide_eq_false_iff_not];omega
  rw[decide_eq_true h,decide_eq_true i]at E;cases A
  ·rw[E];clear E;go_enter func39,ntmps39;go_wp2_with fail;refine(j.out _).mono ?_;rintro e o ⟨rfl,a⟩;go_wp2_with fail;go_ret;exact⟨rfl,bB.trans (a.mono (by simp))⟩
  ·cases u
   all_goals
    rw[E];clear E;go_enter func39,ntmps39;go_wp2_with fail;refine(j.out _).mono ?_;rintro e o ⟨rfl,a⟩;have d:=(bA w _).trans (a.mono (by simp));obtain⟨B,J⟩:=vk a;go_wp2_with fail;refine(m.out _).mono ?_;rintro e C ⟨rfl,g⟩;go_wp2_with fail;go_ret;exact⟨rfl,d.trans (g.mono d.size)⟩
 ·have b:cmB ⟨F,⟨k,n,s,q⟩,⟨z,t,x,y⟩⟩=false:=by
   rw[E];by_cases v:1<=F
   ·rw[decide_eq_false (show ¬F<7 by omega)];simp
   ·rw[decide_eq_false v];simp
  rw[b];clear E b;go_enter func39,ntmps39;go_wp2_with fail
  all_goals first
   |(exfalso;omega)
   |(go_ret;exact⟨rfl,bB⟩)
def firstI {α:Type} (p:α->Bool) (l:List α):Int:=if l.any p=true then (l.findIdx p:Int)else-1
theorem A9 {α:Type} (p:α->Bool) (l:List α) (k:Nat) (x:α) (f:l[k]?=some x) (c:p x=true) (e:∀(j:Nat) (y:α),j<k->l[j]?=some y->p y=false):firstI p l=k:=by
 obtain⟨a,rfl⟩:=jG.1 f;unfold firstI;rw[if_pos (List.any_eq_true.2 ⟨_,dI a,c⟩)];congr 1;rw[List.findIdx_eq a];exact⟨c,fun j d=>e j _ d (jB (by omega))⟩
theorem kC {α:Type} (p:α->Bool) (l:List α) (e:∀(j:Nat) (y:α),j<l.length->l[j]?=some y->p y=false):firstI p l=-1:=by
 unfold firstI;rw[if_neg];intro h;obtain⟨y,a,d⟩:=List.any_eq_true.1 h;obtain⟨j,c,rfl⟩:=List.getElem_of_mem a;rw[e j _ c (jB c)]at d;cases d
theorem Bx {α:Type} (p:α->Bool) (l:List α):decide (0<=firstI p l)=l.any p:=by
 unfold firstI;split
 ·rename_i h;rw[h];simp
 ·rename_i h;simp only[Bool.not_eq_true]at h;rw[h];rfl
theorem UG (g:Nat) (eg:∀T w,(callFunc g T).run prog w= .ok (.enter g T) w) (p:Cm->Bool) (n:List Cm) (V:∀(i:Nat) (c:Cm),n[i]?=some c->∀W,Cs g #[cmA c] W fun e w'=>e=Rt (Vb (p c))∧Bz W w')
  (a:Option Addr) (a5:Nat) (w:World) (U:Aj w a n) (hl:n.length<=9223372036854775807):
  Cs 62 #[Sq a n.length a5,.func (.func g) #[] #[]] w (Rw w (Vi (firstI p n))):=by
 have key:∀(wr:World) (k:Nat),Bz w wr->k<n.length->∃b o c,a=some (Ad b o)∧n[k]?=some c∧(∀W,Cs g #[cmA c] W fun e w'=>e=Rt (Vb (p c))∧Bz W w')∧
   Cq wr b (o+k*9) (Vu c.op)∧Cq wr b (o+k*9+1) (Vu c.l.kind)∧Cq wr b (o+k*9+2) (Vi c.l.n)∧
   Cq wr b (o+k*9+3) (Vi c.l.s)∧Cq wr b (o+k*9+4) (Vi c.l.r)∧Cq wr b (o+k*9+5) (Vu c.r.kind)∧
   Cq wr b (o+k*9+6) (Vi c.r.n)∧Cq wr b (o+k*9+7) (Vi c.r.s)∧Cq wr b (o+k*9+8) (Vi c.r.r):=by
  intro wr k q A;obtain⟨b,o,e,a6⟩:=(U.mono q nLe).get k A;exact⟨b,o,n[k],e,jB A,V k _ (jB A),a6⟩
 have t:=fun k a7 S h2 h3=>A9 p n k a7 S h2 h3;have d:=kC p n;obtain⟨m,N⟩:=xR n.length;rw[N]at hl key d⊢;have Z:=hiD key;clear key;have X:=hiD t;clear t;have a0:=hiD d;clear d N U V;go_enter func62,ntmps62;go_wp2_with fail;go_loopw [5,8] (fun _ i wr=>∃k:Nat,k<=m∧i=Vi k∧Hid (∀(j:Nat) (y:Cm),j<k->n[j]?=some y->p y=false)∧Bz w wr) (fun _ i _=>m-(intOf i).toNat);case atStart=>exact⟨0,jg _,rfl,hiD (fun j y h=>by omega),Below.refl _ _⟩
 case round=>
  obtain⟨k,A,rfl,J,q⟩:=hrel;by_cases H:k<m
  ·obtain⟨b,o,c,rfl,u,f,R,p1,p2,a3,P,a4,p6,a1,a2⟩:=Z.out _ k q H;have s:=hiD u;clear u;obtain⟨z,⟨x,L,F,C⟩,⟨K,E,B,I⟩⟩:=c;simp only[cmA]at f R p1 p2 a3 P a4 p6 a1 a2;have l:p ⟨z,⟨x,L,F,C⟩,⟨K,E,B,I⟩⟩=false->∀(j:Nat) (y:Cm),j<k+1->n[j]?=some y->p y=false:=fun h j y hj D=>by
    rcases Nat.lt_or_ge j k with v|v
    ·exact J.out j y v D
    ·obtain rfl:j=k:=by omega
     rw[s.out]at D;obtain rfl:=Option.some.inj D;exact h
   have Q:=hiD l;clear l;have a8:Hid (p ⟨z,⟨x,L,F,C⟩,⟨K,E,B,I⟩⟩=true->firstI p n=k):=hiD fun h=>X.out k _ s.out h J.out;generalize p ⟨z,⟨x,L,F,C⟩,⟨K,E,B,I⟩⟩=px at*;have M:=hiD f;clear f;cases px
   ·go_wp2_with (go_at_fn g;refine(M.out _).mono ?_;rintro e O ⟨rfl,r⟩);go_roundw;case rel=>exact⟨k+1,by omega,by go_num,hiD (Q.out trivial),q.trans (r.mono q.size)⟩
    case measure=>simp[intOf];omega
   ·go_wp2_with (go_at_fn g;refine(M.out _).mono ?_;rintro e O ⟨rfl,r⟩);go_ret;exact⟨by rw[a8.out trivial];rfl,q.trans (r.mono q.size)⟩
  ·obtain rfl:k=m:=by omega
   go_wp2_with fail;go_ret;exact⟨by rw[a0.out J.out];rfl,q⟩
theorem UL (g:Nat) (r:∀n w,(callFunc g n).run prog w= .ok (.enter g n) w) (p:Cm->Bool) (l:List Cm) (u:∀(i:Nat) (c:Cm),l[i]?=some c->∀W,Cs g #[cmA c] W fun e w'=>e=Rt (Vb (p c))∧Bz W w')
  (a:Option Addr) (o:Nat) (w:World) (s:Aj w a l) (t:l.length<=9223372036854775807):
  Cs 38 #[Sq a l.length o,.func (.func g) #[] #[]] w (Rw w (Vb (l.any p))):=by
 have b:=UG g r p l u a o w s t;have q:=Bx p l;generalize firstI p l=x at*;obtain⟨m,f⟩:=xR l.length;rw[f]at b⊢;have j:=hiD b;clear b;have h:=hiD q;clear q f;go_enter func38,ntmps38;go_wp2_with fail;refine j.out.mono ?_;rintro e k ⟨rfl,d⟩;go_wp2_with fail;go_ret;exact⟨yU h.out,d⟩
theorem P3:En0 39:=enters_of func39 rfl rfl
theorem LQ:En0 36:=enters_of func36 rfl rfl
theorem Om (s:St) (J:stWf s) (v:Value) (w:World) (L:yQ w v s.6):Cs 36 #[stA s v] w (Rw w (Vb (!stB s))):=by
 obtain⟨a,K,rfl,j,d,f,I⟩:=L;have l:=fun w=>Am s.kind w;have E:=fun w=>Am s.min w;have F:=fun w=>Am s.max w;have D:=fun W y=>UL 39 P3 (fun c=>!cmB c) s.6 (fun i c z W=>TU c (J.2.2.2 c (jY z)).1.1 W) a K W (I.mono y nLe) d;have n:stB s=(numB s.kind&&numB s.min&&numB s.max&&!(s.6.any fun c=>!cmB c)):=by
  unfold stB;congr 1;rw[List.not_any_eq_all_not];simp
 obtain⟨u,M,t,A,N,H⟩:=s;simp only[stA]at*;obtain⟨m,p⟩:=xR H.length;rw[p]at j d D⊢;generalize numB M=x at*;generalize numB t=B at*;generalize numB A=r at*;generalize (H.any fun c=>!cmB c)=C at*;have g:=hiD l;clear l;have h:=hiD E;clear E;have o:=hiD F;clear F;have q:=hiD D;clear D p I J f;cases x
 ·rw[n];clear n;go_enter func36,ntmps36;go_wp2_with fail;refine(g.out _).mono ?_;rintro e b ⟨rfl,rfl⟩;go_wp2_with fail;go_ret;exact⟨rfl,bB⟩
 cases B
 ·rw[n];clear n;go_enter func36,ntmps36;go_wp2_with fail;refine(g.out _).mono ?_;rintro e b ⟨rfl,rfl⟩;go_wp2_with fail;refine(h.out _).mono ?_;rintro e b ⟨rfl,rfl⟩;go_wp2_with fail;go_ret;exact⟨rfl,bB⟩
 cases r
 ·rw[n];clear n;go_enter func36,ntmps36;go_wp2_with fail;refine(g.out _).mono ?_;rintro e b ⟨rfl,rfl⟩;go_wp2_with fail;refine(h.out _).mono ?_;rintro e b ⟨rfl,rfl⟩;go_wp2_with fail;refine(o.out _).mono ?_;rintro e b ⟨rfl,rfl⟩;go_wp2_with fail;go_ret;exact⟨rfl,bB⟩
 rw[n];clear n;go_enter func36,ntmps36;go_wp2_with fail;refine(g.out _).mono ?_;rintro e b ⟨rfl,rfl⟩;go_wp2_with fail;refine(h.out _).mono ?_;rintro e b ⟨rfl,rfl⟩;go_wp2_with fail;refine(o.out _).mono ?_;rintro e b ⟨rfl,rfl⟩;go_wp2_with fail;refine(q.out _ bB).mono ?_;rintro e b ⟨rfl,k⟩;go_wp2_with fail;go_ret;exact⟨by simp,bB.trans (k.mono (by simp))⟩
theorem Fq (g:Nat) (eg:∀x w,(callFunc g x).run prog w= .ok (.enter g x) w) (p:St->Bool) (l:List St) (V:∀(i:Nat) (s:St),l[i]?=some s->∀W v,yQ W v s.6->Cs g #[stA s v] W fun e w'=>e=Rt (Vb (p s))∧Bz W w')
  (a:Option Addr) (a3:Nat) (w:World) (R:AB w a l) (hl:l.length<=9223372036854775807):
  Cs 16 #[Sq a l.length a3,.func (.func g) #[] #[]] w (Rw w (Vi (firstI p l))):=by
 have key:∀(wr:World) (k:Nat),Bz w wr->k<l.length->∃b n s t u,a=some (Ad b n)∧l[k]?=some s∧(Cs g #[stA s (Sq t s.6.length u)] wr fun e w'=>e=Rt (Vb (p s))∧Bz wr w')∧
   Cq wr b (n+k*6) (Vb s.neg)∧Cq wr b (n+k*6+1) (Vi s.kind)∧Cq wr b (n+k*6+2) (Vi s.min)∧
   Cq wr b (n+k*6+3) (Vi s.max)∧Cq wr b (n+k*6+4) (Vb s.5)∧Cq wr b (n+k*6+5) (Sq t s.6.length u):=by
  intro wr k o D;obtain⟨b,n,t,u,e,a4,F,K,I,a1⟩:=(R.mono o nLe).get k D;exact⟨b,n,l[k],t,u,e,jB D,V k _ (jB D) wr _ ⟨t,u,rfl,F,K,I,a1⟩,a4⟩
 have z:=fun k a5 F K I=>A9 p l k a5 F K I;have c:=kC p l;obtain⟨m,M⟩:=xR l.length;rw[M]at hl key c⊢;have Z:=hiD key;clear key;have X:=hiD z;clear z;have S:=hiD c;clear c M R V;go_enter func16,ntmps16;go_wp2_with fail;go_loopw [5,8] (fun _ i wr=>∃k:Nat,k<=m∧i=Vi k∧Hid (∀(j:Nat) (y:St),j<k->l[j]?=some y->p y=false)∧Bz w wr) (fun _ i _=>m-(intOf i).toNat);case atStart=>exact⟨0,jg _,rfl,hiD (fun j y h=>by omega),Below.refl _ _⟩
 case round=>
  obtain⟨k,D,rfl,J,o⟩:=hrel;by_cases H:k<m
  ·obtain⟨b,n,s,t,u,rfl,A,d,Q,a0,p2,T,O,U⟩:=Z.out _ k o H;have q:=hiD A;clear A;have f:p s=false->∀(j:Nat) (y:St),j<k+1->l[j]?=some y->p y=false:=fun h j y hj E=>by
    rcases Nat.lt_or_ge j k with B|B
    ·exact J.out j y B E
    ·obtain rfl:j=k:=by omega
     rw[q.out]at E;obtain rfl:=Option.some.inj E;exact h
   have P:=hiD f;clear f;have C:Hid (p s=true->firstI p l=k):=hiD fun h=>X.out k _ q.out h J.out;generalize p s=a2 at*;obtain⟨a6,kd,mn,mx,st,cs⟩:=s;simp only[stA]at d Q a0 p2 T O U;clear q;generalize cs.length=cm at*;have L:=hiD d;clear d;cases a2
   ·go_wp2_with (go_at_fn g;refine L.out.mono ?_;rintro e N ⟨rfl,r⟩);go_roundw;case rel=>exact⟨k+1,by omega,by go_num,hiD (P.out trivial),o.trans (r.mono o.size)⟩
    case measure=>simp[intOf];omega
   ·go_wp2_with (go_at_fn g;refine L.out.mono ?_;rintro e N ⟨rfl,r⟩);go_ret;exact⟨by rw[C.out trivial];rfl,o.trans (r.mono o.size)⟩
  ·obtain rfl:k=m:=by omega
   go_wp2_with fail;go_ret;exact⟨by rw[S.out J.out];rfl,o⟩
theorem Tj (g:Nat) (q:∀l w,(callFunc g l).run prog w= .ok (.enter g l) w) (p:St->Bool) (k:List St) (u:∀(i:Nat) (s:St),k[i]?=some s->∀W v,yQ W v s.6->Cs g #[stA s v] W fun e w'=>e=Rt (Vb (p s))∧Bz W w')
  (a:Option Addr) (n:Nat) (w:World) (r:AB w a k) (t:k.length<=9223372036854775807):
  Cs 40 #[Sq a k.length n,.func (.func g) #[] #[]] w (Rw w (Vb (k.any p))):=by
 have b:=Fq g q p k u a n w r t;have o:=Bx p k;generalize firstI p k=x at*;obtain⟨m,d⟩:=xR k.length;rw[d]at b⊢;have h:=hiD b;clear b;have f:=hiD o;clear o d;go_enter func40,ntmps40;go_wp2_with fail;refine h.out.mono ?_;rintro e j ⟨rfl,c⟩;go_wp2_with fail;go_ret;exact⟨yU f.out,c⟩
def PatV (w:World) (v:Value) (p:Pt):Prop:=∃u,v= .agg #[u,Vi p.2]∧qN w u p.1
theorem Bk (p:Pt) (v:Value) (w:World) (B:PatV w v p) (D:∀s∈p.1,stWf s):Cs 15 #[v] w (Rw w (Vb (ptB p))):=by
 obtain⟨u,rfl,a,F,rfl,g,b,f,C⟩:=B;have k:=fun w=>Am p.2 w;have A:=fun W r=>Tj 36 LQ (fun s=>!stB s) p.1 (fun i s H W v B=>Om s (D s (jY H)) v W B) a F W (C.mono r nLe) b;have n:ptB p=(decide (0<p.1.length)&&decide (p.1.length<=26)&&numB p.2&&!(p.1.any fun c=>!stB c)):=by
  unfold ptB;congr 1;rw[List.not_any_eq_all_not];simp
 obtain⟨E,x⟩:=p;simp only at*;obtain⟨m,o⟩:=xR E.length;rw[o]at g b A n⊢;generalize numB x=y at*;generalize (E.any fun c=>!stB c)=z at*;have q:=hiD k;clear k;have t:=hiD A;clear A o C D f;by_cases l:0<m
 ·by_cases d:m<=26
  ·rw[decide_eq_true l,decide_eq_true d]at n;cases y
   ·rw[n];clear n;go_enter func15,ntmps15;go_wp2_with fail;refine(q.out _).mono ?_;rintro e j ⟨rfl,rfl⟩;go_wp2_with fail;go_ret;exact⟨rfl,bB⟩
   ·rw[n];clear n;go_enter func15,ntmps15;go_wp2_with fail;refine(q.out _).mono ?_;rintro e j ⟨rfl,rfl⟩;go_wp2_with fail;refine(t.out _ bB).mono ?_;rintro e j ⟨rfl,h⟩;go_wp2_with fail;go_ret;exact⟨by simp,bB.trans (h.mono (by simp))⟩
  ·rw[decide_eq_false d]at n;simp only[Bool.and_false,Bool.false_and]at n;rw[n];clear n;go_enter func15,ntmps15;go_wp2_with fail;go_ret;exact⟨rfl,bB⟩
 ·rw[decide_eq_false l]at n;simp only[Bool.false_and]at n;obtain rfl:m=0:=by omega
  rw[n];clear n;go_enter func15,ntmps15;go_wp2_with fail;go_ret;exact⟨rfl,bB⟩
theorem UF {α:Type} (R:α->List Value) (L:∀x,(R x).length=5) (g:Nat) (U:Array Value) (eg:∀V w,(callFunc g V).run prog w= .ok (.enter g V) w) (p:α->Bool) (l:List α) (v:Value) (w:World) (S:RowV 5 R w v l)
  (X:∀(i:Nat) (x:α),l[i]?=some x->∀W,Bz w W->Cs g (#[.agg (R x).toArray]++U) W fun e w'=>e=Rt (Vb (p x))∧Bz W w'):
  Cs 129 #[v,.func (.func g) #[] U] w (Rw w (Vi (firstI p l))):=by
 obtain⟨a8,ab,rfl,-⟩:=id S;have H:=S.small;have key:∀(i:Nat) (W:World),Bz w W->i<l.length->∃b a x c z n P Q,a8=some (Ad b a)∧l[i]?=some x∧(∀W,Bz w W->Cs g (#[.agg #[c,z,n,P,Q]]++U) W fun e w'=>e=Rt (Vb (p x))∧Bz W w')∧
   Cq W b (a+i*5) c∧
   Cq W b (a+i*5+1) z∧
   Cq W b (a+i*5+2) n∧
   Cq W b (a+i*5+3) P∧
   Cq W b (a+i*5+4) Q:=by
  intro i W q T;obtain⟨b,a,aa,e,_,t⟩:=(S.later q).get (jB T);cases e;obtain⟨x,E⟩:=xR (l[i]);have u:=X i x (by rw[<-E];exact jB T);rw[E]at t;have D:=L x;obtain⟨cs,K⟩:=xR (R x);rw[K]at t D u
  match cs,D with
  |[c,z,n,P,Q],_=>exact⟨b,a,x,c,z,n,P,Q,rfl,by rw[<-E];exact jB T,u,by simpa using t 0 _ rfl,by simpa using t 1 _ rfl,by simpa using t 2 _ rfl,by simpa using t 3 _ rfl,by simpa using t 4 _ rfl⟩
 have A:=fun k x a1 a4 a3=>A9 p l k x a1 a4 a3;have d:=kC p l;obtain⟨m,N⟩:=xR l.length;rw[N]at H key d⊢;have a6:=hiD key;clear key;have a7:=hiD A;clear A;have a2:=hiD d;clear d N X S;go_enter func129,ntmps129;go_wp2_with fail;go_loopw [5,8] (fun _ i wr=>∃k:Nat,k<=m∧i=Vi k∧Hid (∀(j:Nat) (y:α),j<k->l[j]?=some y->p y=false)∧Bz w wr) (fun _ i _=>m-(intOf i).toNat);case atStart=>exact⟨0,jg _,rfl,hiD (fun j y h=>by omega),Below.refl _ _⟩
 case round=>
  obtain⟨k,L,rfl,J,q⟩:=hrel;by_cases I:k<m
  ·obtain⟨b,a,x,c,z,n,P,Q,rfl,s,o,p0,p1,p2,p3,a9⟩:=a6.out k wr q I;have f:p x=false->∀(j:Nat) (y:α),j<k+1->l[j]?=some y->p y=false:=fun h j y hj F=>by
    rcases Nat.lt_or_ge j k with B|B
    ·exact J.out j y B F
    ·obtain rfl:j=k:=by omega
     rw[s]at F;obtain rfl:=Option.some.inj F;exact h
   have a0:=hiD f;clear f;have C:Hid (p x=true->firstI p l=k):=hiD fun h=>a7.out k _ s h J.out;clear s;generalize p x=a5 at*;have M:=hiD (o wr q);clear o;cases a5
   ·go_wp2_with (go_at_fn g;refine M.out.mono ?_;rintro e O ⟨rfl,r⟩);go_roundw;case rel=>exact⟨k+1,by omega,by go_num,hiD (a0.out trivial),q.trans (r.mono q.size)⟩
    case measure=>simp[intOf];omega
   ·go_wp2_with (go_at_fn g;refine M.out.mono ?_;rintro e O ⟨rfl,r⟩);go_ret;exact⟨by rw[C.out trivial];rfl,q.trans (r.mono q.size)⟩
  ·obtain rfl:k=m:=by omega
   go_wp2_with fail;go_ret;exact⟨by rw[a2.out J.out];rfl,q⟩
theorem PR {α:Type} (k:α->List Value) (u:∀x,(k x).length=5) (g:Nat) (o:Array Value) (t:∀q w,(callFunc g q).run prog w= .ok (.enter g q) w) (p:α->Bool) (l:List α) (v:Value) (w:World) (n:RowV 5 k w v l)
  (s:∀(i:Nat) (x:α),l[i]?=some x->∀W,Bz w W->Cs g (#[.agg (k x).toArray]++o) W fun e w'=>e=Rt (Vb (p x))∧Bz W w'):
  Cs 96 #[v,.func (.func g) #[] o] w (Rw w (Vb (l.any p))):=by
 have b:=UF k u g o t p l v w n s;have r:=Bx p l;generalize firstI p l=x at*;obtain⟨a,y,rfl,-⟩:=id n;obtain⟨m,d⟩:=xR l.length;rw[d]at b⊢;have h:=hiD b;clear b;have f:=hiD r;clear r d n s;go_enter func96,ntmps96;go_wp2_with fail;refine h.out.mono ?_;rintro e j ⟨rfl,c⟩;go_wp2_with fail;go_ret;exact⟨yU f.out,c⟩
theorem idx_mt {α:Type} (n:α->List Value) (L:∀x,(n x).length=2) (g:Nat) (U:Array Value) (eg:∀V w,(callFunc g V).run prog w= .ok (.enter g V) w) (p:α->Bool) (l:List α) (v:Value) (w:World) (S:RowV 2 n w v l)
  (X:∀(i:Nat) (x:α),l[i]?=some x->∀W,Bz w W->Cs g (#[.agg (n x).toArray]++U) W fun e w'=>e=Rt (Vb (p x))∧Bz W w'):
  Cs 275 #[v,.func (.func g) #[] U] w (Rw w (Vi (firstI p l))):=by
 obtain⟨a5,a8,rfl,-⟩:=id S;have H:=S.small;have key:∀(i:Nat) (W:World),Bz w W->i<l.length->∃b a x c u,a5=some (Ad b a)∧l[i]?=some x∧(∀W,Bz w W->Cs g (#[.agg #[c,u]]++U) W fun e w'=>e=Rt (Vb (p x))∧Bz W w')∧
   Cq W b (a+i*2) c∧
   Cq W b (a+i*2+1) u:=by
  intro i W q T;obtain⟨b,a,a7,e,_,D⟩:=(S.later q).get (jB T);cases e;obtain⟨x,E⟩:=xR (l[i]);have t:=X i x (by rw[<-E];exact jB T);rw[E]at D;have C:=L x;obtain⟨cs,K⟩:=xR (n x);rw[K]at D C t
  match cs,C with
  |[c,u],_=>exact⟨b,a,x,c,u,rfl,by rw[<-E];exact jB T,t,by simpa using D 0 _ rfl,by simpa using D 1 _ rfl⟩
 have z:=fun k x Q a1 a0=>A9 p l k x Q a1 a0;have d:=kC p l;obtain⟨m,N⟩:=xR l.length;rw[N]at H key d⊢;have a3:=hiD key;clear key;have a4:=hiD z;clear z;have R:=hiD d;clear d N X S;go_enter func275,ntmps275;go_wp2_with fail;go_loopw [5,8] (fun _ i wr=>∃k:Nat,k<=m∧i=Vi k∧Hid (∀(j:Nat) (y:α),j<k->l[j]?=some y->p y=false)∧Bz w wr) (fun _ i _=>m-(intOf i).toNat);case atStart=>exact⟨0,jg _,rfl,hiD (fun j y h=>by omega),Below.refl _ _⟩
 case round=>
  obtain⟨k,L,rfl,J,q⟩:=hrel;by_cases I:k<m
  ·obtain⟨b,a,x,c,u,rfl,s,o,a6,p1⟩:=a3.out k wr q I;have f:p x=false->∀(j:Nat) (y:α),j<k+1->l[j]?=some y->p y=false:=fun h j y hj F=>by
    rcases Nat.lt_or_ge j k with A|A
    ·exact J.out j y A F
    ·obtain rfl:j=k:=by omega
     rw[s]at F;obtain rfl:=Option.some.inj F;exact h
   have P:=hiD f;clear f;have B:Hid (p x=true->firstI p l=k):=hiD fun h=>a4.out k _ s h J.out;clear s;generalize p x=a2 at*;have M:=hiD (o wr q);clear o;cases a2
   ·go_wp2_with (go_at_fn g;refine M.out.mono ?_;rintro e O ⟨rfl,r⟩);go_roundw;case rel=>exact⟨k+1,by omega,by go_num,hiD (P.out trivial),q.trans (r.mono q.size)⟩
    case measure=>simp[intOf];omega
   ·go_wp2_with (go_at_fn g;refine M.out.mono ?_;rintro e O ⟨rfl,r⟩);go_ret;exact⟨by rw[B.out trivial];rfl,q.trans (r.mono q.size)⟩
  ·obtain rfl:k=m:=by omega
   go_wp2_with fail;go_ret;exact⟨by rw[R.out J.out];rfl,q⟩
theorem idx_int {α:Type} (V:α->Value) (g:Nat) (S:Array Value) (eg:∀U w,(callFunc g U).run prog w= .ok (.enter g U) w) (p:α->Bool) (l:List α) (v:Value) (w:World) (n:RowV 1 (fun x=>[V x]) w v l)
  (X:∀(i:Nat) (x:α),l[i]?=some x->∀W,Bz w W->Cs g (#[V x]++S) W fun e w'=>e=Rt (Vb (p x))∧Bz W w'):
  Cs 252 #[v,.func (.func g) #[] S] w (Rw w (Vi (firstI p l))):=by
 obtain⟨a,a3,rfl,-⟩:=id n;have B:=n.small;have key:∀(i:Nat) (W:World),Bz w W->i<l.length->∃b c x T,a=some (Ad b c)∧l[i]?=some x∧(∀W,Bz w W->Cs g (#[T]++S) W fun e w'=>e=Rt (Vb (p x))∧Bz W w')∧
   Cq W b (c+i) T:=by
  intro i W q R;obtain⟨b,c,a2,e,_,M⟩:=(n.later q).get (jB R);cases e;exact⟨b,c,l[i],_,rfl,jB R,X i _ (jB R),by simpa using M 0 _ rfl⟩
 have t:=fun k x J N L=>A9 p l k x J N L;have d:=kC p l;obtain⟨m,F⟩:=xR l.length;rw[F]at B key d⊢;have P:=hiD key;clear key;have Q:=hiD t;clear t;have K:=hiD d;clear d F X n;go_enter func252,ntmps252;go_wp2_with fail;go_loopw [5,8] (fun _ i wr=>∃k:Nat,k<=m∧i=Vi k∧Hid (∀(j:Nat) (y:α),j<k->l[j]?=some y->p y=false)∧Bz w wr) (fun _ i _=>m-(intOf i).toNat);case atStart=>exact⟨0,jg _,rfl,hiD (fun j y h=>by omega),Below.refl _ _⟩
 case round=>
  obtain⟨k,a1,rfl,D,q⟩:=hrel;by_cases C:k<m
  ·obtain⟨b,c,x,T,rfl,s,o,a0⟩:=P.out k wr q C;have f:p x=false->∀(j:Nat) (y:α),j<k+1->l[j]?=some y->p y=false:=fun h j y hj A=>by
    rcases Nat.lt_or_ge j k with u|u
    ·exact D.out j y u A
    ·obtain rfl:j=k:=by omega
     rw[s]at A;obtain rfl:=Option.some.inj A;exact h
   have I:=hiD f;clear f;have z:Hid (p x=true->firstI p l=k):=hiD fun h=>Q.out k _ s h D.out;clear s;generalize p x=O at*;have E:=hiD (o wr q);clear o;cases O
   ·go_wp2_with (go_at_fn g;refine E.out.mono ?_;rintro e H ⟨rfl,r⟩);go_roundw;case rel=>exact⟨k+1,by omega,by go_num,hiD (I.out trivial),q.trans (r.mono q.size)⟩
    case measure=>simp[intOf];omega
   ·go_wp2_with (go_at_fn g;refine E.out.mono ?_;rintro e H ⟨rfl,r⟩);go_ret;exact⟨by rw[z.out trivial];rfl,q.trans (r.mono q.size)⟩
  ·obtain rfl:k=m:=by omega
   go_wp2_with fail;go_ret;exact⟨by rw[K.out D.out];rfl,q⟩
theorem QO {α:Type} (k:α->Value) (g:Nat) (o:Array Value) (t:∀q w,(callFunc g q).run prog w= .ok (.enter g q) w) (p:α->Bool) (l:List α) (v:Value) (w:World) (n:RowV 1 (fun x=>[k x]) w v l)
  (s:∀(i:Nat) (x:α),l[i]?=some x->∀W,Bz w W->Cs g (#[k x]++o) W fun e w'=>e=Rt (Vb (p x))∧Bz W w'):
  Cs 224 #[v,.func (.func g) #[] o] w (Rw w (Vb (l.any p))):=by
 have b:=idx_int k g o t p l v w n s;have r:=Bx p l;generalize firstI p l=x at*;obtain⟨a,u,rfl,-⟩:=id n;obtain⟨m,d⟩:=xR l.length;rw[d]at b⊢;have h:=hiD b;clear b;have f:=hiD r;clear r d n s;go_enter func224,ntmps224;go_wp2_with fail;refine h.out.mono ?_;rintro e j ⟨rfl,c⟩;go_wp2_with fail;go_ret;exact⟨yU f.out,c⟩
end Go.Proofs.YtnmpcdnbklmhkaaGreatDoor
