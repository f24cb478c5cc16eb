import Derived.Test.YtnmpcdnbklmhkaaGreatDoorQAb
import Derived.Test.YtnmpcdnbklmhkaaGreatDoorQAc
import Derived.Test.YtnmpcdnbklmhkaaGreatDoorQAe
import Derived.Deep.DrawnRows
namespace Go.Proofs.YtnmpcdnbklmhkaaGreatDoor
open Go.Proofs.Tryz Go.RowKit
set_option maxRecDepth 100000
set_option maxHeartbeats 8000000
section
variable {P : Program} {ops : Array Oper} {Q : Exit -> Act -> World -> Prop} {md : Region.Mode} {S : World -> Prop} {last : Nat}
def qI (a:List Oper):List Nat->List Oper
 |[]=>[]
 |k::l=>match a[k]? with
   |some o=>o::qI a l
   |none=>qI a l
def Fb (c:Region.Mode) (a:Array Oper):List Nat->Array Bool->Bool
 |[],listed=>(Region.ready c a listed).isEmpty
 |k::ts,listed=>decide (Region.ready c a listed=[k])&&decide (k<a.size)&&Fb c a ts (listed.setIfInBounds k true)
def xx (a:List Oper):List (Bool×Nat)->List (Bool×Oper)
 |[]=>[]
 |(b,k)::l=>match a[k]? with
   |some o=>(b,o)::xx a l
   |none=>xx a l
def mixB (c:Region.Mode) (a:Array Oper) (d:List Nat):List (Bool×Nat)->Array Bool->Bool
 |[],listed=>Fb c a d listed
 |(true,k)::l,listed=>(Region.ready c a listed).contains k&&Region.free c a listed k&&decide (k<a.size)&&mixB c a d l (listed.setIfInBounds k true)
 |(false,k)::l,listed=>decide (Region.ready c a listed=[k])&&decide (k<a.size)&&mixB c a d l (listed.setIfInBounds k true)
def vM (P:Program) (d:Region.Mode) (c:Array Oper) (Q:Exit->Act->World->Prop) (S:World->Prop) (f:Nat):Nat->Array Bool->Act->World->Prop
 |0,listed,a,w=>Region.ready d c listed=[]∧Q .normal a w
 |fuel+1,listed,a,w=>
   (Region.ready d c listed=[]->Q .normal a w)∧
   ∀i∈Region.ready d c listed,wpOp P c Q i (fun e w'=>if i=f then wpAny P d c Q fuel (listed.setIfInBounds i true) e w' else S w'∧vM P d c Q S f fuel (listed.setIfInBounds i true) e w') a w
theorem IK:∀(d:Nat) (f:Array Bool) (a:Act) (w:World),vM P md ops Q S last d f a w->wpAny P md ops Q d f a w
 |0,_,_,_,h=>h
 |d+1,_,_,_,h=>⟨h.1,fun i g=>wpOp_mono (fun c w' b=>by
   by_cases e:i=last
   ·rw[if_pos e]at b;exact b
   ·rw[if_neg e]at b;exact IK d _ c w' b.2) (h.2 i g)⟩
theorem IL {i:Nat} {p:Oper} {v:Value} (V:ops[i]?=some p) (X:∀(j:Nat) (o:Oper) y b,ops[j]?=some o->o.op≠.select y b)
  (hQ:∀c a w,Q (.panic c) (a.put p.dst v) w->Q (.panic c) a w)
  (a0:∀Z,ops[last]?=some Z->∃e∈Z.after,Region.binds md e=true∧e.on=i) (W:i≠last):
  ∀(g:Nat) (d:Array Bool) (a:Act) (w:World),
   (∀j q,ops[j]?=some q->j≠i->d.getD j true=false->(∀e∈q.after,Region.binds md e=true->e.on≠i)->p.apart ops q=true)->
   i∈Region.ready md ops d->YieldsIf P ops S p v a->S w->
   vM P md ops Q S last g (d.setIfInBounds i true) (a.put p.dst v) w->vM P md ops Q S last (g+1) d a w:=by
 intro g
 induction g with
 |zero=>
   intro d a w _ n A O H;refine⟨fun h=>(by rw[h]at n;cases n),fun j T=>?_⟩;by_cases f:j=i
   ·subst f;exact A.wpOp V O (by rw[if_neg W];exact⟨O,H⟩)
   ·have:=ready_mono T f;rw[H.1]at this;cases this
 |succ g ih=>
   intro d a w l n A O H;refine⟨fun h=>(by rw[h]at n;cases n),fun j T=>?_⟩;by_cases f:j=i
   ·subst f;exact A.wpOp V O (by rw[if_neg W];exact⟨O,H⟩)
   ·have t:=H.2 j (ready_mono T f);obtain⟨r,q,m,a2⟩:=mem_ready.1 T;have s:∀e∈q.after,Region.binds md e=true->e.on≠i:=fun e U E u=>by
     have t:=a2 e U E;have J:=(mem_ready.1 n).1;rw[u]at t;rcases Nat.lt_or_ge i d.size with F|F
     ·simp[F]at J t;rw[J]at t;cases t
     ·simp[Array.getElem?_eq_none F]at t
    have I:j≠last:=by
     rintro rfl;obtain⟨e,U,E,u⟩:=a0 q m;exact s e U E u
    have N:=wpOp_putIf m (l j q m f r s) (fun y b=>X i p y b V) (fun y b=>X j q y b m) hQ A t;have a1:∀k R,ops[k]?=some R->k≠i->(d.setIfInBounds j true).getD k true=false->
      (∀e∈R.after,Region.binds md e=true->e.on≠i)->p.apart ops R=true:=fun k R M C x D=>by
     refine l k R M C ?_ D;by_cases z:j=k
     ·subst z;exact r
     ·rw[getD_set_ne true z]at x;exact x
    refine wpOp_mono (fun L w' K=>?_) N;have B:=K.2;rw[if_neg I]at B⊢;refine⟨B.1,ih (d.setIfInBounds j true) L w' a1 (ready_mono n (Ne.symm f)) K.1 B.1 ?_⟩;rw[Array.setIfInBounds_comm _ _ f];exact B.2
theorem EW:∀(n:List Nat) (o:Array Bool) (a:Act) (w:World),Fb md ops n o=true->wpList P ops Q (qI ops.toList n) a w->wpAny P md ops Q n.length o a w
 |[],_,_,_,hB,h=>⟨by simpa[Fb]using hB,h⟩
 |k::n,o,a,w,hB,h=>by
   simp only[Fb,jJ,decide_eq_true_eq]at hB;obtain⟨⟨q,j⟩,c⟩:=hB;have f:ops[k]?=some ops[k]:=jw j;have d:ops.toList[k]?=some ops[k]:=by simp
   rw[qI,d]at h;refine⟨fun e=>(by rw[q]at e;cases e),fun i p=>?_⟩;rw[q]at p;have b:i=k:=by simpa using p
   subst b;have g:wpOp P ops Q i (wpList P ops Q (qI ops.toList n)) a w:=by unfold wpOp;simp only[f];exact h
   exact wpOp_mono (fun l w' m=>EW n _ l w' c m) g
def mixU (P:Program) (c:Array Oper) (Q:Exit->Act->World->Prop) (S:World->Prop) (R:Act->World->Prop):List (Bool×Oper)->Act->World->Prop
 |[],a,w=>R a w
 |(true,o)::l,a,w=>∃v,YieldsIf P c S o v a∧mixU P c Q S R l (a.put o.dst v) w
 |(false,o)::l,a,w=>opL P c Q o (fun d w'=>S w'∧mixU P c Q S R l d w') a w
theorem zX {R:Act->World->Prop} {o:Oper} {l:List (Bool×Oper)} {a:Act} {w:World} {v:Value} (c:Region.wanted o (yielded ops a.tmps)=true) (h:∀w,S w->(execOp a.eval o).run P w= .ok (.value v) w)
  (k:mixU P ops Q S R l (a.put o.dst v) w):mixU P ops Q S R ((true,o)::l) a w:=⟨v,.inl ⟨c,h⟩,k⟩
theorem zQ {R:Act->World->Prop} {o:Oper} {l:List (Bool×Oper)} {a:Act} {w:World} (c:o.guard=none) (h:o.wp P a w (fun b w'=>S w'∧mixU P ops Q S R l b w') Q):mixU P ops Q S R ((false,o)::l) a w:=vV c h
theorem vf {R:Act->World->Prop} {a:Act} {w:World} (h:R a w):mixU P ops Q S R [] a w:=h
theorem Me {y:List Nat} (E:Region.noSelect ops=true) (C:∀c a d v w,Q (.panic c) (Act.put a d v) w->Q (.panic c) a w):
  ∀(n:List (Bool×Nat)) (A:Array Bool) (a:Act) (w:World),(n.all fun x=>decide (x.2≠last)&&(!x.1||j6 md ops last x.2))=true->S w->
  mixB md ops (last::y) n A=true->mixU P ops Q S (fun f w'=>wpList P ops Q (qI ops.toList (last::y)) f w') (xx ops.toList n) a w->vM P md ops Q S last (n.length+(y.length+1)) A a w
 |[],A,a,w,_,_,hB,h=>by
   simp only[mixB,Fb,jJ,decide_eq_true_eq]at hB;obtain⟨⟨z,q⟩,b⟩:=hB;have o:ops[last]?=some ops[last]:=jw q;have e:ops.toList[last]?=some ops[last]:=by simp
   simp only[qI,xx,mixU,e]at h;rw[show ([]:List (Bool×Nat)).length+(y.length+1)=y.length+1 by simp];refine⟨fun r=>(by rw[z]at r;cases r),fun i B=>?_⟩;rw[z]at B;have l:i=last:=by simpa using B
   subst l;have g:wpOp P ops Q i (wpList P ops Q (qI ops.toList y)) a w:=by unfold wpOp;simp only[o];exact h
   exact wpOp_mono (fun f w' p=>by rw[if_pos rfl];exact EW y _ f w' b p) g
 |(true,k)::n,A,a,w,g,hS,hB,h=>by
   simp only[mixB,jJ,decide_eq_true_eq]at hB;obtain⟨⟨⟨z,F⟩,q⟩,b⟩:=hB;simp only[List.all_cons,jJ,decide_eq_true_eq,Bool.not_true,Bool.false_or]at g;obtain⟨⟨m,s⟩,j⟩:=g;have o:ops[k]?=some ops[k]:=jw q;have e:ops.toList[k]?=some ops[k]:=by simp
   have D:xx ops.toList ((true,k)::n)=(true,ops[k])::xx ops.toList n:=by rw[xx,e]
   rw[D]at h;obtain⟨v,u,t⟩:=h;rw[show ((true,k)::n).length+(y.length+1)=(n.length+(y.length+1))+1 by simp;omega];exact IL o (Region.noSelect_spec E) (fun c a w=>C c a _ _ w) (xw s) m _ A a w (Region.free_spec o F) (by simpa using z) u hS
    (Me E C n _ _ w j hS b t)
 |(false,k)::n,A,a,w,g,hS,hB,h=>by
   simp only[mixB,jJ,decide_eq_true_eq]at hB;obtain⟨⟨z,q⟩,b⟩:=hB;simp only[List.all_cons,jJ,decide_eq_true_eq]at g;obtain⟨⟨m,_⟩,j⟩:=g;have o:ops[k]?=some ops[k]:=jw q;have e:ops.toList[k]?=some ops[k]:=by simp
   have D:xx ops.toList ((false,k)::n)=(false,ops[k])::xx ops.toList n:=by rw[xx,e]
   rw[D]at h;rw[show ((false,k)::n).length+(y.length+1)=(n.length+(y.length+1))+1 by simp;omega];refine⟨fun r=>(by rw[z]at r;cases r),fun i B=>?_⟩;rw[z]at B;have l:i=k:=by simpa using B
   subst l;have g:wpOp P ops Q i (fun f w'=>S w'∧mixU P ops Q S (fun f w'=>wpList P ops Q (qI ops.toList (last::y)) f w') (xx ops.toList n) f w') a w:=by unfold wpOp;simp only[o];exact h
   exact wpOp_mono (fun f w' p=>by rw[if_neg m];exact⟨p.1,Me E C n _ f w' j p.1 b p.2⟩) g
def LP (a:Array Oper) (c:List (Bool×Nat)) (d:Nat) (e:List Nat):Bool:=
 Region.noSelect a&&decide (c.length+(e.length+1)=a.size)&&(c.all fun x=>decide (x.2≠d)&&(!x.1||j6 .any a d x.2))&&mixB .any a (d::e) c (Array.replicate a.size false)
theorem Oh {i:List Oper} {a:Act} {w:World} (l:List (Bool×Nat)) (j:Nat) (k:List Nat) (m:LP i.toArray l j k=true) (S:World->Prop) (o:S w)
  (n:∀c a d v w,Q (.panic c) (Act.put a d v) w->Q (.panic c) a w)
  (h:mixU P i.toArray Q S (fun g w'=>wpList P i.toArray Q (qI i (j::k)) g w') (xx i l) a w):
  wpAny P .any i.toArray Q i.toArray.size (Array.replicate i.toArray.size false) a w:=by
 simp only[LP,jJ,decide_eq_true_eq]at m;obtain⟨⟨⟨e,p⟩,b⟩,f⟩:=m;refine IK (S:=S) (last:=j) _ _ _ _ ?_;have:=Me (md:= .any) (y:=k) (Q:=Q) (S:=S) (last:=j) e n l _ a w b o f h;rw[p]at this;exact this
theorem qO {id:Nat} {a:Act} {w:World} {e:List Oper} (f:List (Bool×Nat)) (g:Nat) (i:List Nat) (m:P.follows .mixedOrders=true) (j:LP e.toArray f g i=true)
  (S:World->Prop) (l:S w.drew) (k:∀c a d v w,Q (.panic c) (Act.put a d v) w->Q (.panic c) a w)
  (h:mixU P e.toArray Q S (fun b w'=>wpList P e.toArray Q (qI e (g::i)) b w') (xx e f) a w.drew):(Code.region id e.toArray true).wp P Q a w:=
 wp_region_any m (Oh f g i j S l k h)
end
section
attribute [local go_sem] Oper.semAt_some
attribute [local go_sem ↓] Go.wp_at_zero Go.wp_at_succ
theorem Bd {α:Type} (J:α->List Value) (r:∀x,(J x).length=5) (L:∀x,∀u∈J x,u.oneCell'=true) (v:Value) (l:List α) (w:World) (K:RowV 5 J w v l) (Q:l.length<=1000000):
  Cs 216 #[v] w fun e w'=>∃p,e=Rt p∧w'.ownsRow w.1.size 36 5 p l.length (l.flatMap J)∧Bz w w':=by
 obtain⟨O,N,q,B,t⟩:=iP36;have H:∀(w:World) (a:Option Addr) (n c y z:Nat),(binOp .eql 112 (Sq a n c) (Sq none y z)).run prog w= .ok (Vb a.isNone) w:=fun w a n c y z=>Lib.run_eql_slice_nil w _ _ a n c y z underlying112;have g:=K;obtain⟨a,P,rfl,C,E,f,i⟩:=K;cases a with
 |none=>
   have s:l=[]:=by
    rcases i with h|⟨b,R,M,_⟩
    ·exact h
    ·cases M
   subst s;clear g i f;go_enter func216,ntmps216;go_wp2_with fail;go_ret;exact⟨_,rfl,js _ _ _ _,Below.refl _ _⟩
 |some ad=>
   have o:=g.later (bA w (Oc #[] 36));have F:=hiD o;generalize D:l.length=m at*;have A:=hiD D;clear g o i f D;go_enter func216,ntmps216;go_wp2_with (at_builtin;refine zT rfl _ _ 112 rfl w.1.size 36 O (.agg #[Vi 0,Vi 0,Vi 0,Vi 0,Vc 0 0]) underlying112 N q 5 48 B t rfl (by decide) J r L _ 0 [] rfl (World.ownsRow_made w #[] 0 nLe (jg _) rfl) _ rfl l F.out ?c1 ?c2 (by simp) ?_);case c1=>rw[A.out];unfold maxLen;omega
   case c2=>rw[A.out];omega
   intro p I d j;go_wp2_with fail;go_ret;rw[A.out]at d;refine⟨p,rfl,by simpa using d,?_⟩;exact((Below.refl _ w).alloc nLe _).grown j (by simp) (by intro k r;simp[Value.ownBlock]at r;omega)
theorem U4 {α:Type} (K:α->List Value) (s:∀x,(K x).length=6) (M:∀x,∀u∈K x,u.oneCell'=true) (v:Value) (l:List α) (w:World) (L:RowV 6 K w v l) (R:l.length<=1000000):
  Cs 122 #[v] w fun e w'=>∃q,e=Rt q∧w'.ownsRow w.1.size 63 6 q l.length (l.flatMap K)∧Bz w w':=by
 obtain⟨P,O,r,C,y⟩:=info_parts (by kernel_rfl:(prog.info? 63).map (fun i=>(i.zero,i.size,i.bytes))=some (some (.agg #[Vb false,Vi 0,Vi 0,Vi 0,Vb false,Vn]),6,64));have I:∀(w:World) (a:Option Addr) (n c z A:Nat),(binOp .eql 23 (Sq a n c) (Sq none z A)).run prog w= .ok (Vb a.isNone) w:=fun w a n c z A=>Lib.run_eql_slice_nil w _ _ a n c z A underlying23;have g:=L;obtain⟨a,Q,rfl,D,F,f,j⟩:=L;cases a with
 |none=>
   have t:l=[]:=by
    rcases j with h|⟨b,S,N,_⟩
    ·exact h
    ·cases N
   subst t;clear g j f;go_enter func122,ntmps122;go_wp2_with fail;go_ret;exact⟨_,rfl,js _ _ _ _,Below.refl _ _⟩
 |some ad=>
   have p:=g.later (bA w (Oc #[] 63));have H:=hiD p;generalize E:l.length=m at*;have B:=hiD E;clear g p j f E;go_enter func122,ntmps122;go_wp2_with (at_builtin;refine zT rfl _ _ 23 rfl w.1.size 63 P (.agg #[Vb false,Vi 0,Vi 0,Vi 0,Vb false,Vn]) underlying23 O r 6 64 C y rfl (by decide) K s M _ 0 [] rfl (World.ownsRow_made w #[] 0 nLe (jg _) rfl) _ rfl l H.out ?c1 ?c2 (by simp) ?_);case c1=>rw[B.out];unfold maxLen;omega
   case c2=>rw[B.out];omega
   intro q J d o;go_wp2_with fail;go_ret;rw[B.out]at d;refine⟨q,rfl,by simpa using d,?_⟩;exact((Below.refl _ w).alloc nLe _).grown o (by simp) (by intro k s;simp[Value.ownBlock]at s;omega)
theorem U6 {α:Type} (K:α->List Value) (s:∀x,(K x).length=9) (M:∀x,∀u∈K x,u.oneCell'=true) (v:Value) (l:List α) (w:World) (L:RowV 9 K w v l) (R:l.length<=1000000):
  Cs 123 #[v] w fun e w'=>∃q,e=Rt q∧w'.ownsRow w.1.size 97 9 q l.length (l.flatMap K)∧Bz w w':=by
 obtain⟨P,O,r,C,y⟩:=info_parts (by kernel_rfl:(prog.info? 97).map (fun i=>(i.zero,i.size,i.bytes))=some (some (.agg #[Vu 0,Vu 0,Vi 0,Vi 0,Vi 0,Vu 0,Vi 0,Vi 0,Vi 0]),9,72));have I:∀(w:World) (a:Option Addr) (n c z A:Nat),(binOp .eql 61 (Sq a n c) (Sq none z A)).run prog w= .ok (Vb a.isNone) w:=fun w a n c z A=>Lib.run_eql_slice_nil w _ _ a n c z A underlying61;have g:=L;obtain⟨a,Q,rfl,D,F,f,j⟩:=L;cases a with
 |none=>
   have t:l=[]:=by
    rcases j with h|⟨b,S,N,_⟩
    ·exact h
    ·cases N
   subst t;clear g j f;go_enter func123,ntmps123;go_wp2_with fail;go_ret;exact⟨_,rfl,js _ _ _ _,Below.refl _ _⟩
 |some ad=>
   have p:=g.later (bA w (Oc #[] 97));have H:=hiD p;generalize E:l.length=m at*;have B:=hiD E;clear g p j f E;go_enter func123,ntmps123;go_wp2_with (at_builtin;refine zT rfl _ _ 61 rfl w.1.size 97 P (.agg #[Vu 0,Vu 0,Vi 0,Vi 0,Vi 0,Vu 0,Vi 0,Vi 0,Vi 0]) underlying61 O r 9 72 C y rfl (by decide) K s M _ 0 [] rfl (World.ownsRow_made w #[] 0 nLe (jg _) rfl) _ rfl l H.out ?c1 ?c2 (by simp) ?_);case c1=>rw[B.out];unfold maxLen;omega
   case c2=>rw[B.out];omega
   intro q J d o;go_wp2_with fail;go_ret;rw[B.out]at d;refine⟨q,rfl,by simpa using d,?_⟩;exact((Below.refl _ w).alloc nLe _).grown o (by simp) (by intro k s;simp[Value.ownBlock]at s;omega)
theorem FB {α:Type} (J:α->List Value) (r:∀x,(J x).length=1) (L:∀x,∀u∈J x,u.oneCell'=true) (v:Value) (l:List α) (w:World) (K:RowV 1 J w v l) (Q:l.length<=1000000):
  Cs 282 #[v] w fun e w'=>∃p,e=Rt p∧w'.ownsRow w.1.size 3 1 p l.length (l.flatMap J)∧Bz w w':=by
 obtain⟨O,N,q,B,t⟩:=iP3;have H:∀(w:World) (a:Option Addr) (n c y z:Nat),(binOp .eql 125 (Sq a n c) (Sq none y z)).run prog w= .ok (Vb a.isNone) w:=fun w a n c y z=>Lib.run_eql_slice_nil w _ _ a n c y z underlying125;have g:=K;obtain⟨a,P,rfl,C,E,f,i⟩:=K;cases a with
 |none=>
   have s:l=[]:=by
    rcases i with h|⟨b,R,M,_⟩
    ·exact h
    ·cases M
   subst s;clear g i f;go_enter func282,ntmps282;go_wp2_with fail;go_ret;exact⟨_,rfl,js _ _ _ _,Below.refl _ _⟩
 |some ad=>
   have o:=g.later (bA w (Oc #[] 3));have F:=hiD o;generalize D:l.length=m at*;have A:=hiD D;clear g o i f D;go_enter func282,ntmps282;go_wp2_with (at_builtin;refine zT rfl _ _ 125 rfl w.1.size 3 O (Vi 0) underlying125 N q 1 8 B t rfl (by decide) J r L _ 0 [] rfl (World.ownsRow_made w #[] 0 nLe (jg _) rfl) _ rfl l F.out ?c1 ?c2 (by simp) ?_);case c1=>rw[A.out];unfold maxLen;omega
   case c2=>rw[A.out];omega
   intro p I d j;go_wp2_with fail;go_ret;rw[A.out]at d;refine⟨p,rfl,by simpa using d,?_⟩;exact((Below.refl _ w).alloc nLe _).grown j (by simp) (by intro k r;simp[Value.ownBlock]at r;omega)
theorem U5 {α:Type} (J:α->List Value) (r:∀x,(J x).length=2) (L:∀x,∀u∈J x,u.oneCell'=true) (v:Value) (l:List α) (w:World) (K:RowV 2 J w v l) (Q:l.length<=1000000):
  Cs 331 #[v] w fun e w'=>∃p,e=Rt p∧w'.ownsRow w.1.size 127 2 p l.length (l.flatMap J)∧Bz w w':=by
 obtain⟨O,N,q,B,t⟩:=Vv;have H:∀(w:World) (a:Option Addr) (n c y z:Nat),(binOp .eql 115 (Sq a n c) (Sq none y z)).run prog w= .ok (Vb a.isNone) w:=fun w a n c y z=>Lib.run_eql_slice_nil w _ _ a n c y z underlying115;have g:=K;obtain⟨a,P,rfl,C,E,f,i⟩:=K;cases a with
 |none=>
   have s:l=[]:=by
    rcases i with h|⟨b,R,M,_⟩
    ·exact h
    ·cases M
   subst s;clear g i f;go_enter func331,ntmps331;go_wp2_with fail;go_ret;exact⟨_,rfl,js _ _ _ _,Below.refl _ _⟩
 |some ad=>
   have o:=g.later (bA w (Oc #[] 127));have F:=hiD o;generalize D:l.length=m at*;have A:=hiD D;clear g o i f D;go_enter func331,ntmps331;go_wp2_with (at_builtin;refine zT rfl _ _ 115 rfl w.1.size 127 O (.agg #[Vn,Vn]) underlying115 N q 2 48 B t rfl (by decide) J r L _ 0 [] rfl (World.ownsRow_made w #[] 0 nLe (jg _) rfl) _ rfl l F.out ?c1 ?c2 (by simp) ?_);case c1=>rw[A.out];unfold maxLen;omega
   case c2=>rw[A.out];omega
   intro p I d j;go_wp2_with fail;go_ret;rw[A.out]at d;refine⟨p,rfl,by simpa using d,?_⟩;exact((Below.refl _ w).alloc nLe _).grown j (by simp) (by intro k r;simp[Value.ownBlock]at r;omega)
end
section
variable {P : Program} {Q : Exit -> Act -> World -> Prop} {ops : Array Oper} {md : Region.Mode} {C : World -> Prop}
def Ef (P:Program) (d:Region.Mode) (c:Array Oper) (C:World->Prop) (n:Nat) (L:Array Bool->Act->Prop):Nat->Array Bool->Act->Prop
 |0,listed,a=>L listed a
 |f+1,listed,a=>
   Region.ready d c listed≠[]∧∀i∈Region.ready d c listed,i<n∧qOp P c C i (Ef P d c C n L f (listed.setIfInBounds i true)) a
theorem EX {n g:Nat} {L:Array Bool->Act->Prop} (k:∀j a w,C w->L j a->wpAny P md ops Q g j a w):
  ∀(f:Nat) (j:Array Bool) (a:Act) (w:World),C w->Ef P md ops C n L f j a->wpAny P md ops Q (f+g) j a w
 |0,j,a,w,hw,h=>by rw[dG];exact k _ _ _ hw h
 |f+1,j,a,w,hw,h=>by
   rw[show f+1+g=(f+g)+1 by omega];exact⟨fun c=>absurd c h.1,fun i l=>wpOp_of_qOp hw (fun d w' b e=>EX k f _ d w' b e) (h.2 i l).2⟩
theorem Oi {n i:Nat} {N:Oper} {v:Value} {L:Array Bool->Act->Prop} (R:ops[i]?=some N) (W:∀(j:Nat) (o:Oper) O b,ops[j]?=some o->o.op≠.select O b)
  (V:Region.sinkB md ops n=true) (S:Region.chainB md ops n=true) (U:n<ops.size) (T:i<n)
  (X:∀c a,L c a->∀j∈Region.ready md ops c,n<=j):
  ∀(f:Nat) (c:Array Bool) (a:Act),HeadInv md ops n c->
   (∀j s,ops[j]?=some s->j≠i->c.getD j true=false->(∀e∈s.after,Region.binds md e=true->e.on≠i)->N.apart ops s=true)->
   i∈Region.ready md ops c->YieldsIn P ops C N v a->
   Ef P md ops C n L f (c.setIfInBounds i true) (a.put N.dst v)->Ef P md ops C n L (f+1) c a:=by
 intro f
 induction f with
 |zero=>
   intro c a q _ u y H;have g:=(mem_ready.1 u).1;refine⟨fun h=>(by rw[h]at u;cases u),fun j M=>?_⟩;have m:j<n:=by
    rcases Nat.lt_or_ge j n with h|h
    ·exact h
    ·exact absurd M (tail_waits V S U q _ i rfl T g j h)
   refine⟨m,?_⟩;by_cases d:j=i
   ·subst d;exact y.qOp R H
   ·have:=X _ _ H j (ready_mono M d);omega
 |succ f ih=>
   intro c a q l u y H;have g:=(mem_ready.1 u).1;refine⟨fun h=>(by rw[h]at u;cases u),fun j M=>?_⟩;have m:j<n:=by
    rcases Nat.lt_or_ge j n with h|h
    ·exact h
    ·exact absurd M (tail_waits V S U q _ i rfl T g j h)
   refine⟨m,?_⟩;by_cases d:j=i
   ·subst d;exact y.qOp R H
   ·have z:=(H.2 j (ready_mono M d)).2;obtain⟨r,s,t,a0⟩:=mem_ready.1 M;have w:∀e∈s.after,Region.binds md e=true->e.on≠i:=fun e Z F A=>by
     have z:=a0 e Z F;rw[A,getD_both g]at z;cases z
    have J:=qOp_put t (l j s t d r w) (fun O b=>W i N O b R) (fun O b=>W j s O b t) y z;have p:∀k Q,ops[k]?=some Q->k≠i->(c.setIfInBounds j true).getD k true=false->
      (∀e∈Q.after,Region.binds md e=true->e.on≠i)->N.apart ops Q=true:=fun k Q K B g D=>by
     refine l k Q K B ?_ D;by_cases x:j=k
     ·subst x;exact r
     ·rw[getD_set_ne true x]at g;exact g
    refine qOp_mono (fun I E=>ih (c.setIfInBounds j true) I (q.set M m) p (ready_mono u (Ne.symm d)) E.1 ?_) J;rw[Array.setIfInBounds_comm _ _ d];exact E.2
theorem Kx {n g:Nat} {t:Act->Prop} (z:Region.noSelect ops=true) (y:Region.sinkB md ops n=true) (u:Region.chainB md ops n=true) (x:n<ops.size):
  ∀(l:List Oper) (k:Nat) (s:Array Bool) (a:Act),(∀j,j<l.length->l[j]?=ops[k+j]?)->k+l.length=n->HeadInv md ops n s->
  Region.lexHead md ops g l.length k s=true->wpQuiet P ops C t l a->
  Ef P md ops C n (fun b m=>Region.seqB md ops g n b=true∧t m) l.length s a
 |[],k,s,a,_,hk,_,hB,h=>by
   have:k=n:=by simpa using hk
   subst this;exact⟨by simpa[Region.lexHead]using hB,h⟩
 |o::l,k,s,a,hl,hk,inv,hB,h=>by
   have e:ops[k]?=some o:=by simpa using(hl 0 (by simp)).symm
   simp only[jF,Region.lexHead,jJ]at hB;obtain⟨⟨B,A⟩,i⟩:=hB;have d:k<n:=by simp only[jF]at hk;omega
   have c:k∈Region.ready md ops s:=by simpa using B
   have f:qOp P ops C k (wpQuiet P ops C t l) a:=by unfold qOp;simp only[e];exact h
   obtain⟨v,q,r⟩:=yieldsIn_of_qOp e f;exact Oi e (Region.noSelect_spec z) y u x d (fun b m p=>seqB_ready p.1) l.length s a inv (Region.free_spec e A) c q
    (Kx z y u x l (k+1) _ _ (fun j D=>by have:=hl (j+1) (by simp;omega);simpa[Nat.add_assoc,Nat.add_comm 1 j]using this) (by simp only[jF]at hk;omega) (inv.set c d) i r)
theorem IJ {a:Act} {w:World} {s:List Oper} (n:Nat) (u:Region.lexTailB .any s.toArray n=true) (D:C w)
  (h:wpQuiet P s.toArray C (fun l=>∀w',C w'->wpList P s.toArray Q (s.drop n) l w') (s.take n) a):wpAny P .any s.toArray Q s.toArray.size (Array.replicate s.toArray.size false) a w:=by
 simp only[Region.lexTailB,jJ,decide_eq_true_eq]at u;obtain⟨⟨⟨⟨f,z⟩,A⟩,p⟩,i⟩:=u;have q:n<s.length:=by simpa using z
 have c:(s.take n).length=n:=by simp;omega
 have d:(s.drop n).length=s.toArray.size-n:=by simp
 have e:HeadInv .any s.toArray n (Array.replicate s.toArray.size false):=
  ⟨by simp,fun j r _ y=>(by rw[getD_replicate_false]at y;cases y),fun t _ B=>getD_in (by simpa using B) (getD_replicate_false _ _)⟩
 have H:=Kx (md:= .any) (g:=s.toArray.size-n) f A p z (s.take n) 0 _ a (fun j x=>by
  have m:j<n:=by rw[c]at x;exact x
  simp[m]) (by simpa using c) e (by rw[c];exact i) h
 have:=EX (Q:=Q) (g:=s.toArray.size-n) (fun b l w' k o=>by
  have:=wpAny_of_seq (md:= .any) (Q':=Q) (s.drop n) n b l w' (fun j=>by simp[List.getElem?_drop]) (by rw[d];exact o.1) (o.2 w' k);rwa [d]at this) _ _ _ w D H
 rw[c,show n+(s.toArray.size-n)=s.toArray.size by omega]at this;exact this
theorem xO {id:Nat} {a:Act} {w:World} {l:List Oper} (W:World) (n:Nat) (d:P.follows .mixedOrders=true) (c:Region.lexTailB .any l.toArray n=true) (e:Bz W w)
  (h:wpQuiet P l.toArray (fun w'=>∃u:Lat W,w'=u.v) (fun b=>∀w',(∃u:Lat W,w'=u.v)->wpList P l.toArray Q (l.drop n) b w') (l.take n) a):(Code.region id l.toArray true).wp P Q a w:=
 wp_region_any d (IJ (C:=fun w'=>∃u:Lat W,w'=u.v) n c ⟨⟨_,e.drew⟩,rfl⟩ h)
theorem KH {Q:Act->Prop} {o:Oper} {c:List Oper} {a:Act} (e:o.guard=none) (d:TypeId) (x:Operand) (f:o.op= .load d x) (p:Addr) (i:a.eval x= .pointer (some p)) (v:Value)
  (g:∀w,C w->(loadVar d p).run P w= .ok v w) (h:wpQuiet P ops C Q c (a.put o.dst v)):wpQuiet P ops C Q (o::c) a:=by
 unfold wpQuiet;rw[if_pos (by simp[Region.wanted,e])];refine⟨v,fun w b=>?_,h⟩;unfold Oper.quietAt execOp;simp only[f,i,Instr.loadAt,Instr.sureAddr,Sem.run_bind,Sem.run_pure,Result.andThen_ok,g w b];exact⟨rfl,rfl⟩
end
end Go.Proofs.YtnmpcdnbklmhkaaGreatDoor
