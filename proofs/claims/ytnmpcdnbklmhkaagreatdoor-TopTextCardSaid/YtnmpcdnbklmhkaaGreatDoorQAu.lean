import Derived.Test.YtnmpcdnbklmhkaaGreatDoorQAi
import Derived.Test.YtnmpcdnbklmhkaaGreatDoorQAq
import Derived.Test.YtnmpcdnbklmhkaaGreatDoorQAg
import Derived.Test.YtnmpcdnbklmhkaaGreatDoorQAt
import Derived.Test.YtnmpcdnbklmhkaaGreatDoorQAm
namespace Go.Proofs.YtnmpcdnbklmhkaaGreatDoor
open Go.Proofs.Tryz Go.RowKit
set_option maxRecDepth 100000
set_option linter.all false
set_option maxHeartbeats 8000000
def simL (l m:List Tok):Prop:=l.map (fun t=>(t.kind,t.n))=m.map (fun t=>(t.kind,t.n))
def simT (t u:Tok):Prop:=t.kind=u.kind∧(t.kind≠1->t.n=u.n)
def simH (l m:List Tok):Prop:=∃x r y s,l=x::r∧m=y::s∧simT x y
def endQ:List Tok->Prop
 |[]=>False
 |t::r=>(t.kind=0∧r=[])∨(t.kind≠0∧endQ r)
def qL {α:Type} (Q:List Tok->Prop) (p:List Tok->Res α) (l:List Tok):Prop:=match p l with
 |.ok (v,l')=>∃c,l=c++l'∧(endQ l->endQ l')∧∀d e,simL c d->(simH l' e∨Q e)->p (d++e)= .ok (v,e)
 |.error a=>endQ l->∃c x r,l=c++x::r∧a=x.at'∧∀d f g,simL c d->simT x f->p (d++f::g)= .error f.at'
theorem qL.mkOk {α:Type} {Q:List Tok->Prop} {p:List Tok->Res α} {l:List Tok} {v:α} {a:List Tok} (e:p l= .ok (v,a))
  (h:∃d,l=d++a∧(endQ l->endQ a)∧∀f c,simL d f->(simH a c∨Q c)->p (f++c)= .ok (v,c)):qL Q p l:=by
 unfold qL;rw[e];exact h
theorem qL.mkErr {α:Type} {Q:List Tok->Prop} {p:List Tok->Res α} {l:List Tok} {a:Int} (e:p l= .error a)
  (h:endQ l->∃d x r,l=d++x::r∧a=x.at'∧∀f c g,simL d f->simT x c->p (f++c::g)= .error c.at'):qL Q p l:=by
 unfold qL;rw[e];exact h
theorem qL.ok {α:Type} {Q:List Tok->Prop} {p:List Tok->Res α} {l:List Tok} {v:α} {a:List Tok} (h:qL Q p l) (e:p l= .ok (v,a)):
  ∃d,l=d++a∧(endQ l->endQ a)∧∀f c,simL d f->(simH a c∨Q c)->p (f++c)= .ok (v,c):=by
 unfold qL at h;rw[e]at h;exact h
theorem qL.err {α:Type} {Q:List Tok->Prop} {p:List Tok->Res α} {l:List Tok} {a:Int} (h:qL Q p l) (e:p l= .error a):
  endQ l->∃d x r,l=d++x::r∧a=x.at'∧∀f c g,simL d f->simT x c->p (f++c::g)= .error c.at':=by
 unfold qL at h;rw[e]at h;exact h
def Eats {α:Type} (p:List Tok->Res α) (l:List Tok):Prop:=∀v a,p l= .ok (v,a)->a.length<l.length
theorem xj {m:List Tok} (h:simL [] m):m=[]:=by unfold simL at h;simpa using h.symm
theorem yR {t:Tok} {l m:List Tok} (h:simL (t::l) m):∃u r,m=u::r∧t.kind=u.kind∧t.n=u.n∧simL l r:=by
 unfold simL at*;cases m with
 |nil=>simp at h
 |cons u r=>simp at h;exact⟨u,r,rfl,h.1.1,h.1.2,h.2⟩
theorem FT {a b m:List Tok} (h:simL (a++b) m):∃d c,m=d++c∧simL a d∧simL b c:=by
 induction a generalizing m with
 |nil=>exact⟨[],m,rfl,rfl,h⟩
 |cons t a ih=>
   obtain⟨u,r,rfl,g,e,i⟩:=yR h;obtain⟨d,c,rfl,f,j⟩:=ih i;refine⟨u::d,c,rfl,?_,j⟩;unfold simL at*;simp[g,e,f]
theorem La {t u:Tok} (a:t.kind=u.kind) (c:t.n=u.n):simT t u:=⟨a,fun _=>c⟩
theorem simT.rfl' (t:Tok):simT t t:=⟨rfl,fun _=>rfl⟩
theorem GE {l m:List Tok} (h:simH l m) (c:Int):isS c l=isS c m:=by
 obtain⟨x,r,y,s,rfl,rfl,d,a⟩:=h;unfold isS;by_cases e:x.kind=5
 ·simp only[a (by omega),d]
 ·have b:¬y.kind=5:=by omega
  have:(x.kind==5)=false:=by simpa using e
  have:(y.kind==5)=false:=by simpa using b
  simp[*]
theorem G6 {b f l r j e:List Tok} {x d:Tok} (i:simL b f) (k:simT x d) (h:l=b++x::r) (g:j=f++d::e):simH l j:=by
 cases b with
 |nil=>obtain rfl:=xj i;exact⟨x,r,d,e,h,g,k⟩
 |cons t b=>
   obtain⟨u,s,rfl,c,a,_⟩:=yR i;exact⟨t,b++x::r,u,s++d::e,h,g,La c a⟩
theorem zG {α β:Type} {K L Q:List Tok->Prop} {p:List Tok->Res α} {q:α->List Tok->Res β} {l:List Tok} (N:qL K p l) (S:∀v n,p l= .ok (v,n)->qL L (q v) n)
  (P:∀m,Q m->L m) (j:(∀v n,p l= .ok (v,n)->Eats (q v) n)∨(∀m,Q m->K m)):qL Q (fun l=>qm (p l) q) l:=by
 rcases e:p l with a|⟨v,n⟩
 ·refine qL.mkErr (a:=a) (by simp only[e,qm]) fun J=>?_;obtain⟨g,x,r,C,A,D⟩:=N.err e J;exact⟨g,x,r,C,A,fun f y z w d=>by simp only[D f y z w d,qm]⟩
 ·obtain⟨g,rfl,M,I⟩:=N.ok e;have o:=S v n e;rcases e2:q v n with a|⟨O,l2⟩
  ·refine qL.mkErr (a:=a) (by simp only[e,qm,e2]) fun J=>?_;obtain⟨c,x,r,rfl,A,D⟩:=o.err e2 (M J);refine⟨g++c,x,r,by simp,A,fun f y z w d=>?_⟩;obtain⟨B,i,rfl,E,k⟩:=FT w;simp only[jk,I B (i++y::z) E (.inl (G6 k d rfl rfl)),qm];exact D i y z k d
  ·obtain⟨c,rfl,H,F⟩:=o.ok e2;refine qL.mkOk (v:=O) (a:=l2) (by simp only[e,qm,e2]) ⟨g++c,by simp,fun J=>H (M J),fun f h w d=>?_⟩;obtain⟨B,i,rfl,E,k⟩:=FT w;have R:simH (c++l2) (i++h)∨K (i++h):=by
    cases c with
    |nil=>
      obtain rfl:=xj k;rcases d with d|d
      ·exact .inl d
      ·rcases j with j|j
       ·have:=j v _ e O l2 e2;simp at this
       ·exact .inr (j _ d)
    |cons t b=>
      obtain⟨u,s,rfl,j,C,_⟩:=yR k;exact .inl ⟨t,_,u,_,rfl,rfl,La j C⟩
   simp only[jk,I B (i++h) E R,qm];refine F i h k ?_;rcases d with d|d
   ·exact .inl d
   ·exact .inr (P _ d)
theorem H8 {α:Type} (v:α) (l:List Tok):qL (fun _=>True) (fun l=>(.ok (v,l):Res α)) l:=by
 unfold qL;refine⟨[],rfl,id,fun a b s _=>?_⟩;obtain rfl:=xj s;rfl
theorem qL.weak {α:Type} {Q k:List Tok->Prop} {p:List Tok->Res α} {l:List Tok} (h:qL Q p l) (n:∀m,k m->Q m):qL k p l:=by
 unfold qL at*;split at h
 ·rename_i v o e;obtain⟨b,g,d,i⟩:=h;exact⟨b,g,d,fun a c j f=>i a c j (f.imp id (n _))⟩
 ·exact h
theorem xh {α β:Type} {Q:List Tok->Prop} {p:List Tok->Res α} {l:List Tok} (a:qL Q p l) (f:α->β):qL Q (fun l=>qm (p l) fun v l=>.ok (f v,l)) l:=
 zG a (fun v c _=>(H8 (f v) c).weak (fun _ _=>trivial)) (fun _ h=>h) (.inr fun _ h=>h)
theorem Fv {α β:Type} {p:List Tok->Res α} {q:α->List Tok->Res β} {l:List Tok} (f:Eats p l) (g:∀v c d l2,p l= .ok (v,c)->q v c= .ok (d,l2)->l2.length<=c.length):Eats (fun l=>qm (p l) q) l:=by
 intro d l2 h;rcases e:p l with a|⟨v,c⟩
 ·simp only[e,qm]at h;cases h
 ·simp only[e,qm]at h;have:=f v c e;have:=g v c d l2 e h;omega
theorem qL.le {α:Type} {Q:List Tok->Prop} {p:List Tok->Res α} {l:List Tok} (h:qL Q p l) {v:α} {c:List Tok} (e:p l= .ok (v,c)):c.length<=l.length:=by
 unfold qL at h;rw[e]at h;obtain⟨a,rfl,_⟩:=h;simp
theorem Ei {k:Int} (a:k≠0) {t:Tok} (e:t.kind=k) (r:List Tok):qX k (t::r)= .ok (t.n,r):=by unfold qX;simp only[if_pos e,if_neg a]
theorem Bm {k:Int} {t:Tok} (e:¬t.kind=k) (r:List Tok):qX k (t::r)= .error t.at':=by unfold qX;simp only[if_neg e]
theorem xQ {k:Int} (n:k≠0) (l:List Tok):qL (fun _=>True) (qX k) l:=by
 cases l with
 |nil=>exact qL.mkErr (a:=0) rfl (fun h=>h.elim)
 |cons t r=>
   by_cases e:t.kind=k
   ·refine qL.mkOk (Ei n e r) ⟨[t],rfl,fun h=>h.elim (fun h=>absurd (e▸h.1) n) (fun h=>h.2),fun b c s _=>?_⟩;obtain⟨u,p,rfl,g,d,i⟩:=yR s;obtain rfl:=xj i;show qX k (u::c)=_;rw[Ei n (g▸e),d]
   ·refine qL.mkErr (Bm e r) fun _=>⟨[],t,r,rfl,rfl,fun b m o j f=>?_⟩;obtain rfl:=xj j;exact Bm (f.1▸e) _
theorem Ko {k:Int} (a:k≠0) (l:List Tok):Eats (qX k) l:=by
 intro v c h;cases l with
 |nil=>cases h
 |cons t r=>
   by_cases e:t.kind=k
   ·rw[Ei a e]at h;cases h;simp
   ·rw[Bm e]at h;cases h
theorem QS {t:Tok} (e:t.kind=0) (r:List Tok):qX 0 (t::r)= .ok (t.n,t::r):=by unfold qX;simp only[if_pos e,if_true]
theorem loc_end (l:List Tok):qL (fun _=>False) (qX 0) l:=by
 cases l with
 |nil=>exact qL.mkErr (a:=0) rfl (fun h=>h.elim)
 |cons t r=>
   by_cases e:t.kind=0
   ·refine qL.mkOk (QS e r) ⟨[],rfl,id,fun b f s h=>?_⟩;obtain rfl:=xj s;rcases h with⟨x,r,y,i,g,rfl,c⟩|h
    ·cases g;show qX 0 (y::i)=_;rw[QS (c.1▸e),c.2 (by omega)]
    ·exact h.elim
   ·refine qL.mkErr (Bm e r) fun _=>⟨[],t,r,rfl,rfl,fun b k m j d=>?_⟩;obtain rfl:=xj j;exact Bm (d.1▸e) _
theorem xC {c:Int} {l:List Tok} (h:isS c l=true):∃t r,l=t::r∧t.kind=5∧t.n=c:=by
 cases l with
 |nil=>cases h
 |cons t r=>unfold isS at h;simp at h;exact⟨t,r,rfl,h⟩
theorem PK {c:Int} {u:Tok} (a:u.kind=5) (d:u.n=c) (r:List Tok):isS c (u::r)=true:=by unfold isS;simp[a,d]
theorem Bs {α:Type} {J K Q:List Tok->Prop} {c:Int} {q r:List Tok->Res α} {l:List Tok} (P:isS c l=true->qL J q l.tail) (R:isS c l=false->qL K r l) (M:∀m,Q m->J m) (N:∀m,Q m->K m)
  (A:(isS c l=false->Eats r l)∨∀m,Q m->isS c m=false):qL Q (fun l=>if isS c l=true then q l.tail else r l) l:=by
 cases e:isS c l
 ·have z:=R e;rcases e2:r l with a|⟨v,n⟩
  ·refine qL.mkErr (a:=a) (by simp only[e,ji,if_false,e2]) fun I=>?_;obtain⟨f,x,s,rfl,k,p⟩:=z.err e2 I;refine⟨f,x,s,rfl,k,fun d w y j g=>?_⟩;show (if isS c (d++w::y)=true then _ else _)=_;rw[if_neg (by rw[<-GE (G6 j g rfl rfl),e];simp)];exact p d w y j g
  ·obtain⟨f,rfl,k,p⟩:=z.ok e2;refine qL.mkOk (v:=v) (a:=n) (by simp only[e,ji,if_false,e2]) ⟨f,rfl,k,fun d i j g=>?_⟩;have O:isS c (d++i)=false:=by
    cases f with
    |nil=>
      obtain rfl:=xj j;rcases g with g|g
      ·rw[<-e];exact(GE g c).symm
      ·rcases A with A|A
       ·have:=A e v n e2;simp at this
       ·exact A _ g
    |cons t b=>
      obtain⟨u,s,rfl,D,B,_⟩:=yR j;rw[<-e];exact(GE ⟨t,_,u,_,rfl,rfl,La D B⟩ c).symm
   show (if isS c (d++i)=true then _ else _)=_;rw[if_neg (by rw[O];simp)];exact p d i j (g.imp id (N _))
 ·have o:=P e;obtain⟨t,s,rfl,F,L⟩:=xC e;simp only[List.tail_cons]at o;rcases e2:q s with a|⟨v,n⟩
  ·refine qL.mkErr (a:=a) (by simp only[e,if_true,List.tail_cons,e2]) fun I=>?_;obtain⟨f,x,H,rfl,k,p⟩:=o.err e2 (I.elim (fun h=>by have:=h.1;omega) (fun h=>h.2));refine⟨t::f,x,H,rfl,k,fun d w y j g=>?_⟩;obtain⟨u,C,rfl,D,B,E⟩:=yR j;show (if isS c (u::(C++w::y))=true then _ else _)=_;rw[if_pos (PK (D▸F) (B▸L) _)];exact p C w y E g
  ·obtain⟨f,rfl,k,p⟩:=o.ok e2;refine qL.mkOk (v:=v) (a:=n) (by simp only[e,if_true,List.tail_cons,e2]) ⟨t::f,rfl,fun I=>k (I.elim (fun h=>by have:=h.1;omega) (fun h=>h.2)),fun d i j g=>?_⟩;obtain⟨u,C,rfl,D,B,E⟩:=yR j;show (if isS c (u::(C++i))=true then _ else _)=_;rw[if_pos (PK (D▸F) (B▸L) _)];exact p C i E (g.imp id (M _))
theorem L7 {α:Type} {c:Int} {q r:List Tok->Res α} {l:List Tok} (d:∀v a,isS c l=true->q l.tail= .ok (v,a)->a.length<=l.tail.length) (f:isS c l=false->Eats r l):Eats (fun l=>if isS c l=true then q l.tail else r l) l:=by
 intro v a h;cases e:isS c l
 ·simp only[e,ji,if_false]at h;exact f e v a h
 ·simp only[e,if_true]at h;have:=d v a e h;obtain⟨t,s,rfl,_⟩:=xC e;simp at this⊢;omega
abbrev qt:List Tok->Prop:=fun _=>True
def yE (S:List Int) (l:List Tok):Prop:=∀c∈S,isS c l=false
theorem Es {c:Int} {t:Tok} (a:t.kind=5) (d:t.n=c) (r:List Tok):zH c (t::r)= .ok ((),r):=by unfold zH;rw[if_pos (PK a d r)];rfl
theorem GB {c:Int} {t:Tok} {r:List Tok} (h:isS c (t::r)=false):zH c (t::r)= .error t.at':=by unfold zH;rw[if_neg (by rw[h];simp)];rfl
theorem kY (c:Int) (l:List Tok):qL qt (zH c) l:=by
 cases l with
 |nil=>exact qL.mkErr (a:=0) rfl (fun h=>h.elim)
 |cons t r=>
   cases e:isS c (t::r)
   ·refine qL.mkErr (GB e) fun _=>⟨[],t,r,rfl,rfl,fun b g d p i=>?_⟩;obtain rfl:=xj p;exact GB (by rw[<-e];exact(GE ⟨t,r,g,d,rfl,rfl,i⟩ c).symm)
   ·obtain⟨v,d,h,f,n⟩:=xC e;cases h;refine qL.mkOk (Es f n r) ⟨[t],rfl,fun h=>h.elim (fun h=>by have:=h.1;omega) (fun h=>h.2),fun b j s _=>?_⟩;obtain⟨u,q,rfl,o,m,k⟩:=yR s;obtain rfl:=xj k;exact Es (o▸f) (m▸n) _
theorem Fx (c:Int) (l:List Tok):Eats (zH c) l:=by
 intro v i h;cases l with
 |nil=>cases h
 |cons t r=>
   cases e:isS c (t::r)
   ·rw[GB e]at h;cases h
   ·obtain⟨f,d,b,a,g⟩:=xC e;cases b;rw[Es a g]at h;cases h;simp
theorem le_ok {α:Type} {v a:α} {l l2:List Tok} (h:(.ok (v,l):Res α)= .ok (a,l2)):l2.length<=l.length:=by cases h;exact Nat.le_refl _
theorem ES {α β:Type} {p:List Tok->Res α} {l:List Tok} (a:Eats p l) (f:α->β):Eats (fun l=>qm (p l) fun v l=>.ok (f v,l)) l:=
 Fv a fun _ _ _ _ _ h=>le_ok h
theorem GD (a:Bool) (l:List Tok):qL qt (pNum a) l:=xh (xQ (by decide) l) _
theorem Iz (a:Bool) (l:List Tok):Eats (pNum a) l:=ES (Ko (by decide) l) _
theorem Ng (l:List Tok):qL (yE [43,45]) kA l:=by
 unfold kA;exact Bs (J:=qt) (fun _=>GD false _) (fun _=>Bs (J:=qt) (K:=qt) (Q:=yE [45]) (fun _=>GD true _) (fun _=>H8 0 l) (fun _ _=>trivial) (fun _ _=>trivial) (.inr fun m h=>h _ (by simp)))
  (fun _ _=>trivial) (fun m h=>fun c a=>h c (by simp at a;simp[a])) (.inr fun m h=>h _ (by simp))
theorem J4 (d:Bool) (l:List Tok):qL qt (AL d) l:=by
 unfold AL;cases d
 ·exact xh (xQ (by decide) l) fun a=>(a,0)
 ·refine zG (L:=qt) (xQ (by decide) l) (fun a e _=>?_) (fun _ h=>h) (.inr fun _ h=>h);exact zG (L:=qt) (kY 44 e) (fun _ c _=>xh (xQ (by decide) c) fun b=>(a,b)) (fun _ h=>h) (.inr fun _ h=>h)
theorem SJ (k:Int) (l:List Tok):qL (yE [43,45]) (xq k) l:=by
 unfold xq;refine zG (L:=yE [43,45]) (kY 40 l) (fun _ l1 _=>?_) (fun _ h=>h) (.inr fun _ _=>trivial);refine zG (L:=yE [43,45]) (J4 _ l1) (fun a l2 _=>?_) (fun _ h=>h) (.inr fun _ _=>trivial);refine zG (L:=yE [43,45]) (kY 41 l2) (fun _ c _=>?_) (fun _ h=>h) (.inr fun _ _=>trivial);exact xh (Ng c) fun n=>(⟨k,n,a.1,a.2⟩:Tm)
theorem D7 {α β:Type} {p:List Tok->Res α} {q:α->List Tok->Res β} {l:List Tok} (c:Eats p l) {Q:List Tok->Prop} (d:∀v a,qL Q (q v) a):Eats (fun l=>qm (p l) q) l:=
 Fv c fun v a _ _ _ h=>(d v a).le h
theorem P6 (k:Int) (l:List Tok):Eats (xq k) l:=by
 unfold xq;refine D7 (Q:=yE [43,45]) (Fx 40 l) (fun _ l1=>?_);refine zG (L:=yE [43,45]) (J4 _ l1) (fun a l2 _=>?_) (fun _ h=>h) (.inr fun _ _=>trivial);refine zG (L:=yE [43,45]) (kY 41 l2) (fun _ c _=>?_) (fun _ h=>h) (.inr fun _ _=>trivial);exact xh (Ng c) fun n=>(⟨k,n,a.1,a.2⟩:Tm)
def DT (l:List Tok):Res Tm:=qm (if isS 45 l=true then pNum true l.tail else pNum false l) fun n l=>.ok (⟨0,n,0,0⟩,l)
theorem SH (l:List Tok):qL qt DT l:=
 xh (Bs (J:=qt) (K:=qt) (fun _=>GD true _) (fun _=>GD false l) (fun _ h=>h) (fun _ h=>h) (.inl fun _=>Iz false l)) fun n=>(⟨0,n,0,0⟩:Tm)
theorem Iy (l:List Tok):Eats DT l:=
 ES (L7 (q:=pNum true) (r:=pNum false) (fun _ _ _ h=>Nat.le_of_lt (Iz true _ _ _ h)) (fun _=>Iz false l)) fun n=>(⟨0,n,0,0⟩:Tm)
theorem j7 {t:Tok} (a:t.kind=2) (r:List Tok):yP (t::r)=if yt t.n=0 then .error t.at' else xq (yt t.n) r:=by unfold yP;simp only[if_pos a]
theorem AW {t:Tok} (a:¬t.kind=2) (r:List Tok):yP (t::r)=DT (t::r):=by
 unfold yP DT;simp only[if_neg a];cases isS 45 (t::r)<;>rfl
theorem H5 (l:List Tok):qL (yE [43,45]) yP l:=by
 cases l with
 |nil=>exact qL.mkErr (a:=0) rfl (fun h=>h.elim)
 |cons t r=>
   by_cases k:t.kind=2
   ·by_cases B:yt t.n=0
    ·refine qL.mkErr (a:=t.at') (by rw[j7 k,if_pos B]) fun _=>⟨[],t,r,rfl,rfl,fun c o w f i=>?_⟩;obtain rfl:=xj f;show yP (o::w)=_;rw[j7 (i.1▸k),if_pos (i.2 (by omega)▸B)]
    ·have e:yP (t::r)=xq (yt t.n) r:=by rw[j7 k,if_neg B]
     have n:=SJ (yt t.n) r;have A:∀(u:Tok) (m:List Tok),t.kind=u.kind->t.n=u.n->yP (u::m)=xq (yt t.n) m:=fun u m K g=>by rw[j7 (K▸k),if_neg (g▸B),g]
     rcases e2:xq (yt t.n) r with a|⟨v,O⟩
     ·refine qL.mkErr (e.trans e2) fun z=>?_;obtain⟨d,x,s,rfl,p,q⟩:=n.err e2 (z.elim (fun h=>by have:=h.1;omega) (fun h=>h.2));refine⟨t::d,x,s,rfl,p,fun c o w f i=>?_⟩;obtain⟨u,H,rfl,y,C,I⟩:=yR f;exact(A u _ y C).trans (q H o w I i)
     ·obtain⟨d,rfl,p,q⟩:=n.ok e2;refine qL.mkOk (e.trans e2) ⟨t::d,rfl,fun z=>p (z.elim (fun h=>by have:=h.1;omega) (fun h=>h.2)),fun c j f i=>?_⟩;obtain⟨u,H,rfl,y,C,I⟩:=yR f;exact(A u _ y C).trans (q H j I i)
   ·have e:=AW k r;have n:=SH (t::r);rcases e2:DT (t::r)with a|⟨v,O⟩
    ·refine qL.mkErr (e.trans e2) fun z=>?_;obtain⟨d,x,s,g,p,q⟩:=n.err e2 z;refine⟨d,x,s,g,p,fun c o w f i=>?_⟩;have D:=q c o w f i;obtain⟨u,m,J,y⟩:∃u m,c++o::w=u::m∧¬u.kind=2:=by
      obtain⟨M,N,L,F,P,Q,R⟩:=G6 (l:=t::r) (j:=c++o::w) f i g rfl;cases P;exact⟨L,F,Q,R.1▸k⟩
     rw[J]at D⊢;rw[AW y,D]
    ·have E:=Iy (t::r) v O e2;obtain⟨d,g,p,q⟩:=n.ok e2;refine qL.mkOk (e.trans e2) ⟨d,g,p,fun c j f _=>?_⟩;have D:=q c j f (.inr trivial);cases d with
     |nil=>simp at g;subst g;simp at E
     |cons t1 b=>
       obtain⟨u,s,rfl,y,C,_⟩:=yR f;cases g;show yP (u::(s++j))=_;rw[AW (y▸k)];exact D
theorem Fw (l:List Tok):Eats yP l:=by
 intro v c h;cases l with
 |nil=>cases h
 |cons t r=>
   by_cases a:t.kind=2
   ·rw[j7 a]at h;split at h
    ·cases h
    ·have:=P6 _ _ _ _ h;simp;omega
   ·rw[AW a]at h;exact Iy _ _ _ h
theorem loc_cmp (l:List Tok):qL (yE [43,45]) pCmp l:=by
 unfold pCmp;refine zG (L:=yE [43,45]) (H5 l) (fun a l1 _=>?_) (fun _ h=>h) (.inr fun _ h=>h);refine zG (L:=yE [43,45]) (xQ (by decide) l1) (fun c l2 _=>?_) (fun _ h=>h) (.inr fun _ _=>trivial);exact xh (H5 l2) fun b=>(⟨c,a,b⟩:Cm)
theorem Bb (l:List Tok):Eats pCmp l:=by
 unfold pCmp;refine D7 (Q:=yE [43,45]) (Fw l) (fun a l1=>?_);refine zG (L:=yE [43,45]) (xQ (by decide) l1) (fun c l2 _=>?_) (fun _ h=>h) (.inr fun _ _=>trivial);exact xh (H5 l2) fun b=>(⟨c,a,b⟩:Cm)
def pCs (l:List Tok):Res (List Cm):=A6 l.length l
theorem vy {c:Int} {l:List Tok} (h:isS c l=true):l.tail.length<l.length:=by
 obtain⟨t,r,rfl,_⟩:=xC h;simp
theorem FA:∀(n:Nat) (l:List Tok),l.length<=n->∀f g,l.length<=f->l.length<=g->A6 f l=A6 g l:=by
 intro n
 induction n with
 |zero=>
   intro l d f g _ _;obtain rfl:=jV (Nat.le_zero.1 d);have:∀f,A6 f []= .error 0:=fun f=>by cases f<;>rfl
   rw[this,this]
 |succ n ih=>
   intro l d f g i c;cases l with
   |nil=>
     have:∀f,A6 f []= .error 0:=fun f=>by cases f<;>rfl
     rw[this,this]
   |cons t r=>
     obtain⟨f,rfl⟩:∃k,f=k+1:=⟨f-1,by simp at i;omega⟩;obtain⟨g,rfl⟩:∃k,g=k+1:=⟨g-1,by simp at c;omega⟩;unfold A6;rcases e:pCmp (t::r)with a|⟨v,j⟩
     ·rfl
     ·have b:=Bb _ _ _ e;simp only[qm];split
      ·rename_i h;have:=vy h;rw[ih j.tail (by omega) f g (by omega) (by omega)]
      ·rfl
theorem Ty (f:Nat) (l:List Tok):A6 (f+1) l=qm (pCmp l) fun c l=>if isS 38 l=true then qm (A6 f l.tail) fun a l=>.ok (c::a,l)else qm (zH 93 l) fun _ l=>.ok ([c],l):=rfl
theorem OF (f i:Nat) (c:Bool) (l:List Tok):vm (f+1) i c l=qm (xp i c l) fun s l=>
   if isS 59 l=true then qm (vm f (i+1) false l.tail) fun a l=>.ok (s::a,l)
   else if isS 44 l=true then qm (vm f (i+1) true l.tail) fun a l=>.ok (s::a,l)
   else .ok ([s],l):=rfl
theorem Lw (l:List Tok):pCs l=qm (pCmp l) fun c l=>if isS 38 l=true then qm (pCs l.tail) fun f l=>.ok (c::f,l)else qm (zH 93 l) fun _ l=>.ok ([c],l):=by
 unfold pCs;rw[FA l.length l nLe l.length (l.length+1) nLe (by omega),Ty];rcases e:pCmp l with a|⟨v,d⟩
 ·rfl
 ·have b:=Bb _ _ _ e;simp only[qm];split
  ·rename_i h;have:=vy h;rw[FA d.tail.length d.tail nLe l.length d.tail.length (by omega) nLe]
  ·rfl
theorem loc_cs:∀(n:Nat) (l:List Tok),l.length<=n->qL qt pCs l∧Eats pCs l:=by
 intro n
 induction n with
 |zero=>
   intro l j;obtain rfl:=jV (Nat.le_zero.1 j);exact⟨qL.mkErr (a:=0) rfl (fun h=>h.elim),fun v d h=>by cases h⟩
 |succ n ih=>
   intro l j;rw[show pCs=fun l=>qm (pCmp l) fun c l=>if isS 38 l=true then qm (pCs l.tail) fun f l=>.ok (c::f,l)else qm (zH 93 l) fun _ l=>.ok ([c],l)from funext Lw];have b:∀(v:Cm) (d:List Tok),pCmp l= .ok (v,d)->isS 38 d=true->qL qt (fun l=>qm (pCs l) fun f l=>.ok (v::f,l)) d.tail∧Eats (fun l=>qm (pCs l) fun f l=>.ok (v::f,l)) d.tail:=fun v d e h=>by
    have:=Bb l v d e;have:=vy h;have:=ih d.tail (by omega);exact⟨xh this.1 fun f=>v::f,ES this.2 fun f=>v::f⟩
   have i:∀(v:Cm) (d:List Tok),pCmp l= .ok (v,d)->Eats (fun l=>if isS 38 l=true then qm (pCs l.tail) fun f l=>.ok (v::f,l)else qm (zH 93 l) fun _ l=>.ok ([v],l)) d:=fun v d e=>
    L7 (q:=fun l=>qm (pCs l) fun f l=>.ok (v::f,l)) (r:=fun l=>qm (zH 93 l) fun _ l=>.ok ([v],l)) (fun k l2 h g=>Nat.le_of_lt ((b v d e h).2 _ _ g)) (fun _=>ES (Fx 93 d) fun _=>[v])
   constructor
   ·refine zG (L:=qt) (loc_cmp l) (fun v d e=>?_) (fun _ h=>h) (.inl i);exact Bs (q:=fun l=>qm (pCs l) fun f l=>.ok (v::f,l)) (r:=fun l=>qm (zH 93 l) fun _ l=>.ok ([v],l)) (J:=qt) (K:=qt) (fun h=>(b v d e h).1) (fun _=>xh (kY 93 d) fun _=>[v]) (fun _ h=>h) (fun _ h=>h) (.inl fun _=>ES (Fx 93 d) fun _=>[v])
   ·exact Fv (Bb l) fun v d k l2 e h=>Nat.le_of_lt (i v d e k l2 h)
theorem J2 (l:List Tok):qL (yE [123]) kD l:=by
 unfold kD;refine Bs (q:=fun l=>qm (qX 1 l) fun a l=>qm (zH 44 l) fun _ l=>qm (qX 1 l) fun b l=>qm (zH 125 l) fun _ l=>.ok ((a,b),l)) (r:=fun l=>.ok ((1,1),l)) (J:=qt) (K:=qt) (fun _=>?_) (fun _=>H8 _ l) (fun _ _=>trivial) (fun _ _=>trivial) (.inr fun m h=>h _ (by simp));refine zG (L:=qt) (xQ (by decide) _) (fun a l1 _=>?_) (fun _ h=>h) (.inr fun _ _=>trivial);refine zG (L:=qt) (kY 44 l1) (fun _ l2 _=>?_) (fun _ h=>h) (.inr fun _ _=>trivial);refine zG (L:=qt) (xQ (by decide) l2) (fun b c _=>?_) (fun _ h=>h) (.inr fun _ _=>trivial);exact xh (kY 125 c) fun _=>(a,b)
theorem ED (l:List Tok):Aq l=if isS 91 l=true then pCs l.tail else .ok ([],l):=by
 unfold Aq;split
 ·rename_i h;have:=vy h;exact FA _ _ nLe _ _ (by omega) nLe
 ·rfl
theorem Nh (l:List Tok):qL (yE [91]) Aq l:=by
 rw[show Aq=fun l=>if isS 91 l=true then pCs l.tail else .ok ([],l)from funext ED];exact Bs (q:=pCs) (r:=fun l=>.ok ([],l)) (J:=qt) (K:=qt) (fun _=>(loc_cs _ _ nLe).1) (fun _=>H8 _ l) (fun _ _=>trivial) (fun _ _=>trivial) (.inr fun m h=>h _ (by simp))
theorem H9 (i:Int) (l:List Tok):qL qt (ve i) l:=by
 cases l with
 |nil=>exact qL.mkErr (a:=0) rfl (fun h=>h.elim)
 |cons t r=>
   by_cases e:t.kind=2∧t.n=i
   ·have b:∀(u:Tok) (m:List Tok),t.kind=u.kind->t.n=u.n->ve i (u::m)= .ok ((),m):=fun u m f d=>by unfold ve;simp only[<-f,<-d,if_pos e]
    refine qL.mkOk (b t r rfl rfl) ⟨[t],rfl,fun h=>h.elim (fun h=>by have:=h.1;omega) (fun h=>h.2),fun c p s _=>?_⟩;obtain⟨u,w,rfl,f,d,q⟩:=yR s;obtain rfl:=xj q;exact b u _ f d
   ·have b:∀(u:Tok) (m:List Tok),simT t u->ve i (u::m)= .error u.at':=fun u m h=>by
     unfold ve;simp only;rw[if_neg];intro g;exact e ⟨h.1.trans g.1,(h.2 (by have:=h.1;omega)).trans g.2⟩
    refine qL.mkErr (b t r (simT.rfl' t)) fun _=>⟨[],t,r,rfl,rfl,fun c j o v k=>?_⟩;obtain rfl:=xj v;exact b j o k
def vB (i:Int) (g f:Bool) (l:List Tok):Res St:=
 qm (qX 1 l) fun k l1=>qm (ve i l1) fun _ l2=>qm (kD l2) fun a d=>qm (Aq d) fun c e=>.ok (⟨f,k,a.1,a.2,g,c⟩,e)
theorem EC (i:Int) (a:Bool) (l:List Tok):xp i a l=if isS 33 l=true then vB i a true l.tail else vB i a false l:=by
 unfold xp;cases isS 33 l<;>rfl
theorem J3 (i:Int) (e d:Bool) (l:List Tok):qL (yE [123,91]) (vB i e d) l:=by
 unfold vB;refine zG (L:=yE [123,91]) (xQ (by decide) l) (fun k l1 _=>?_) (fun _ h=>h) (.inr fun _ _=>trivial);refine zG (L:=yE [123,91]) (H9 i l1) (fun _ l2 _=>?_) (fun _ h=>h) (.inr fun _ _=>trivial);refine zG (L:=yE [91]) (J2 l2) (fun b g _=>?_) (fun m h c a=>h c (by simp at a;simp[a])) (.inr fun m h c a=>h c (by simp at a;simp[a]));exact xh (Nh g) fun f=>(⟨d,k,b.1,b.2,e,f⟩:St)
theorem D6 (i:Int) (e d:Bool) (l:List Tok):Eats (vB i e d) l:=by
 unfold vB;refine D7 (Q:=yE [123,91]) (Ko (by decide) l) (fun k l1=>?_);refine zG (L:=yE [123,91]) (H9 i l1) (fun _ l2 _=>?_) (fun _ h=>h) (.inr fun _ _=>trivial);refine zG (L:=yE [91]) (J2 l2) (fun b g _=>?_) (fun m h c a=>h c (by simp at a;simp[a])) (.inr fun m h c a=>h c (by simp at a;simp[a]));exact xh (Nh g) fun f=>(⟨d,k,b.1,b.2,e,f⟩:St)
theorem Us (i:Int) (a:Bool) (l:List Tok):qL (yE [123,91]) (xp i a) l:=by
 rw[show xp i a=fun l=>if isS 33 l=true then vB i a true l.tail else vB i a false l from funext (EC i a)];exact Bs (J:=yE [123,91]) (K:=yE [123,91]) (fun _=>J3 i a true _) (fun _=>J3 i a false l) (fun _ h=>h) (fun _ h=>h) (.inl fun _=>D6 i a false l)
theorem kQ (i:Int) (a:Bool) (l:List Tok):Eats (xp i a) l:=by
 rw[show xp i a=fun l=>if isS 33 l=true then vB i a true l.tail else vB i a false l from funext (EC i a)];exact L7 (q:=vB i a true) (r:=vB i a false) (fun v c _ h=>Nat.le_of_lt (D6 i a true _ _ _ h)) (fun _=>D6 i a false l)
def pSs (i:Nat) (a:Bool) (l:List Tok):Res (List St):=vm (l.length+1) i a l
theorem G1:∀(n:Nat) (l:List Tok),l.length<=n->∀(i:Nat) (d:Bool) (f g:Nat),l.length<f->l.length<g->vm f i d l=vm g i d l:=by
 intro n
 induction n with
 |zero=>
   intro l m i d f g j b;obtain rfl:=jV (Nat.le_zero.1 m);have:∀f,0<f->vm f i d []= .error 0:=fun f h=>by cases f with
    |zero=>omega
    |succ f=>unfold vm;rfl
   rw[this f j,this g b]
 |succ n ih=>
   intro l m i d f g j b;obtain⟨f,rfl⟩:∃k,f=k+1:=⟨f-1,by omega⟩;obtain⟨g,rfl⟩:∃k,g=k+1:=⟨g-1,by omega⟩;unfold vm;rcases e:xp i d l with a|⟨v,o⟩
   ·rfl
   ·have c:=kQ _ _ _ _ _ e;simp only[qm];split
    ·rename_i h;have:=vy h;rw[ih o.tail (by omega) (i+1) false f g (by omega) (by omega)]
    ·split
     ·rename_i h;have:=vy h;rw[ih o.tail (by omega) (i+1) true f g (by omega) (by omega)]
     ·rfl
theorem Lv (i:Nat) (f:Bool) (l:List Tok):pSs i f l=qm (xp i f l) fun s l=>
   if isS 59 l=true then qm (pSs (i+1) false l.tail) fun d l=>.ok (s::d,l)
   else if isS 44 l=true then qm (pSs (i+1) true l.tail) fun d l=>.ok (s::d,l)
   else .ok ([s],l):=by
 unfold pSs;rw[OF];rcases e:xp i f l with a|⟨v,c⟩
 ·rfl
 ·have b:=kQ _ _ _ _ _ e;simp only[qm];split
  ·rename_i h;have:=vy h;rw[G1 c.tail.length c.tail nLe (i+1) false l.length (c.tail.length+1) (by omega) (by omega)]
  ·split
   ·rename_i h;have:=vy h;rw[G1 c.tail.length c.tail nLe (i+1) true l.length (c.tail.length+1) (by omega) (by omega)]
   ·rfl
theorem loc_ss:∀(n:Nat) (l:List Tok),l.length<=n->∀(i:Nat) (j:Bool),qL (yE [123,91,59,44]) (pSs i j) l:=by
 intro n
 induction n with
 |zero=>
   intro l o i j;obtain rfl:=jV (Nat.le_zero.1 o);exact qL.mkErr (a:=0) rfl (fun h=>h.elim)
 |succ n ih=>
   intro l o i j;rw[show pSs i j=_ from funext (Lv i j)];have f:∀m,yE [123,91,59,44] m->yE [123,91] m:=fun m h c b=>h c (by simp at b;rcases b with b|b<;>simp[b]);refine zG (L:=yE [123,91,59,44]) (Us i j l) (fun s k e=>?_) (fun _ h=>h) (.inr f);have d:=kQ _ _ _ _ _ e;refine Bs (q:=fun l=>qm (pSs (i+1) false l) fun g l=>.ok (s::g,l)) (r:=fun l=>if isS 44 l=true then qm (pSs (i+1) true l.tail) fun g l=>.ok (s::g,l)else .ok ([s],l)) (J:=yE [123,91,59,44]) (K:=yE [123,91,59,44])
    (fun h=>xh (ih k.tail (by have:=vy h;omega) _ _) fun g=>s::g) (fun _=>?_) (fun _ h=>h) (fun _ h=>h) (.inr fun m h=>h _ (by simp))
   exact Bs (q:=fun l=>qm (pSs (i+1) true l) fun g l=>.ok (s::g,l)) (r:=fun l=>.ok ([s],l)) (J:=yE [123,91,59,44]) (K:=qt)
    (fun h=>xh (ih k.tail (by have:=vy h;omega) _ _) fun g=>s::g) (fun _=>H8 _ k) (fun _ h=>h) (fun _ _=>trivial) (.inr fun m h=>h _ (by simp))
theorem GC (l:List Tok):pPat l=qm (pSs 0 false l) fun a l=>qm (qX 3 l) fun _ l=>qm (qX 1 l) fun w l=>qm (qX 0 l) fun _ l=>.ok (⟨a,w⟩,l):=rfl
theorem QG (l:List Tok):qL (fun _=>False) pPat l:=by
 rw[show pPat=_ from funext GC];refine zG (L:=fun _=>False) (loc_ss _ l nLe 0 false) (fun c l1 _=>?_) (fun _ h=>h) (.inr fun _ h=>h.elim);refine zG (L:=fun _=>False) (xQ (by decide) l1) (fun _ l2 _=>?_) (fun _ h=>h) (.inr fun _ h=>h.elim);refine zG (L:=fun _=>False) (xQ (by decide) l2) (fun w a _=>?_) (fun _ h=>h) (.inr fun _ h=>h.elim);exact xh (loc_end a) fun _=>(⟨c,w⟩:Pt)
def tokB (t:Tok):Prop:=(0<=t.n∧t.n<=1099511627776)∧(t.kind=4->1<=t.n∧t.n<7)∧(t.kind=2->t.n<26)
def Dv (t:Tok):Bool:=t.kind==5&&(t.n==40||t.n==91||t.n==123)
def Ds (t:Tok):Bool:=t.kind==5&&(t.n==41||t.n==93||t.n==125)
def AP (d:Int) (t:Tok):Int:=(if Dv t=true then d+1 else d)-(if Ds t=true then 1 else 0)
def sepB (d:Int) (t:Tok):Bool:=decide (d=0)&&(t.kind==5&&(t.n==59||t.n==44))
def BO (s:Int×Int×Int) (t:Tok):Int×Int×Int:=
 (AP s.1 t,s.2.1+(if sepB (AP s.1 t) t=true then 1 else 0),s.2.2+(if t.kind=4 then 1 else 0))
def scan (s:Int×Int×Int) (l:List Tok):Int×Int×Int:=l.foldl BO s
def Bal (b:Int) (l:List Tok) (c:Int):Prop:=∀d s o:Int,b<=d->scan (d,s,o) l=(d,s,o+c)
theorem AZ (s:Int×Int×Int) (a b:List Tok):scan s (a++b)=scan (scan s a) b:=by unfold scan;exact List.foldl_append
theorem Md (b:Int):Bal b [] 0:=fun d s o _=>by simp[scan]
theorem xd {b:Int} {l m:List Tok} {c e:Int} (h:Bal b l c) (g:Bal b m e):Bal b (l++m) (c+e):=fun d s o a=>by
 rw[AZ,h d s o a,g d s _ a,Int.add_assoc]
theorem bal_le {b e:Int} {l:List Tok} {c:Int} (h:Bal b l c) (f:b<=e):Bal e l c:=fun d s o a=>h d s o (by omega)
theorem jp (b:Int) {t:Tok} (c:t.kind≠4) (e:t.kind≠5):Bal b [t] 0:=fun d s o _=>by
 have a:(t.kind==5)=false:=by simpa using e
 simp[scan,BO,AP,Dv,Ds,sepB,a,c]
theorem bal_op (b:Int) {t:Tok} (a:t.kind=4):Bal b [t] 1:=fun d s o _=>by
 simp[scan,BO,AP,Dv,Ds,sepB,a]
theorem Cn (b:Int) {t:Tok} (x:t.kind=5) {c:Int} (r:t.n=c) (p:c≠40∧c≠91∧c≠123∧c≠41∧c≠93∧c≠125) (n:(c≠59∧c≠44)∨1<=b):Bal b [t] 0:=fun d s o m=>by
 subst r;obtain⟨i,g,j,h,k,l⟩:=p;have f:Dv t=false:=by simp[Dv,i,g,j]
 have q:Ds t=false:=by simp[Ds,h,k,l]
 have e:AP d t=d:=by simp[AP,f,q]
 have u:sepB d t=false:=by
  rcases n with n|n
  ·simp[sepB,n.1,n.2]
  ·have:¬d=0:=by omega
   simp[sepB,this]
 have a:¬t.kind=4:=by omega
 simp[scan,BO,e,u,a]
theorem Qh {x y:Tok} {l:List Tok} {c m n:Int} (q:x.kind=5) (r:x.n=m) (i:m=40∨m=91∨m=123) (t:y.kind=5) (u:y.n=n) (j:n=41∨n=93∨n=125) (h:Bal 1 l c):Bal 0 (x::(l++[y])) c:=fun d s o f=>by
 subst r u;have e:BO (d,s,o) x=(d+1,s,o):=by
  have a:Dv x=true:=by rcases i with h|h|h<;>simp[Dv,q,h]
  have g:Ds x=false:=by rcases i with h|h|h<;>simp[Ds,h]
  have k:∀d,sepB d x=false:=fun d=>by rcases i with h|h|h<;>simp[sepB,h]
  have:¬x.kind=4:=by omega
  simp[BO,AP,a,g,k,this]
 have b:∀p,BO (d+1,s,p) y=(d,s,p):=fun p=>by
  have a:Ds y=true:=by rcases j with h|h|h<;>simp[Ds,t,h]
  have g:Dv y=false:=by rcases j with h|h|h<;>simp[Dv,h]
  have k:∀d,sepB d y=false:=fun d=>by rcases j with h|h|h<;>simp[sepB,h]
  have:¬y.kind=4:=by omega
  simp[BO,AP,a,g,k,this]
 show scan (BO (d,s,o) x) (l++[y])=_;rw[e,AZ,h (d+1) s o (by omega)];exact b _
theorem qu {α β:Type} {x:Res α} {q:α->List Tok->Res β} {v:β} {l:List Tok} (h:qm x q= .ok (v,l)):∃b l1,x= .ok (b,l1)∧q b l1= .ok (v,l):=by
 rcases x with a|⟨b,l1⟩
 ·cases h
 ·exact⟨b,l1,rfl,h⟩
theorem vr {k:Int} (c:k≠0) {l a:List Tok} {v:Int} (h:qX k l= .ok (v,a)):∃t,l=t::a∧t.kind=k∧t.n=v:=by
 cases l with
 |nil=>cases h
 |cons t r=>
   by_cases e:t.kind=k
   ·rw[Ei c e]at h;cases h;exact⟨t,rfl,e,rfl⟩
   ·rw[Bm e]at h;cases h
theorem AY {c:Int} {l i:List Tok} {v:Unit} (h:zH c l= .ok (v,i)):∃t,l=t::i∧t.kind=5∧t.n=c:=by
 cases l with
 |nil=>cases h
 |cons t r=>
   cases e:isS c (t::r)
   ·rw[GB e]at h;cases h
   ·obtain⟨f,d,b,a,g⟩:=xC e;cases b;rw[Es a g]at h;cases h;exact⟨t,rfl,a,g⟩
theorem PB {i:Int} {l a:List Tok} {v:Unit} (h:ve i l= .ok (v,a)):∃t,l=t::a∧t.kind=2∧t.n=i:=by
 cases l with
 |nil=>cases h
 |cons t r=>
   unfold ve at h;simp only at h;by_cases e:t.kind=2∧t.n=i
   ·rw[if_pos e]at h;cases h;exact⟨t,rfl,e⟩
   ·rw[if_neg e]at h;cases h
def Told {α:Type} (b:Int) (d:α->Int) (R:α->Prop) (p:List Tok->Res α):Prop:=∀l v a,p l= .ok (v,a)->∃c,l=c++a∧Bal b c (d v)∧((∀t∈l,tokB t)->R v)
theorem Mo (e:Bool):Told 0 (fun _=>0) (fun n=>-1099511627776<=n∧n<=1099511627776) (pNum e):=by
 intro l v f h;obtain⟨n,l1,b,a⟩:=qu h;obtain⟨t,rfl,d,rfl⟩:=vr (by decide) b;cases a;refine⟨[t],rfl,jp 0 (by omega) (by omega),fun c=>?_⟩;have:=(c t (by simp)).1;cases e<;>simp<;>omega
theorem GT {j:Bool} {c:Int} (o:c=43∨c=45) {l:List Tok} (m:isS c l=true) {v:Int} {i:List Tok} (h:pNum j l.tail= .ok (v,i)):∃a,l=a++i∧Bal 0 a 0∧((∀t∈l,tokB t)->-1099511627776<=v∧v<=1099511627776):=by
 obtain⟨t,r,rfl,e,k⟩:=xC m;obtain⟨a,b,d,f⟩:=Mo j _ _ _ h;simp only[List.tail_cons]at b;subst b;refine⟨t::a,rfl,?_,fun g=>f fun t n=>g t (List.mem_cons_of_mem _ n)⟩;have:=xd (Cn 0 e k (by omega) (.inl (by omega))) d;simpa using this
theorem Ri:Told 0 (fun _=>0) (fun n=>-1099511627776<=n∧n<=1099511627776) kA:=by
 intro l v c h;unfold kA at h;split at h
 ·rename_i a;exact GT (.inl rfl) a h
 ·split at h
  ·rename_i a;exact GT (.inr rfl) a h
  ·cases h;exact⟨[],rfl,Md 0,fun _=>by omega⟩
theorem Ov (s:Bool):Told 1 (fun _=>0) (fun c=>(0<=c.1∧c.1<26)∧(0<=c.2∧c.2<26)∧(s=false->c.2=0)) (AL s):=by
 intro l v z h;obtain⟨a,l1,r,i⟩:=qu h;obtain⟨t,rfl,k,rfl⟩:=vr (by decide) r;have m:=jp 1 (t:=t) (by omega) (by omega);cases s
 ·cases i;exact⟨[t],rfl,m,fun d=>by have:=d t (by simp);have j:=this.2.2 k;have:=this.1.1;simp;omega⟩
 ·simp only[if_true]at i;obtain⟨_,l2,j,q⟩:=qu i;obtain⟨y,rfl,g,f⟩:=AY j;obtain⟨b,A,o,p⟩:=qu q;obtain⟨n,rfl,e,rfl⟩:=vr (by decide) o;cases p;refine⟨[t,y,n],rfl,?_,fun d=>?_⟩
  ·have:=xd (xd m (Cn 1 g f (by omega) (.inr (by omega)))) (jp 1 (t:=n) (by omega) (by omega));simpa using this
  ·have u:=d t (by simp);have x:=d n (by simp);have:=u.2.2 k;have:=x.2.2 e;have:=u.1.1;have:=x.1.1;simp;omega
theorem Ow {k:Int} (J:0<k) (K:k<7):Told 0 (fun _=>0) (fun t=>tmB t=true) (xq k):=by
 intro l v L h;obtain⟨_,l1,o,x⟩:=qu h;obtain⟨w,rfl,d,b⟩:=AY o;obtain⟨i,l2,s,y⟩:=qu x;obtain⟨f,rfl,r,B⟩:=Ov _ _ _ _ s;obtain⟨_,M,u,m⟩:=qu y;obtain⟨H,rfl,c,g⟩:=AY u;obtain⟨n,N,A,q⟩:=qu m;obtain⟨a,rfl,z,p⟩:=Ri _ _ _ A;cases q;refine⟨(w::(f++[H]))++a,by simp,?_,fun j=>?_⟩
 ·have:=xd (Qh d b (.inl rfl) c g (.inl rfl) r) z;simpa using this
 ·have D:=B fun t C=>j t (by simp at C⊢;rcases C with C|C|C<;>simp[C]);have I:=p fun t C=>j t (by simp at C⊢;rcases C with C|C<;>simp[C]);have E:(k !=0)=true:=by simp;omega
  have F:(twoB ⟨k,n,i.1,i.2⟩||i.2==0)=true:=by
   cases e:(k==5||k==6)
   ·rw[D.2.2 e];simp
   ·unfold twoB;rw[e];rfl
  unfold tmB;simp only[E,F,Bool.true_or,Bool.and_true,jJ,decide_eq_true_eq];omega
theorem J7 (n:Int):yt n<7∧0<=yt n:=by
 unfold yt
 repeat' split
 all_goals omega
theorem Ou:Told 0 (fun _=>0) (fun t=>tmB t=true) DT:=by
 intro l v j h;unfold DT at h;obtain⟨n,l1,c,f⟩:=qu h;cases f;have g:∀n:Int,(-1099511627776<=n∧n<=1099511627776)->tmB ⟨0,n,0,0⟩=true:=fun n h=>by simp[tmB,h.1,h.2]
 split at c
 ·rename_i i;obtain⟨a,e,b,r⟩:=GT (.inr rfl) i c;exact⟨a,e,b,fun d=>g _ (r d)⟩
 ·obtain⟨a,e,b,r⟩:=Mo _ _ _ _ c;exact⟨a,e,b,fun d=>g _ (r d)⟩
theorem JF:Told 0 (fun _=>0) (fun t=>tmB t=true) yP:=by
 intro l v i h;cases l with
 |nil=>cases h
 |cons t r=>
   by_cases c:t.kind=2
   ·rw[j7 c]at h;split at h
    ·cases h
    ·rename_i e;have:=J7 t.n;obtain⟨a,rfl,b,g⟩:=Ow (by omega) (by omega) _ _ _ h;refine⟨t::a,rfl,?_,fun d=>g fun t f=>d t (List.mem_cons_of_mem _ f)⟩;have:=xd (jp 0 (t:=t) (by omega) (by omega)) b;simpa using this
   ·rw[AW c]at h;exact Ou _ _ _ h
theorem TW:Told 0 (fun _=>1) (fun c=>cmB c=true) pCmp:=by
 intro l v A h;obtain⟨a,l1,q,k⟩:=qu h;obtain⟨j,rfl,s,u⟩:=JF _ _ _ q;obtain⟨C,l2,f,m⟩:=qu k;obtain⟨t,rfl,e,rfl⟩:=vr (by decide) f;obtain⟨b,B,g,i⟩:=qu m;obtain⟨o,rfl,p,r⟩:=JF _ _ _ g;cases i;refine⟨j++[t]++o,by simp,?_,fun d=>?_⟩
 ·have:=xd (xd s (bal_op 0 e)) p;simpa using this
 ·have x:=u d;have y:=r fun t n=>d t (by simp at n⊢;rcases n with n|n<;>simp[n]);have z:=(d t (by simp)).2.1 e;unfold cmB;simp[x,y,z]
theorem told_cs:∀(n:Nat) (l:List Tok),l.length<=n->∀v z,pCs l= .ok (v,z)->∃C y,l=C++y::z∧y.kind=5∧y.n=93∧Bal 0 C v.length∧((∀t∈l,tokB t)->v.all cmB=true):=by
 intro n
 induction n with
 |zero=>
   intro l A v z h;obtain rfl:=jV (Nat.le_zero.1 A);cases h
 |succ n ih=>
   intro l A v z h;rw[Lw]at h;obtain⟨c,l1,j,g⟩:=qu h;have f:=Bb _ _ _ j;obtain⟨m,rfl,k,o⟩:=TW _ _ _ j;split at g
   ·rename_i H;obtain⟨t,r,rfl,p,F⟩:=xC H;obtain⟨B,l2,e,i⟩:=qu g;cases i;simp only[List.tail_cons]at e;obtain⟨s,y,rfl,b,a,u,q⟩:=ih r (by simp at f A;omega) _ _ e;refine⟨m++[t]++s,y,by simp,b,a,?_,fun d=>?_⟩
    ·have:=xd (xd k (Cn 0 p F (by omega) (.inl (by omega)))) u;rw[show (((c::B).length:Nat):Int)=1+0+(B.length:Int) by simp;omega];exact this
    ·have D:=o d;have E:=q fun t x=>d t (by simp at x⊢;rcases x with x|x|x<;>simp[x]);simp only[List.all_cons,D,E,Bool.and_self]
   ·obtain⟨_,l2,e,i⟩:=qu g;cases i;obtain⟨y,rfl,b,a⟩:=AY e;exact⟨m,y,rfl,b,a,k,fun d=>by simp[o d]⟩
theorem Oq:Told 0 (fun _=>0) (fun o=>numB o.1=true∧numB o.2=true) kD:=by
 intro l v J h;unfold kD at h;split at h
 ·rename_i E;obtain⟨F,r,rfl,f,i⟩:=xC E;obtain⟨a,l1,q,z⟩:=qu h;obtain⟨j,c,s,rfl⟩:=vr (by decide) q;simp only[List.tail_cons]at c;subst c;obtain⟨_,l2,x,A⟩:=qu z;obtain⟨H,rfl,e,g⟩:=AY x;obtain⟨b,K,y,p⟩:=qu A;obtain⟨n,rfl,w,rfl⟩:=vr (by decide) y;obtain⟨_,L,B,u⟩:=qu p;obtain⟨I,rfl,k,d⟩:=AY B;cases u;refine⟨F::([j,H,n]++[I]),rfl,?_,fun m=>?_⟩
  ·refine Qh f i (.inr (.inr rfl)) k d (.inr (.inr rfl)) ?_;have:=xd (xd (jp 1 (t:=j) (by omega) (by omega)) (Cn 1 e g (by omega) (.inr (by omega)))) (jp 1 (t:=n) (by omega) (by omega));simpa using this
  ·have C:=(m j (by simp)).1;have D:=(m n (by simp)).1;simp[numB,C,D]
 ·cases h;exact⟨[],rfl,Md 0,fun _=>by decide⟩
theorem Rj:Told 0 (fun k:List Cm=>(k.length:Int)) (fun k=>k.all cmB=true) Aq:=by
 intro l v p h;rw[ED]at h;split at h
 ·rename_i m;obtain⟨o,r,rfl,a,d⟩:=xC m;obtain⟨c,y,i,f,e,b,g⟩:=told_cs _ _ nLe _ _ h;simp only[List.tail_cons]at i g;subst i;exact⟨o::(c++[y]),by simp,Qh a d (.inr (.inl rfl)) f e (.inr (.inl rfl)) (bal_le b (by omega)),fun j=>g fun t n=>j t (List.mem_cons_of_mem _ n)⟩
 ·cases h;exact⟨[],rfl,Md 0,fun _=>rfl⟩
theorem Rg (i:Int) (K:Bool):Told 0 (fun s:St=>(s.6.length:Int)) (fun s=>stB s=true∧s.5=K∧i<26) (xp i K):=by
 have p:∀c,Told 0 (fun s:St=>(s.6.length:Int)) (fun s=>stB s=true∧s.5=K∧i<26) (vB i K c):=by
  intro c l v Q h;obtain⟨k,l1,d,B⟩:=qu h;obtain⟨e,rfl,w,rfl⟩:=vr (by decide) d;obtain⟨_,l2,z,C⟩:=qu B;obtain⟨L,rfl,f,rfl⟩:=PB z;obtain⟨J,T,A,q⟩:=qu C;obtain⟨D,rfl,y,I⟩:=Oq _ _ _ A;obtain⟨S,U,H,x⟩:=qu q;obtain⟨E,rfl,F,u⟩:=Rj _ _ _ H;cases x;refine⟨[e]++[L]++D++E,by simp,?_,fun a=>?_⟩
  ·have:=xd (xd (xd (jp 0 (t:=e) (by omega) (by omega)) (jp 0 (t:=L) (by omega) (by omega))) y) F;simpa using this
  ·have M:=I fun t n=>a t (by simp at n⊢;rcases n with n|n|n<;>simp[n]);have N:=u fun t n=>a t (by simp at n⊢;rcases n with n|n<;>simp[n]);have O:=(a e (by simp)).1;refine⟨?_,rfl,(a L (by simp)).2.2 f⟩;have gk:numB e.n=true:=by simp[numB,O]
   unfold stB;simp only[gk,M.1,M.2,N,Bool.and_self]
 intro l v Q h;rw[EC]at h;split at h
 ·rename_i P;obtain⟨R,r,rfl,j,o⟩:=xC P;obtain⟨m,d,b,g⟩:=p true _ _ _ h;simp only[List.tail_cons]at d g;subst d;refine⟨R::m,rfl,?_,fun a=>g fun t n=>a t (List.mem_cons_of_mem _ n)⟩;have:=xd (Cn 0 j o (by omega) (.inl (by omega))) b;simpa using this
 ·exact p false _ _ _ h
def asks (a:List St):Int:=(a.map fun s=>(s.6.length:Int)).sum
theorem T9 {t:Tok} {c:Int} (e:t.kind=5) (f:t.n=c) (d:c=59∨c=44) (s o:Int):scan (0,s,o) [t]=(0,s+1,o):=by
 subst f;have a:¬t.kind=4:=by omega
 rcases d with h|h<;>simp[scan,BO,AP,Dv,Ds,sepB,e,h]
theorem told_ss:∀(n:Nat) (l:List Tok),l.length<=n->∀(i:Nat) (H:Bool) v C,pSs i H l= .ok (v,C)->∃F,l=F++C∧(∀s o,scan (0,s,o) F=(0,s+(v.length-1),o+asks v))∧0<v.length∧
  ((∀t∈l,tokB t)->v.all stB=true∧i+v.length<=26∧(v.head?.map (·.strict))=some H):=by
 intro n
 induction n with
 |zero=>
   intro l I i H v C h;obtain rfl:=jV (Nat.le_zero.1 I);cases h
 |succ n ih=>
   intro l I i H v C h;rw[Lv]at h;obtain⟨c,l1,g,b⟩:=qu h;have f:=kQ _ _ _ _ _ g;obtain⟨e,rfl,j,p⟩:=Rg _ _ _ _ _ g;have a:∀(x:Int) (K:Bool),x=59∨x=44->isS x l1=true->(qm (pSs (i+1) K l1.tail) fun M l=>.ok (c::M,l))= .ok (v,C)->∃F,e++l1=F++C∧(∀s o,scan (0,s,o) F=(0,s+(v.length-1),o+asks v))∧0<v.length∧
     ((∀t∈e++l1,tokB t)->v.all stB=true∧i+v.length<=26∧(v.head?.map (·.strict))=some H):=by
    intro x K q D b;obtain⟨t,r,rfl,u,L⟩:=xC D;obtain⟨N,l2,m,y⟩:=qu b;cases y;simp only[List.tail_cons]at m;obtain⟨z,rfl,A,k,w⟩:=ih r (by simp at f I;omega) _ _ _ _ m;refine⟨e++[t]++z,by simp,fun s o=>?_,by simp,fun d=>?_⟩
    ·rw[AZ,AZ,j 0 s o (by omega),T9 u L q,A];simp only[asks,List.map_cons,List.sum_cons,jF];congr 1;congr 1
     ·omega
     ·omega
    ·have B:=p d;have J:=w fun t E=>d t (by simp at E⊢;rcases E with E|E<;>simp[E]);refine⟨by simp only[List.all_cons,B.1,J.1,Bool.and_self],by have:=J.2.1;simp;omega,by simp[B.2.1]⟩
   split at b
   ·rename_i D;exact a 59 false (.inl rfl) D b
   ·split at b
    ·rename_i D;exact a 44 true (.inr rfl) D b
    ·cases b;refine⟨e,rfl,fun s o=>?_,by simp,fun d=>?_⟩
     ·rw[j 0 s o (by omega)];simp[asks]
     ·have B:=p d;exact⟨by simp[B.1],by have:=B.2.2;simp;omega,by simp[B.2.1]⟩
theorem TV {l N:List Tok} {p:Pt} (h:pPat l= .ok (p,N)) (M:endQ l) (K:∀t∈l,tokB t):
  ptB p=true∧(p.1.head?.map (·.strict))=some false∧scan (0,0,0) l=(0,(p.1.length:Int)-1,asks p.1):=by
 have j:=(QG l).ok h;rw[GC]at h;obtain⟨Q,l1,s,C⟩:=qu h;obtain⟨g,rfl,z,c,E⟩:=told_ss _ _ nLe _ _ _ _ s;obtain⟨_,l2,A,D⟩:=qu C;obtain⟨f,rfl,u,_⟩:=vr (by decide) A;obtain⟨w,J,B,m⟩:=qu D;obtain⟨H,rfl,o,rfl⟩:=vr (by decide) B;obtain⟨_,P,i,v⟩:=qu m;cases v;have I:=E K;obtain⟨n,y,rfl⟩:∃n:Tok,n.kind=0∧J=[n]:=by
  have q:∃t r,J=t::r∧t.kind=0:=by
   cases J with
   |nil=>cases i
   |cons t r=>
     by_cases e:t.kind=0
     ·exact⟨t,r,rfl,e⟩
     ·rw[Bm e]at i;cases i
  obtain⟨t,r,rfl,k⟩:=q;have F:endQ (t::r):=by
   have:∀(a b:List Tok),endQ (a++b)->b≠[]->endQ b:=by
    intro a
    induction a with
    |nil=>intro b h _;exact h
    |cons x a ih=>
      intro b h d;rcases h with h|h
      ·simp at h;exact absurd h.2.2 d
      ·exact ih b h.2 d
   have:=this (g++[f,H]) (t::r) (by simpa using M) (by simp);exact this
  rcases F with F|F
  ·exact⟨t,k,by rw[F.2]⟩
  ·exact absurd k F.1
 refine⟨?_,I.2.2,?_⟩
 ·have L:=(K H (by simp)).1;have O:=I.2.1;unfold ptB;simp only[jJ,decide_eq_true_eq];exact⟨⟨⟨c,by omega⟩,by simp[numB,L]⟩,I.1⟩
 ·have d:=xd (xd (jp 0 (t:=f) (by omega) (by omega)) (jp 0 (t:=H) (by omega) (by omega))) (jp 0 (t:=n) (by omega) (by omega));rw[show g++f::H::[n]=g++([f]++[H]++[n]) by simp,AZ,z,d 0 _ _ (by omega)];simp
section
attribute [local go_sem] Oper.semAt_some
attribute [local go_sem ↓] Go.wp_at_zero Go.wp_at_succ
structure Sh where
 s:St
 a:Option Addr
 c:Nat
def shV (x:Sh):List Value:=stV x.s (Sq x.a 0 x.c)
theorem Mw {w:World} {b A:Nat} {B:List St} (z:∀s∈B,s.6=[]):∀(k:Nat) (l:List St),(∀(i:Nat) (s:St),l[i]?=some s->s∈B∧∃v,yQ w v s.6∧∀(j:Nat) (u:Value),(stV s v)[j]?=some u->w.cell? ⟨b,A+(k+i)*6+j,none⟩=some u)->
  ∃L:List Sh,L.map (·.s)=l∧(∀x∈L,x.a=none->x.c=0)∧∀(i:Nat) (x:Sh),L[i]?=some x->∀(j:Nat) (u:Value),(shV x)[j]?=some u->w.cell? ⟨b,A+(k+i)*6+j,none⟩=some u
 |_,[],_=>⟨[],rfl,(fun _ h=>nomatch h),(fun _ _ h=>nomatch h)⟩
 |k,s::l,h=>by
   obtain⟨C,v,D,m⟩:=h 0 s rfl;obtain⟨a,c,rfl,y,r,p,t⟩:=D;obtain⟨L,o,e,d⟩:=Mw z (k+1) l (fun i q n=>by
    have:=h (i+1) q (by simpa using n);simpa[Nat.add_assoc,Nat.add_comm 1 i]using this)
   rw[z s C]at m;refine⟨⟨s,a,c⟩::L,by rw[List.map_cons,o],fun x f=>?_,fun i x n j u g=>?_⟩
   ·rcases jI.1 f with rfl|f
    ·exact p
    ·exact e x f
   ·cases i with
    |zero=>
      simp at n;subst n;exact m j u g
    |succ i=>
      have:=d i x (by simpa using n) j u g;simpa[Nat.add_assoc,Nat.add_comm 1 i]using this
structure vK (g:Nat) (ss:List St) (W:World):Prop where
 ty:∃cs q,W.1[g]?=some (.cells cs 63 q)
 fz:∀i,W.frozen? ⟨g,i,none⟩=false
 at':∀(i:Nat) (s:St),ss[i]?=some s->∃a c,(a=none->c=0)∧∀(j:Nat) (u:Value),(stV s (Sq a 0 c))[j]?=some u->W.cell? ⟨g,i*6+j,none⟩=some u
theorem vK.later {g:Nat} {n:List St} {W m:World} (h:vK g n W) (l:Bz W m):vK g n m:=by
 obtain⟨o,q,d⟩:=h.ty;have e:g<W.1.size:=(jA.1 d).1;refine⟨⟨o,q,(l.block g e).trans d⟩,fun i=>?_,fun i s p=>?_⟩
 ·have b:=h.fz i;unfold World.frozen? at b⊢;rw[l.block g e];exact b
 ·obtain⟨a,c,b,f⟩:=h.at' i s p;exact⟨a,c,b,fun j u k=>qd l nLe (f j u k)⟩
theorem vK.stp {g n l:Nat} {k:List St} {W:World} (h:vK g k W) (q:∀s∈k,s.6=[]) (p:k.length=n) (o:n<=l) (r:n<=1000000):qN W (Sq (some ⟨g,0,none⟩) n l) k:=by
 subst p;refine⟨some (Ad g 0),l,rfl,o,by omega,(fun e=>nomatch e),.inr ⟨g,0,rfl,fun i s m=>?_⟩⟩;obtain⟨a,c,f,b⟩:=h.at' i s m;rw[q s (jY m)];refine⟨Sq a 0 c,⟨a,c,rfl,jg _,by simp,f,.inl rfl⟩,fun j u d=>?_⟩;rw[dG];exact b j u d
theorem vK.of {y n:Nat} {v:Value} {L:List Sh} {z:List St} {W:World} (h:W.ownsRow y 63 6 v n (L.flatMap shV)) (B:L.length=n) (D:1<=n) (C:L.map (·.s)=z) (A:∀x∈L,x.a=none->x.c=0):
  ∃g q,v=Sq (some ⟨g,0,none⟩) n q∧n<=q∧y<=g∧g<W.1.size∧vK g z W:=by
 subst B;have e:=RowT.of_own (enc:=shV) (fun _=>rfl) h rfl;rcases h.2 with⟨_,p⟩|⟨g,q,m,rfl,o,r,d,_,_,_⟩
 ·omega
 ·refine⟨g,q,rfl,d,o,(jA.1 r).1,⟨_,_,r⟩,fun i=>by simp[World.frozen?,r],fun i s t=>?_⟩;subst C;rw[List.getElem?_map]at t;obtain⟨x,f,rfl⟩:=Option.map_eq_some_iff.1 t;obtain⟨b,E,c,l,_,a⟩:=e.1.get f;cases l;refine⟨x.a,x.c,A x (jY f),fun j u k=>?_⟩;have:=a j u k;rwa [dG]at this
theorem vK.set {g:Nat} {n:List St} {W:World} (h:vK g n W) {i:Nat} {a:Option Addr} {c:Nat} (y:a=none->c=0):vK g n (W.setCell ⟨g,i*6+5,none⟩ (Sq a 0 c)):=by
 obtain⟨x,q,o⟩:=h.ty;have b:∀(k:Nat),k≠i*6+5->(W.setCell (Ad g (i*6+5)) (Sq a 0 c)).cell? (Ad g k)=W.cell? (Ad g k):=fun k f=>World.cell?_setCell_other _ _ _ _ (fun e=>f (by cases e;rfl));refine⟨?_,fun k=>?_,fun k s f=>?_⟩
 ·obtain⟨l,f⟩:=jA.1 o;refine⟨x.setIfInBounds (i*6+5) (Sq a 0 c),q,?_⟩;show (W.1.modify g _)[g]?=_;rw[jw (by rw[Array.size_modify];exact l),Array.getElem_modify_self,f];rfl
 ·rw[World.frozen?_setCell];exact h.fz k
 ·obtain⟨r,t,v,p⟩:=h.at' k s f;by_cases m:k=i
  ·subst m;refine⟨a,c,y,fun j u d=>?_⟩;by_cases z:j=5
   ·subst z;simp[stV]at d;subst d;exact World.cell?_setCell_same' _ _ _ (by rw[p 5 _ rfl];rfl)
   ·rw[b _ (by omega)];refine p j u ?_;have:j<6:=by simpa[stV]using(jG.1 d).1
    rcases(show j=0∨j=1∨j=2∨j=3∨j=4 by omega)with rfl|rfl|rfl|rfl|rfl<;>exact d
  ·refine⟨r,t,v,fun j u d=>?_⟩;have:j<6:=by simpa[stV]using(jG.1 d).1
   rw[b _ (by omega)];exact p j u d
theorem vK.far {g b i:Nat} {t:List St} {W:World} {v:Value} (h:vK g t W) (n:b≠g):vK g t (W.setCell ⟨b,i,none⟩ v):=by
 have y:(W.setCell (Ad b i) v).1[g]?=W.1[g]?:=Below.heap_setCell W (Ad b i) v g (fun e=>n e.symm);obtain⟨x,q,c⟩:=h.ty;refine⟨⟨x,q,y.trans c⟩,fun k=>?_,fun k s o=>?_⟩
 ·rw[World.frozen?_setCell];exact h.fz k
 ·obtain⟨r,l,m,d⟩:=h.at' k s o;exact⟨r,l,m,fun j u f=>(Af (a:=Ad g (k*6+j)) (p:=Ad b i) (fun e=>n e.symm) v).trans (d j u f)⟩
theorem vK.stepsD {g n l:Nat} {k:List St} {W m:World} {D:Nat->Prop} (h:vK g k W) (r:qg D W m) (p:¬D g) (x:∀s∈k,s.6=[]) (t:k.length=n) (q:n<=l) (y:n<=1000000):qN m (Sq (some ⟨g,0,none⟩) n l) k:=by
 subst t;refine⟨some (Ad g 0),l,rfl,q,by omega,(fun e=>nomatch e),.inr ⟨g,0,rfl,fun i s o=>?_⟩⟩;obtain⟨a,c,f,b⟩:=h.at' i s o;rw[x s (jY o)];refine⟨Sq a 0 c,⟨a,c,rfl,jg _,by simp,f,.inl rfl⟩,fun j u d=>?_⟩;rw[dG];exact km (b j u d) r p
def vC (W:World) (u:Value) (c:List St):Prop:=qN W u c∧∀b,u.ownBlock=some b->∃a q,W.1[b]?=some (.cells a 63 q)
theorem vC.form {w:World} {u:Value} {d:List St} (h:vC w u d):∃a c,u=Sq a d.length c∧d.length<=c∧d.length<=9223372036854775807:=h.1.form
theorem vC.keptT {W C:World} {D:Nat->Prop} {u:Value} {B:List St} (h:vC W u B) (L:∀s∈B,s.6=[]) (H:qg D W C) (E:∀b,D b->∀n q,W.1[b]?≠some (.cells n 63 q)):vC C u B:=by
 obtain⟨⟨a,c,rfl,z,r,m,f⟩,I⟩:=h;have g:∀x:Addr,a=some x->¬D x.block:=fun x e g=>by
  obtain⟨n,q,d⟩:=I x.block (by rw[e];rfl);exact E _ g _ _ d
 refine⟨⟨a,c,rfl,z,r,m,?_⟩,fun b k=>?_⟩
 ·rcases f with rfl|⟨b,J,rfl,f⟩
  ·exact .inl rfl
  ·refine .inr ⟨b,J,rfl,fun i s F=>?_⟩;obtain⟨v,⟨t,w,o,l,A,y,_⟩,d⟩:=f i s F;exact⟨v,⟨t,w,o,l,A,y,.inl (L s (jY F))⟩,fun j u K=>km (d j u K) H (g (Ad b J) rfl)⟩
 ·obtain⟨n,q,d⟩:=I b k;exact⟨n,q,H.same b n _ q d (fun p=>E b p _ _ d)⟩
theorem vC.mono {B:Nat} {W d:World} {u:Value} {g:List St} (f:Below B W d) (e:W.1.size<=B) (h:vC W u g):vC d u g:=
 ⟨h.1.mono f e,fun b a=>by
  obtain⟨i,q,c⟩:=h.2 b a;exact⟨i,q,(f.block b (jf (jA.1 c).1 e)).trans c⟩⟩
def PatT (w:World) (v:Value) (p:Pt):Prop:=∃u,v= .agg #[u,Vi p.2]∧vC w u p.1
theorem vK.stepsT {g n f:Nat} {d:List St} {W e:World} {D:Nat->Prop} (h:vK g d W) (k:qg D W e) (j:¬D g) (o:∀s∈d,s.6=[]) (m:d.length=n) (a:n<=f) (l:n<=1000000):vC e (Sq (some ⟨g,0,none⟩) n f) d:=
 ⟨h.stepsD k j o m a l,fun b c=>by
  cases c;obtain⟨i,q,a⟩:=h.ty;exact⟨i,q,k.same g i _ q a j⟩⟩
theorem Mm (p:Pt) (X:∀s∈p.1,s.6=[]) (V:p.1.length<=1000000) (an:1<=p.1.length) (v:Value) (w:World) (hv:PatV w v p):
  Cs 86 #[v] w fun e w'=>∃U,e=Rt U∧PatT w' U p∧(∀(D:Nat->Prop) (W:World),qg D w' W->(∀b,D b->b<w.1.size)->PatT W U p)∧Bz w w':=by
 obtain⟨u,rfl,hs⟩:=hv;obtain⟨a,c,rfl,R,a1,a4,C⟩:=hs;obtain⟨n,m⟩:=xR p.1.length;rw[m]at R V a1 an⊢;have A:=(bA w (Oc #[Sq a n c,Vi p.2] 25)).alloc (by simp) (Oc #[Vn,Vi 0] 25);have r:=(Holds.fresh w 25 #[Sq a n c,Vi p.2]).alloc (Oc #[Vn,Vi 0] 25);have j:=Holds.fresh' (w:=w.alloc (Oc #[Sq a n c,Vi p.2] 25)) (b:=w.1.size+1) (by simp) 25 #[Vn,Vi 0];obtain⟨L,H,ab,a3⟩:∃L:List Sh,L.map (·.s)=p.1∧(∀x∈L,x.a=none->x.c=0)∧RowV 6 shV w (Sq a n c) L:=by
  rcases C with h|⟨b,a2,rfl,C⟩
  ·rw[h]at m;subst m;exact⟨[],by rw[h];rfl,(fun _ h=>nomatch h),a,c,rfl,jg _,by simp,a4,.inl rfl⟩
  ·obtain⟨L,h1,h2,h3⟩:=Mw (w:=w) (b:=b) (A:=a2) X 0 p.1 (fun i s t=>⟨jY t,by rw[dG];exact C i s t⟩);have z:L.length=n:=by rw[<-m,<-h1,List.length_map]
   exact⟨L,h1,h2,_,c,by rw[z],by rw[z];exact R,by rw[z];exact a1,a4,.inr ⟨b,a2,rfl,fun i x t au u Q=>by have:=h3 i x t au u Q;rwa [dG]at this⟩⟩
 have z:L.length=n:=by rw[<-m,<-H,List.length_map]
 have CC:=hiD (fun y (T:Bz w y)=>U4 shV (fun _=>rfl) (fun x u Q=>by simp[shV,stV]at Q;rcases Q with rfl|rfl|rfl|rfl|rfl|rfl<;>rfl) (Sq a n c) L y (a3.mono T nLe) (by omega));have ae:=hiD H;have ad:=hiD ab;have I:=hiD m;clear H ab a3 C a4 m;go_enter func86,ntmps86;go_wp2_with fail;refine(CC.out _ A).mono ?_;rintro x S ⟨U,rfl,a6,B⟩;have ac:=A.trans (B.mono A.size);replace r:=r.later B;replace j:=j.later B;obtain⟨g,d,rfl,a',hg,a8,k⟩:=vK.of a6 rfl (by omega) ae.out ad.out;simp at hg;have Z:=r.cell 0;simp at Z;have kf:=r.free;have ks:=r.size;clear a6 CC B A;go_wp2_with fail;have am:w.1.size≠g:=by omega
 have av:vK g p.1 (S.setCell (Ad w.1.size 0) (Vs g 0 n d)):=k.far am;have y1:Holds (S.setCell (Ad w.1.size 0) (Vs g 0 n d)) w.1.size 25 #[Vs g 0 n d,Vi p.2]:=r.set 0 (Vs g 0 n d);have y2:Holds (S.setCell (Ad w.1.size 0) (Vs g 0 n d)) (w.1.size+1) 25 #[Vn,Vi 0]:=j.far (p:=Ad w.1.size 0) (by simp) _;have ai:Bz w (S.setCell (Ad w.1.size 0) (Vs g 0 n d)):=ac.setCell nLe _;generalize S.setCell (Ad w.1.size 0) (Vs g 0 n d)=w2 at*;clear r j k Z kf ks ac a8;go_loopw [12] (fun q wr=>∃i:Nat,i<=n∧q=Vi i∧vK g p.1 wr∧Holds wr w.1.size 25 #[Vs g 0 n d,Vi p.2]∧Holds wr (w.1.size+1) 25 #[Vn,Vi 0]∧Bz w wr) (fun q _=>n-(intOf q).toNat);case atStart=>exact⟨0,jg _,rfl,av,y1,y2,ai⟩
 case round=>
  obtain⟨i,t,rfl,k,r,j,K⟩:=hrel;have a8:g<wr.1.size:=by obtain⟨cs,q,R⟩:=k.ty;exact(jA.1 R).1
  by_cases a9:i<n
  ·obtain⟨s,a0⟩:∃s,p.1[i]?=some s:=⟨_,jB (by rw[I.out];exact a9)⟩;obtain⟨N,O,ah,f⟩:=k.at' i s a0;have p0:=f 0 _ rfl;have p1:=f 1 _ rfl;have p2:=f 2 _ rfl;have p3:=f 3 _ rfl;have p4:=f 4 _ rfl;have p5:=f 5 _ rfl;rw[Nat.add_zero]at p0;have l:=(Below.refl wr.1.size wr).alloc nLe (Oc #[Vb s.neg,Vi s.kind,Vi s.min,Vi s.max,Vb s.5,Sq N 0 O] 63);have zs:=Holds.fresh wr 63 #[Vb s.neg,Vi s.kind,Vi s.min,Vi s.max,Vb s.5,Sq N 0 O];have M:=r.later l;obtain⟨P,J⟩:=xR (wr.alloc (Oc #[Vb s.neg,Vi s.kind,Vi s.min,Vi s.max,Vb s.5,Sq N 0 O] 63));rw[J]at l zs M;have HC:=hiD (fun w' (T:Bz P w')=>(⟨(M.later T).cell 0,(zs.later T).cell 5⟩:Cq w' w.1.size 0 (Vs g 0 n d)∧Cq w' wr.1.size 5 (Sq N 0 O)));have CM:=hiD (fun y=>U6 (fun _:Unit=>List.replicate 9 (Vi 0)) (fun _=>rfl) (fun _ u Q=>by rw[List.eq_of_mem_replicate Q];rfl) (Sq N 0 O) [] y ⟨N,O,rfl,jg _,by simp,ah,.inl rfl⟩ (by simp));have ar:=k.later l;have aq:=j.later l;have ap:=r.later l;have a7:=K.trans (l.mono K.size);have ao:=hiD J;have b0:(i:Int)<n:=by omega
   clear f J a0 zs M k r j;go_wp2_with fail;rw[ao.out];refine qO [(true,0),(true,1),(true,2),(true,3),(true,4),(false,5)] 6 [7,8] (by kernel_rfl) (by kernel_rfl) (fun w'=>Bz P w') (bRf.drew) (fun _ _ af _ _ h=>by cases af<;>exact h) ?_;simp only[qI,xx,jM,jN]
   repeat (refine zX rfl (fun w' hS=>by obtain⟨q0,q1⟩:=HC.out w' hS;(go_simp<;>rfl)) ?_)
   simp only[Act.put,jC,jL,jK];refine zQ rfl ?_;go_simp;refine(CM.out _).mono ?_;rintro x w5 ⟨cv,rfl,al,aj⟩;have o:=(Below.refl P.1.size P).drew.trans aj;refine⟨o,vf ?_⟩;obtain⟨E,F,rfl,ag⟩:∃E F,cv=Sq E 0 F∧(E=none->F=0):=by
    rcases al.2 with⟨rfl,_⟩|⟨g',ay,az,rfl,_⟩
    ·exact⟨none,0,rfl,fun _=>rfl⟩
    ·exact⟨_,_,rfl,fun e=>nomatch e⟩
   have a5:=ar.later o;have aw:=ap.later o;have ax:=aq.later o;have r5:=qd o nLe (qd l nLe p5);have rf:=a5.fz (i*6+5);have rg:g<w5.1.size:=by obtain⟨cs,q,R⟩:=a5.ty;exact(jA.1 R).1
   have ak:=(a7.trans (o.mono a7.size)).setCell (p:=Ad g (i*6+5)) (by show w.1.size<=g;omega) (Sq E 0 F);clear p0 p1 p2 p3 p4 p5;go_wp2_with fail;exact⟨⟨i+1,a9,by push_cast;rfl,a5.set ag,aw.far (p:=Ad g (i*6+5)) (by show w.1.size≠g;omega) _,ax.far (p:=Ad g (i*6+5)) (by show w.1.size+1≠g;omega) _,ak⟩,by simp[intOf];omega⟩
  ·obtain rfl:i=n:=by omega
   obtain⟨Z,k1,-⟩:=r.g2;obtain⟨r0,r1,-⟩:=j.g2;have kf:=j.free;have ks:=j.size;go_wp2_with fail;have y4:Holds ((wr.setCell (Ad (w.1.size+1) 0) (Vs g 0 i d)).setCell (Ad (w.1.size+1) 1) (Vi p.2)) (w.1.size+1) 25 #[Vs g 0 i d,Vi p.2]:=(j.set 0 (Vs g 0 i d)).set 1 (Vi p.2);refine bodyPost_ret (zU rfl _ _ (w.1.size+1) 25 #[Vs g 0 i d,Vi p.2] _ rfl y4 underlying25 rfl (by kernel_rfl)) rfl ?_;have aa:=((k.far (i:=0) (v:=Vs g 0 i d) (b:=w.1.size+1) (by omega)).far (i:=1) (v:=Vi p.2) (b:=w.1.size+1) (by omega));exact⟨_,rfl,⟨_,rfl,aa.stepsT (qg.refl (fun _=>False) _) (fun h=>h) X I.out (by omega) V⟩,fun D W hk hD=>⟨_,rfl,aa.stepsT hk (fun h=>by have:=hD g h;omega) X I.out (by omega) V⟩,(K.setCell (p:=Ad (w.1.size+1) 0) (Nat.le_succ _) _).setCell (p:=Ad (w.1.size+1) 1) (Nat.le_succ _) _⟩
end
end Go.Proofs.YtnmpcdnbklmhkaaGreatDoor
