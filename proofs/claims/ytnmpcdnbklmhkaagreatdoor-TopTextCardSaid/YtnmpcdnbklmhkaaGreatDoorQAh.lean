import Derived.Test.YtnmpcdnbklmhkaaGreatDoorQAg
import Derived.Test.YtnmpcdnbklmhkaaGreatDoorQAe
import Derived.Test.YtnmpcdnbklmhkaaGreatDoorQAd
import Derived.Test.YtnmpcdnbklmhkaaGreatDoorQAb
import Derived.Maps.AppendAt
namespace Go.Proofs.YtnmpcdnbklmhkaaGreatDoor
open Go.Proofs.Tryz Go.RowKit
set_option maxRecDepth 100000
set_option maxHeartbeats 8000000
section
variable {P : Program} {ops : Array Oper} {md : Region.Mode} {Q : Exit -> Act -> World -> Prop} {S : World -> Prop} {last : Nat}
def vX (c:Region.Mode) (a:Array Oper):List Nat->Array Bool->Bool
 |[],_=>true
 |k::ks,listed=>(Region.ready c a listed).contains k&&Region.free c a listed k&&decide (k<a.size)&&vX c a ks (listed.setIfInBounds k true)
def kj (a:List Nat) (c:Array Bool):Array Bool:=a.foldl (fun l k=>l.setIfInBounds k true) c
theorem Dc {f:Nat} (t:Region.noSelect ops=true) (s:∀c a d v w,Q (.panic c) (Act.put a d v) w->Q (.panic c) a w):
  ∀(n:List Nat) (r:Array Bool) (a:Act) (w:World),(n.all fun k=>decide (k≠last)&&j6 md ops last k)=true->S w->vX md ops n r=true->
  heads P ops S (fun q=>vM P md ops Q S last f (kj n r) q w) (qI ops.toList n) a->vM P md ops Q S last (n.length+f) r a w
 |[],r,a,w,_,_,_,h=>by
   rw[show ([]:List Nat).length+f=f by simp];exact h
 |k::n,r,a,w,hw,hS,hB,h=>by
   simp only[vX,jJ,decide_eq_true_eq]at hB;obtain⟨⟨⟨y,u⟩,o⟩,g⟩:=hB;simp only[List.all_cons,jJ,decide_eq_true_eq]at hw;obtain⟨⟨j,e⟩,b⟩:=hw;have l:ops[k]?=some ops[k]:=jw o;have i:ops.toList[k]?=some ops[k]:=by simp
   have x:qI ops.toList (k::n)=ops[k]::qI ops.toList n:=by rw[qI,i]
   rw[x]at h;obtain⟨v,m,p⟩:=h;rw[show (k::n).length+f=(n.length+f)+1 by simp;omega];exact IL l (Region.noSelect_spec t) (fun c a w=>s c a _ _ w) (xw e) j _ r a w (Region.free_spec l u) (by simpa using y) m hS
    (Dc t s n _ _ w (by rw[List.all_eq_true]at b⊢;exact b) hS g p)
def QN (a:Array Oper) (c:List Nat) (d f:Nat):Bool:=
 Region.noSelect a&&decide (c.length+f=a.size)&&(c.all fun k=>decide (k≠d)&&j6 .any a d k)&&vX .any a c (Array.replicate a.size false)
theorem BG {id:Nat} {a:Act} {w:World} {k:List Oper} (l:List Nat) (j f:Nat) (p:P.follows .mixedOrders=true) (m:QN k.toArray l j f=true)
  (S:World->Prop) (o:S w.drew) (n:∀c a d v w,Q (.panic c) (Act.put a d v) w->Q (.panic c) a w)
  (h:heads P k.toArray S (fun i=>vM P .any k.toArray Q S j f (kj l (Array.replicate k.toArray.size false)) i w.drew) (qI k l) a):(Code.region id k.toArray true).wp P Q a w:=by
 simp only[QN,jJ,decide_eq_true_eq]at m;obtain⟨⟨⟨e,q⟩,b⟩,g⟩:=m;refine wp_region_any p (IK (S:=S) (last:=j) _ _ _ _ ?_);have:=Dc (md:= .any) (Q:=Q) (S:=S) (last:=j) e n l _ a w.drew b o g h;rw[q]at this;exact this
theorem yz {f:Nat} {d:Array Bool} {a:Act} {w:World} (e:List Nat) (g:Region.ready md ops d=e) (k:e≠[])
  (h:∀i∈e,wpOp P ops Q i (fun b w'=>if i=last then wpAny P md ops Q f (d.setIfInBounds i true) b w' else S w'∧vM P md ops Q S last f (d.setIfInBounds i true) b w') a w):vM P md ops Q S last (f+1) d a w:=
 ⟨fun c=>absurd (g.symm.trans c) k,fun i j=>h i (by rw[<-g];exact j)⟩
theorem qq {i:Nat} {o:Oper} {K:Act->World->Prop} {a:Act} {w:World} (d:ops[i]?=some o) (c:o.guard=none) (h:o.wp P a w K Q):wpOp P ops Q i K a w:=by
 unfold wpOp;simp only[d];rw[if_pos (by simp[Region.wanted,c])];exact .inl h
end
section
variable {P : Program} {ops : Array Oper} {md : Region.Mode} {Q : Exit -> Act -> World -> Prop} {S : World -> Prop} {last : Nat} {L : Act -> World -> Prop}
theorem M7 {o:Oper} {a:Act} {w:World} {K:Act->World->Prop} (h:o.wp P a w K Q):o.wpIn Fence.wide 0 P a w K Q:=by
 unfold Oper.wp at h;unfold Oper.wpIn;refine⟨fun _ _=>trivial,?_⟩;rw[show Fence.wide.round=none from rfl,Oper.semAt_none];generalize (execOp a.eval o).run P w=r at*;cases r with
 |ok x w'=>
   cases x with
   |value v=>exact h
   |skip=>exact h
   |defer d=>exact h
   |enter f args=>exact⟨fun e=>by simp[Fence.wide]at e,callsIn_wide.2 h⟩
   |row row args=>
     refine⟨fun e=>by simp[Fence.wide]at e,?_⟩;intro c g _;obtain⟨v,b,r,s⟩:=h c g;exact⟨v,b,r,stepsIn_wide.2 s⟩
   |_=>exact h.elim
 |halt x w'=>cases x<;>first|exact h|exact h.elim
theorem Fj {i:Nat} {a:Act} {w:World} {K:Act->World->Prop} (d:¬LetsOut Q) (h:wpOp P ops Q i K a w):wpOpIn Fence.wide 0 P ops Q i K a w:=by
 unfold wpOp at h;unfold wpOpIn;cases c:ops[i]? with
 |none=>simpa[c]using h
 |some o=>
   simp only[c]at h⊢;split at h
   ·rename_i b;rw[if_pos b];rcases h with h|h
    ·exact M7 h
    ·exact absurd h.2 d
   ·rename_i b;rw[if_neg b];exact⟨fun _ _=>trivial,h⟩
def kp (d:Region.Mode) (f:Array Oper) (a:Array Bool):Prop:=∀(k:Nat) (c:Oper),f[k]?=some c->a.getD k false=true->∀e∈c.after,Region.binds d e=true->a.getD e.on false=true
theorem DA {c:Array Bool} {j x:Nat} (h:c.getD x false=true):(c.setIfInBounds j true).getD x false=true:=by
 by_cases b:x<c.size
 ·by_cases a:j=x
  ·subst a;simp[b]
  ·simp[b,a]at h⊢;exact h
 ·simp[Array.getElem?_eq_none (Nat.le_of_not_lt b)]at h
theorem BA {m:Array Bool} {j:Nat} (h:kp md ops m) (o:j∈Region.ready md ops m):kp md ops (m.setIfInBounds j true):=by
 intro k p d l e n f;obtain⟨_,i,c,a⟩:=mem_ready.1 o;by_cases b:j=k
 ·subst b;rw[c]at d;cases d;exact DA (a e n f)
 ·refine DA (h k p d ?_ e n f);by_cases g:k<m.size
  ·simp[g,b]at l⊢;exact l
  ·simp[Array.getD]at l;exact absurd l.1 g
theorem Ay (n:Nat):kp md ops (Array.replicate n false):=by
 intro k d a c;rw[getD_replicate_false]at c;cases c
theorem M8 {c:Array Bool} {i:Nat} (d:i∈Region.ready md ops c) (h:c.getD i false=true):False:=by
 have b:=(mem_ready.1 d).1;rcases Nat.lt_or_ge i c.size with a|a
 ·simp[a]at b h;rw[b]at h;cases h
 ·simp[Array.getElem?_eq_none a]at h
def AK (c:Region.Mode) (a:Array Oper):Nat->Nat->Nat->Bool
 |0,last,i=>j6 c a last i
 |n+1,last,i=>j6 c a last i||(List.range a.size).any fun k=>j6 c a last k&&AK c a n k i
theorem Ez {i:Nat} {f:Array Bool} (d:kp md ops f):∀(n k:Nat),k<ops.size->f.getD k false=true->AK md ops n k i=true->f.getD i false=true
 |0,k,hk,hl,h=>by
   obtain⟨e,c,b,a⟩:=xw h ops[k] (jw hk);exact a▸d k _ (jw hk) hl e c b
 |n+1,k,hk,hl,h=>by
   rw[AK,Bool.or_eq_true]at h;rcases h with h|h
   ·obtain⟨e,c,b,a⟩:=xw h ops[k] (jw hk);exact a▸d k _ (jw hk) hl e c b
   ·obtain⟨j,g,h⟩:=List.any_eq_true.1 h;rw[jJ]at h;obtain⟨e,c,b,a⟩:=xw h.1 ops[k] (jw hk);exact Ez d n j (List.mem_range.1 g) (a▸d k _ (jw hk) hl e c b) h.2
theorem BI {i n:Nat} (h:AK md ops n last i=true):∀a,kp md ops a->i∈Region.ready md ops a->last∉Region.ready md ops a:=fun a j q l=>by
 obtain⟨_,m,f,c⟩:=mem_ready.1 l;have b:j6 md ops last i=true->False:=fun h=>by
  obtain⟨e,p,g,d⟩:=xw h m f;exact M8 q (d▸c e p g)
 cases n with
 |zero=>exact b h
 |succ n=>
   rw[AK,Bool.or_eq_true]at h;rcases h with h|h
   ·exact b h
   ·obtain⟨k,o,h⟩:=List.any_eq_true.1 h;rw[jJ]at h;obtain⟨e,p,g,d⟩:=xw h.1 m f;exact M8 q (Ez j n k (List.mem_range.1 o) (d▸c e p g) h.2)
theorem Ar {i:Nat} {o:Oper} {K:Act->World->Prop} {a:Act} {w:World} (d:ops[i]?=some o) (c:o.guard=none) (h:o.wpIn Fence.wide 0 P a w K Q):wpOpIn Fence.wide 0 P ops Q i K a w:=by
 unfold wpOpIn;simp only[d];rw[if_pos (by simp[Region.wanted,c])];exact h
end
section
variable {P : Program} {ops : Array Oper} {md : Region.Mode} {Q : Exit -> Act -> World -> Prop} {S : World -> Prop} {last : Nat} {L : Act -> World -> Prop} {tl : List Nat}
def GX (a:Region.Mode) (c:Array Oper):List Nat->Array Bool->Prop
 |[],l=>Region.ready a c l=[]
 |i::is,l=>Region.ready a c l=[i]∧GX a c is (l.setIfInBounds i true)
def kN (P:Program) (c:Array Oper) (Q:Exit->Act->World->Prop):List Nat->Act->World->Prop
 |[],a,w=>Q .normal a w
 |i::is,a,w=>wpOpIn Fence.wide 0 P c Q i (kN P c Q is) a w
def jP (P:Program) (c:Array Oper) (Q:Exit->Act->World->Prop):List Nat->Act->World->Prop
 |[],a,w=>Q .normal a w
 |i::is,a,w=>wpOp P c Q i (jP P c Q is) a w
theorem Co:∀(e:List Nat) (d:Array Bool) (a:Act) (w:World),GX md ops e d->kN P ops Q e a w->wpAnyIn Fence.wide 0 P md ops Q e.length d a w
 |[],d,a,w,h,b=>⟨h,b⟩
 |i::is,d,a,w,h,b=>by
   refine⟨fun c=>(by rw[h.1]at c;cases c),fun j f=>?_⟩;rw[h.1]at f;have:j=i:=by simpa using f
   subst this;exact wpOpIn_mono (fun a w b=>Co is _ a w h.2 b) b
theorem EY:∀(e:List Nat) (d:Array Bool) (a:Act) (w:World),GX md ops e d->jP P ops Q e a w->wpAny P md ops Q e.length d a w
 |[],d,a,w,h,b=>⟨h,b⟩
 |i::is,d,a,w,h,b=>by
   refine⟨fun c=>(by rw[h.1]at c;cases c),fun j f=>?_⟩;rw[h.1]at f;have:j=i:=by simpa using f
   subst this;exact wpOp_mono (fun a w b=>EY is _ a w h.2 b) b
def zL (P:Program) (d:Region.Mode) (c:Array Oper) (Q:Exit->Act->World->Prop) (S:World->Prop) (e:Nat) (g:List Nat) (L:Act->World->Prop):Nat->Array Bool->Act->World->Prop
 |0,listed,a,w=>Region.ready d c listed=[e]∧GX d c g (listed.setIfInBounds e true)∧L a w
 |f+1,listed,a,w=>Region.ready d c listed≠[]∧∀i∈Region.ready d c listed,i≠e∧wpOp P c Q i (fun j w'=>S w'∧zL P d c Q S e g L f (listed.setIfInBounds i true) j w') a w
theorem IP (o:¬LetsOut Q) (n:∀a w,L a w->wpOpIn Fence.wide 0 P ops Q last (kN P ops Q tl) a w):∀(f:Nat) (m:Array Bool) (a:Act) (w:World),zL P md ops Q S last tl L f m a w->wpAnyIn Fence.wide 0 P md ops Q (f+(tl.length+1)) m a w
 |0,m,a,w,h=>by
   obtain⟨c,d,e⟩:=h;rw[dG];refine⟨fun b=>(by rw[c]at b;cases b),fun i l=>?_⟩;rw[c]at l;have:i=last:=by simpa using l
   subst this;exact wpOpIn_mono (fun a w g=>Co _ _ a w d g) (n a w e)
 |f+1,m,a,w,h=>by
   rw[show f+1+(tl.length+1)=f+(tl.length+1)+1 by omega];exact⟨fun b=>absurd b h.1,fun i l=>Fj o (wpOp_mono (fun j w' k=>IP o n f _ j w' k.2) (h.2 i l).2)⟩
theorem Ob (n:∀a w,L a w->wpOp P ops Q last (jP P ops Q tl) a w):∀(f:Nat) (m:Array Bool) (a:Act) (w:World),zL P md ops Q S last tl L f m a w->wpAny P md ops Q (f+(tl.length+1)) m a w
 |0,m,a,w,h=>by
   obtain⟨c,d,e⟩:=h;rw[dG];refine⟨fun b=>(by rw[c]at b;cases b),fun i l=>?_⟩;rw[c]at l;have:i=last:=by simpa using l
   subst this;exact wpOp_mono (fun a w g=>EY _ _ a w d g) (n a w e)
 |f+1,m,a,w,h=>by
   rw[show f+1+(tl.length+1)=f+(tl.length+1)+1 by omega];exact⟨fun b=>absurd b h.1,fun i l=>wpOp_mono (fun j w' k=>Ob n f _ j w' k.2) (h.2 i l).2⟩
theorem Qk {i:Nat} {p:Oper} {v:Value} (V:ops[i]?=some p) (Z:∀(j:Nat) (o:Oper) z b,ops[j]?=some o->o.op≠.select z b)
  (hQ:∀c a w,Q (.panic c) (a.put p.dst v) w->Q (.panic c) a w) (X:i≠last):
  ∀(f:Nat) (d:Array Bool) (a:Act) (w:World),
   (∀j r,ops[j]?=some r->j≠i->d.getD j true=false->(∀e∈r.after,Region.binds md e=true->e.on≠i)->p.apart ops r=true)->
   kp md ops d->(∀W,kp md ops W->i∈Region.ready md ops W->last∉Region.ready md ops W)->
   i∈Region.ready md ops d->YieldsIf P ops S p v a->S w->
   zL P md ops Q S last tl L f (d.setIfInBounds i true) (a.put p.dst v) w->zL P md ops Q S last tl L (f+1) d a w:=by
 intro f
 induction f with
 |zero=>
   intro d a w _ u m n C T H;refine⟨fun h=>(by rw[h]at n;cases n),fun j x=>?_⟩;by_cases g:j=i
   ·subst g;exact⟨X,C.wpOp V T ⟨T,H⟩⟩
   ·have:=ready_mono x g;rw[H.1]at this;have:j=last:=by simpa using this
    subst this;exact absurd x (m _ u n)
 |succ f ih=>
   intro d a w l u m n C T H;refine⟨fun h=>(by rw[h]at n;cases n),fun j x=>?_⟩;by_cases g:j=i
   ·subst g;exact⟨X,C.wpOp V T ⟨T,H⟩⟩
   ·obtain⟨K,t⟩:=H.2 j (ready_mono x g);refine⟨K,?_⟩;obtain⟨q,r,s,a6⟩:=mem_ready.1 x;have a5:∀e∈r.after,Region.binds md e=true->e.on≠i:=fun e he a0 I=>by
     have t:=a6 e he a0;have N:=(mem_ready.1 n).1;rw[I]at t;rcases Nat.lt_or_ge i d.size with J|J
     ·simp[J]at N t;rw[N]at t;cases t
     ·simp[Array.getElem?_eq_none J]at t
    have a2:=wpOp_putIf s (l j r s g q a5) (fun z b=>Z i p z b V) (fun z b=>Z j r z b s) hQ C t;have a4:∀k U,ops[k]?=some U->k≠i->(d.setIfInBounds j true).getD k true=false->
      (∀e∈U.after,Region.binds md e=true->e.on≠i)->p.apart ops U=true:=fun k U R E y F=>by
     refine l k U R E ?_ F;by_cases A:j=k
     ·subst A;exact q
     ·rw[getD_set_ne true A]at y;exact y
    refine wpOp_mono (fun O w' a1=>?_) a2;obtain⟨M,B,a3⟩:=a1;have D:=ready_mono n (Ne.symm g);refine⟨B,ih (d.setIfInBounds j true) O w' a4 (BA u x) m D M B ?_⟩;rw[Array.setIfInBounds_comm _ _ g];exact a3
theorem BD {f:Nat} (u:Region.noSelect ops=true) (t:∀c a d v w,Q (.panic c) (Act.put a d v) w->Q (.panic c) a w):
  ∀(n:List Nat) (s:Array Bool) (a:Act) (w:World),kp md ops s->(n.all fun k=>decide (k≠last)&&AK md ops 4 last k)=true->S w->vX md ops n s=true->
  heads P ops S (fun p=>zL P md ops Q S last tl L f (kj n s) p w) (qI ops.toList n) a->zL P md ops Q S last tl L (n.length+f) s a w
 |[],s,a,w,_,_,_,_,h=>by
   rw[show ([]:List Nat).length+f=f by simp];exact h
 |k::n,s,a,w,hcl,hw,hS,hB,h=>by
   simp only[vX,jJ,decide_eq_true_eq]at hB;obtain⟨⟨⟨z,x⟩,r⟩,i⟩:=hB;simp only[List.all_cons,jJ,decide_eq_true_eq]at hw;obtain⟨⟨l,g⟩,e⟩:=hw;have m:ops[k]?=some ops[k]:=jw r;have j:ops.toList[k]?=some ops[k]:=by simp
   have y:qI ops.toList (k::n)=ops[k]::qI ops.toList n:=by rw[qI,j]
   rw[y]at h;obtain⟨v,q,o⟩:=h;rw[show (k::n).length+f=(n.length+f)+1 by simp;omega];have b:k∈Region.ready md ops s:=by simpa using z
   exact Qk m (Region.noSelect_spec u) (fun c a w=>t c a _ _ w) l _ s a w (Region.free_spec m x) hcl (BI g) b q hS
    (BD u t n _ _ w (BA hcl b) (by rw[List.all_eq_true]at e⊢;exact e) hS i o)
def GF (a:Array Oper) (c:List Nat) (d f:Nat) (e:List Nat):Bool:=
 Region.noSelect a&&decide (c.length+f+(e.length+1)=a.size)&&(c.all fun k=>decide (k≠d)&&AK .any a 4 d k)&&vX .any a c (Array.replicate a.size false)
theorem Vr {id:Nat} {a:Act} {w:World} {j:List Oper} {L:Act->World->Prop} {l:List Nat} {k f:Nat} {m:List Nat} (r:P.follows .mixedOrders=true) (n:GF j.toArray l k f m=true) (t:¬LetsOut Q)
  (S:World->Prop) (q:S w.drew) (p:∀c a d v w,Q (.panic c) (Act.put a d v) w->Q (.panic c) a w) (o:∀a w,L a w->wpOpIn Fence.wide 0 P j.toArray Q k (kN P j.toArray Q m) a w)
  (h:heads P j.toArray S (fun i=>zL P .any j.toArray Q S k m L f (kj l (Array.replicate j.toArray.size false)) i w.drew) (qI j l) a):(Code.region id j.toArray true).wpIn Fence.wide 0 P Q a w:=by
 simp only[GF,jJ,decide_eq_true_eq]at n;obtain⟨⟨⟨e,s⟩,b⟩,g⟩:=n;refine wpIn_region_any r ?_;have:=IP (md:= .any) t o _ _ _ _ (BD (md:= .any) (Q:=Q) (S:=S) (last:=k) (f:=f) e p l _ a w.drew (Ay _) b q g h);rw[s]at this;exact this
theorem kU {id:Nat} {a:Act} {w:World} {e:List Oper} (g:List Nat) (i f:Nat) (j:List Nat) (n:P.follows .mixedOrders=true) (k:GF e.toArray g i f j=true) (o:¬LetsOut Q)
  (S:World->Prop) (m:S w.drew) (l:∀c a d v w,Q (.panic c) (Act.put a d v) w->Q (.panic c) a w)
  (h:heads P e.toArray S (fun b=>zL P .any e.toArray Q S i j (wpOpIn Fence.wide 0 P e.toArray Q i (kN P e.toArray Q j)) f (kj g (Array.replicate e.toArray.size false)) b w.drew) (qI e g) a):(Code.region id e.toArray true).wpIn Fence.wide 0 P Q a w:=
 Vr n k o S m l (fun _ _ h=>h) h
theorem Al {id:Nat} {a:Act} {w:World} {e:List Oper} (g:List Nat) (i f:Nat) (m:P.follows .mixedOrders=true) (j:GF e.toArray g i f []=true) (n:¬LetsOut Q)
  (S:World->Prop) (l:S w.drew) (k:∀c a d v w,Q (.panic c) (Act.put a d v) w->Q (.panic c) a w)
  (h:heads P e.toArray S (fun b=>zL P .any e.toArray Q S i [] (wpOpIn Fence.wide 0 P e.toArray Q i (Q .normal)) f (kj g (Array.replicate e.toArray.size false)) b w.drew) (qI e g) a):(Code.region id e.toArray true).wpIn Fence.wide 0 P Q a w:=
 Vr m j n S l k (fun _ _ h=>h) h
theorem Vt {id:Nat} {a:Act} {w:World} {j:List Oper} {L:Act->World->Prop} {l:List Nat} {k f:Nat} {m:List Nat} (r:P.follows .mixedOrders=true) (n:GF j.toArray l k f m=true)
  (S:World->Prop) (q:S w.drew) (p:∀c a d v w,Q (.panic c) (Act.put a d v) w->Q (.panic c) a w) (o:∀a w,L a w->wpOp P j.toArray Q k (jP P j.toArray Q m) a w)
  (h:heads P j.toArray S (fun i=>zL P .any j.toArray Q S k m L f (kj l (Array.replicate j.toArray.size false)) i w.drew) (qI j l) a):(Code.region id j.toArray true).wp P Q a w:=by
 simp only[GF,jJ,decide_eq_true_eq]at n;obtain⟨⟨⟨e,s⟩,b⟩,g⟩:=n;refine wp_region_any r ?_;have:=Ob (md:= .any) o _ _ _ _ (BD (md:= .any) (Q:=Q) (S:=S) (last:=k) (f:=f) e p l _ a w.drew (Ay _) b q g h);rw[s]at this;exact this
theorem yA {id:Nat} {a:Act} {w:World} {e:List Oper} (g:List Nat) (i f:Nat) (j:List Nat) (n:P.follows .mixedOrders=true) (k:GF e.toArray g i f j=true)
  (S:World->Prop) (m:S w.drew) (l:∀c a d v w,Q (.panic c) (Act.put a d v) w->Q (.panic c) a w)
  (h:heads P e.toArray S (fun b=>zL P .any e.toArray Q S i j (wpOp P e.toArray Q i (jP P e.toArray Q j)) f (kj g (Array.replicate e.toArray.size false)) b w.drew) (qI e g) a):(Code.region id e.toArray true).wp P Q a w:=
 Vt n k S m l (fun _ _ h=>h) h
theorem xN {id:Nat} {a:Act} {w:World} {e:List Oper} (g:List Nat) (i f:Nat) (m:P.follows .mixedOrders=true) (j:GF e.toArray g i f []=true)
  (S:World->Prop) (l:S w.drew) (k:∀c a d v w,Q (.panic c) (Act.put a d v) w->Q (.panic c) a w)
  (h:heads P e.toArray S (fun b=>zL P .any e.toArray Q S i [] (wpOp P e.toArray Q i (Q .normal)) f (kj g (Array.replicate e.toArray.size false)) b w.drew) (qI e g) a):(Code.region id e.toArray true).wp P Q a w:=
 Vt m j S l k (fun _ _ h=>h) h
theorem qC {f:Nat} {j:Array Bool} {a:Act} {w:World} (d:List Nat) (k:Region.ready md ops j=d) (m:d≠[]) (l:last∉d)
  (h:∀i∈d,wpOp P ops Q i (fun c w'=>S w'∧zL P md ops Q S last tl L f (j.setIfInBounds i true) c w') a w):zL P md ops Q S last tl L (f+1) j a w:=
 ⟨fun b=>absurd (k.symm.trans b) m,fun i g=>by rw[k]at g;exact⟨fun e=>l (e▸g),h i g⟩⟩
theorem vj {c:Array Bool} {a:Act} {w:World} (d:Region.ready md ops c=[last]) (e:Region.ready md ops (c.setIfInBounds last true)=[]) (h:L a w):zL P md ops Q S last [] L 0 c a w:=⟨d,e,h⟩
theorem kR {c:Array Bool} {a:Act} {w:World} (d:Region.ready md ops c=[last]) (e:GX md ops tl (c.setIfInBounds last true)) (h:L a w):zL P md ops Q S last tl L 0 c a w:=⟨d,e,h⟩
end
structure qg (D:Nat->Prop) (W W':World):Prop where
 size:W.1.size<=W'.1.size
 same:∀(k:Nat) (cs:Array Value) (t:TypeId) (q:Nat×Nat),W.1[k]?=some (.cells cs t q)->¬D k->W'.1[k]?=some (.cells cs t q)
section
variable {D D' D0 : Nat -> Prop} {A B C W W' : World}
theorem qg.refl (D:Nat->Prop) (W:World):qg D W W:=⟨Nat.le_refl _,fun _ _ _ _ h _=>h⟩
theorem qg.step (h:qg D0 A B) (k:qg D B C) (f:∀b,D b->D0 b∨A.1.size<=b):qg D0 A C:=
 ⟨jS h.size k.size,fun i c t q e d=>k.same i c t q (h.same i c t q e d) fun a=>(f i a).elim d fun g=>by
  have:=(jA.1 e).1;omega⟩
theorem qg.trans (h:qg D A B) (k:qg D B C):qg D A C:=h.step k fun _ a=>.inl a
theorem qg.mono (h:qg D W W') (e:∀b,D b->D' b):qg D' W W':=⟨h.size,fun k d t q c f=>h.same k d t q c fun a=>f (e k a)⟩
theorem qg.grown {d:Option Nat} (c:W.grownBy W' d) (g:∀r,d=some r->D r∨∃o:Obj,W.1[r]?=some o∧o.isCells=false):qg D W W':=
 ⟨c.size,fun k i t q a f=>(c.block k (jA.1 a).1 (fun e=>by
  rcases g k e.symm with h|⟨o,b,h⟩
  ·exact f h
  ·rw[a]at b;cases b;cases h)).trans a⟩
theorem qg.below' (a:Bz W W'):qg D W W':=qg.grown (Aw a) (fun _ e=>nomatch e)
theorem qg.putObj {r:Nat} {o a:Obj} (c:W.1[r]?=some o) (d:o.isCells=false):qg D W (W.putObj r a):=
 qg.grown (grownBy_putObj' W r a) (fun _ e=>by cases e;exact .inr ⟨_,c,d⟩)
theorem qg.alloc (D:Nat->Prop) (W:World) (o:Obj):qg D W (W.alloc o):=qg.below' (bRf.alloc nLe o)
theorem qg.drew (D:Nat->Prop) (W:World):qg D W W.drew:=⟨Nat.le_refl _,fun _ _ _ _ h _=>h⟩
theorem qg.set {b:Nat} (c:D b) (i:Nat) (v:Value):qg D W (W.setCell ⟨b,i,none⟩ v):=
 ⟨by simp[World.setCell],fun k e t q a d=>(Below.heap_setCell W (Ad b i) v k (by rintro rfl;exact d c)).trans a⟩
theorem qg.row {v:Value} (c:W.grownBy W' v.ownBlock) (a:∀b,v.ownBlock=some b->D b):qg D W W':=
 qg.grown c fun r e=>.inl (a r e)
end
theorem Holds.keepsN {D:Nat->Prop} {W c:World} {b t:Nat} {a:Array Value} (h:Holds W b t a) (k:qg D W c) (d:¬D b):Holds c b t a:=k.same b a t (0,0) h d
def Kept (I:World->Prop):Prop:=∀W a,I W->qg (fun _=>False) W a->I a
section
variable {I J : World -> Prop} {W W' W0 : World} {D : Nat -> Prop}
theorem Kept.and (h:Kept I) (k:Kept J):Kept (fun W=>I W∧J W):=fun W a c b=>⟨h W a c.1 b,k W a c.2 b⟩
theorem Kept.ex {β:Type} {I:β->World->Prop} (h:∀x,Kept (I x)):Kept (fun W=>∃x,I x W):=fun W a d b=>d.elim fun x c=>⟨x,h x W a c b⟩
theorem Kept.pure (p:Prop):Kept (fun _=>p):=fun _ _ a _=>a
theorem Kept.later (h:Kept I) (c:I W) (a:Bz W W'):I W':=h W W' c (qg.below' a)
theorem Kept.on (h:Kept I) (d:I W0) (a:Bz W0 W) (e:qg D W W') (c:∀b,D b->W0.1.size<=b):I W':=
 h W0 W' d ((qg.below' a).step e fun b a=>.inr (c b a))
theorem Kept.stable (h:Kept I) (B:Nat):qe B I:=fun W a _ d b c=>h W a d (qg.grown b fun r e=>.inr (c r e).2)
theorem km {a:Addr} {u:Value} (h:W.cell? a=some u) (e:qg D W W') (d:¬D a.block):W'.cell? a=some u:=by
 cases c:W.1[a.block]? with
 |none=>simp[World.cell?,c]at h
 |some o=>
   cases o with
   |cells cs t q=>
     have:=e.same a.block cs t q c d;rw[World.cell?_of_block (w:=W) (this.trans c.symm)];exact h
   |_=>simp[World.cell?,c]at h
variable {α : Type} {k E : Nat} {enc : α -> List Value}
theorem RowV.keptD {v:Value} {l:List α} (h:RowV k enc W v l) (q:qg D W W') (n:∀b,v.ownBlock=some b->¬D b):RowV k enc W' v l:=by
 obtain⟨a,c,rfl,o,e,p,d⟩:=h;refine⟨a,c,rfl,o,e,p,?_⟩;rcases d with d|⟨b,r,g,d⟩
 ·exact .inl d
 ·subst g;exact .inr ⟨b,r,rfl,fun i x m j u f=>km (d i x m j u f) q (n b rfl)⟩
theorem RowT.keptD {v:Value} {l:List α} (h:RowT k E enc W v l) (f:qg D W W') (e:∀b,v.ownBlock=some b->¬D b):RowT k E enc W' v l:=
 ⟨h.1.keptD f e,fun b a=>by
  obtain⟨d,q,c⟩:=h.2 b a;exact⟨d,q,f.same b d E q c (e b a)⟩⟩
theorem RowT.kept (v:Value) (l:List α):Kept (fun W=>RowT k E enc W v l):=fun _ _ h a=>h.keptD a (fun _ _ h=>h)
theorem qv.kept {R:α->List Value->World->Prop} (m:∀x g,Kept (R x g)) (v:Value) (l:List α):Kept (fun W=>qv k E R W v l):=
 fun W c ⟨f,e,i,j⟩ d=>⟨f,e,RowT.kept v f W c i d,fun y a=>m _ _ W c (j y a) d⟩
theorem yx {i n:Nat} {v:Value} {j:List Value} (h:W.ownsRow i E k v n j) (o:qg D W W') (m:∀b,v.ownBlock=some b->¬D b):W'.ownsRow i E k v n j:=by
 refine⟨h.1,?_⟩;rcases h.2 with d|⟨g,l,a,rfl,c,f,e⟩
 ·exact .inl d
 ·exact .inr ⟨g,l,a,rfl,c,o.same _ _ _ _ f (m g rfl),e⟩
theorem qj.keptD {f:Nat} {R:α->List Value->World->Prop} (i:∀x g,Kept (R x g)) {v:Value} {l:List α} (h:qj k f E R W v l) (d:qg (fun _=>False) W W'):qj k f E R W' v l:=by
 obtain⟨j,e,c,a⟩:=h;exact⟨j,e,yx c d (fun _ _ h=>h),fun y b=>i _ _ W W' (a y b) d⟩
end
def vL (P:Program) (g:Nat) (n:Array Value) (R:Nat->Array Value->World->Prop) (N:Nat) (m:World->Prop):Prop:=
 ∀(l:Nat) (J:Nat->(Nat->Prop)->World->Prop) (j:Nat->World->Prop) (W:World) (d:Nat->Prop),(∀i D,qe W.1.size (J i D))->(∀i,qe W.1.size (j i))->(∀a,qg d W a->m a)->(∀b,d b->b<W.1.size)->
  (∀i k c D,i<N->qg d W c->(∀b,D b->d b∨W.1.size<=b)->(∀b,D b->b<c.1.size)->J i D c->R i k c->
   YieldAt Fence.wide 0 P l k c fun e a=>KeepsFrom W.1.size c a∧qg D c a∧((e=Rt (Vb true)∧∃f,(∀b,f b->D b∨c.1.size<=b)∧(∀b,f b->b<a.1.size)∧J (i+1) f a)∨(e=Rt (Vb false)∧j i a)))->
  J 0 d W->CallsIn Fence.wide 0 P g (#[.func (.yield l) #[] #[]]++n) W fun e a=>(∃v,e=Rt v)∧qg d W a∧((∃D,(∀b,D b->d b∨W.1.size<=b)∧(∀b,D b->b<a.1.size)∧J N D a)∨∃i,i<N∧j i a)
def rpostD (B:Nat) (I:Nat->(Nat->Prop)->World->Prop) (c:Code->Nat->World->Prop) (i:Nat) (D:Nat->Prop) (W:World):Exit->Act->World->Prop
 |.normal,_,W'=>KeepsFrom B W W'∧qg D W W'∧∃a,(∀b,a b->D b∨W.1.size<=b)∧(∀b,a b->b<W'.1.size)∧I (i+1) a W'
 |.ret,_,W'=>KeepsFrom B W W'∧qg D W W'∧c .ret i W'
 |.exit id,_,W'=>KeepsFrom B W W'∧qg D W W'∧c (.exit id) i W'
 |.goto t,_,W'=>KeepsFrom B W W'∧qg D W W'∧c (.goto t) i W'
 |.panic _,_,_=>False
 |.outgrown,_,_=>False
theorem _root_.Go.KeepsFrom.mono' {B c:Nat} {W d:World} (h:KeepsFrom B W d) (e:B<=c):KeepsFrom c W d:=⟨h.size,fun k o a=>h.same k o (jS e a)⟩
theorem _root_.Go.KeepsFrom.put {B r:Nat} {W:World} {o:Obj} (a:r<B):KeepsFrom B W (W.putObj r o):=KeepsFrom.of_grownBy (grownBy_putObj' W r o) (fun _ e=>by cases e;exact a)
theorem qg.put {D:Nat->Prop} {r:Nat} {W c:World} (p:Vq r W c):qg D W c:=by
 obtain⟨o,d,b,a,rfl⟩:=p;exact qg.putObj b a
theorem Vq.from {B r:Nat} {W c:World} (p:Vq r W c) (h:r<B):KeepsFrom B W c∧W.1.size<=c.1.size:=by
 obtain⟨o,d,b,a,rfl⟩:=p;exact⟨KeepsFrom.put h,by simp⟩
theorem yF {P:Program} {a5:Operand} {U:Array Tmp} {a1 a2:Code} {Q:Exit->Act->World->Prop} {a:Act} {w:World}
  {O:Nat} {lb:Array Value} (hg:a.eval a5= .func (.func O) #[] lb) (eg:∀X w,(callFunc O X).run P w= .ok (.enter O X) w)
  {R:Nat->Array Value->World->Prop} {N:Nat} {V:World->Prop} (ai:vL P O lb R N V) (aj:∀i s W,R i s W->s.size=U.size)
  (I:Nat->(Nat->Prop)->World->Prop) (x:Code->Nat->World->Prop) (g:Nat->Prop) (t:∀i D,qe w.1.size (I i D)) (T:∀c i,qe w.1.size (x c i)) (ae:∀W,qg g w W->V W) (ad:∀b,g b->b<w.1.size) (h0:I 0 g w)
  (S:Nat->Act->World->Prop) (ac:∀an m,qe w.1.size (S an m))
  (af:∀(l i:Nat) (s:Array Value) (W:World) (D:Nat->Prop) (K:Act->World->Prop),i<N->qg g w W->(∀b,D b->g b∨w.1.size<=b)->(∀b,D b->b<W.1.size)->I i D W->R i s W->(∀m A,KeepsFrom w.1.size W A->qg D W A->I i D A->S i m A->K m A)->
   a1.wpIn (Fence.wide.inRound l) 0 P (Exit.then K (fun _ _ _=>False)) {tmps:=(U.zip s).foldl (fun am (al,v)=>am.setIfInBounds al v) a.tmps,defers:=[]} W)
  (ag:∀(l i:Nat) (m:Act) (W:World) (D:Nat->Prop),w.1.size<=l->i<N->qg g w W->(∀b,D b->g b∨w.1.size<=b)->(∀b,D b->b<W.1.size)->I i D W->S i m W->a2.wpIn (Fence.wide.inRound l) 0 P (rpostD w.1.size I x i D W) m W)
  (ah:∀(K:Nat) (W:World) (D:Nat->Prop),w.1.size<=K->qg g w W->(∀b,D b->g b∨w.1.size<=b)->(∀b,D b->b<W.1.size)->I N D W->W.1[K]?=some (.deferred (some []))->Q .normal {a with defers:=mark K::a.defers} W)
  (ak:∀(K:Nat) (c:Code) (i:Nat) (W:World),w.1.size<=K->i<N->qg g w W->x c i W->W.1[K]?=some (.deferred (some []))->c.wp P Q {a with defers:=mark K::a.defers} W):
  (Code.rangeFunc a5 U a1 a2).wp P Q a w:=by
 refine Vo hg eg fun B F f hs n yl=>?_;have k:qg g w B:=qg.below' f;have d:∀{D:Nat->Prop},(∀b,D b->g b∨B.1.size<=b)->∀b,D b->g b∨w.1.size<=b:=fun h b f=>(h b f).imp id fun h'=>by omega
 refine(ai (w.1.size+1) (fun i D W=>I i D W∧LR w.1.size (F .ready none) W) (fun i W=>∃c,x c i W∧LR w.1.size (F .done (some c)) W) B g
  (fun i D=>((t i D).mono (by omega)).and (LR.stable _ _ (by omega))) (fun i=>qe.ex fun c=>((T c i).mono (by omega)).and (LR.stable _ _ (by omega)))
  (fun A L=>ae _ (k.trans L)) (fun b f=>jf (ad b f) k.size) ?_ ⟨(t 0 g).on h0 f,n⟩).mono ?_
 ·rintro i s W D p hT j q ⟨hj,hr⟩ hR;have H:=k.trans hT;refine yl W s _ hr (aj i s W hR) (af _ i s W D _ p H (d j) q hj hR fun m Wa L a9 a8 aa=>⟨L,fun M e=>?_⟩);have r:qg D W M:=a9.trans (qg.put e);have a0:KeepsFrom B.1.size W M:=(L.mono' (by omega)).trans (e.from (by omega)).1;refine wpIn_mono (ag _ i m _ D (by omega) p (H.step r (d j)) (d j) (fun b f=>jf (q b f) r.size) ((t i D).put a8 (by omega) e) ((ac i m).put aa (by omega) e)) ?_;rintro a4 a3 C y;have u:∀o,KeepsFrom w.1.size M C->qg D M C->Vq (w.1.size+1) C o->KeepsFrom B.1.size W o∧qg D W o:=fun o h1 h2 e=>
   ⟨(a0.trans (h1.mono' (by omega))).trans (e.from (by omega)).1,r.trans (h2.trans (qg.put e))⟩
  cases a4<;>first
   |exact y.elim
   |(obtain⟨z,E,D',a6,ab,a7⟩:=y;exact⟨z,fun o e n=>⟨(u o z E e).1,(u o z E e).2,.inl ⟨rfl,D',fun b f=>(a6 b f).imp id fun h=>jS r.size h,fun b f=>jf (ab b f) (e.from (Nat.lt_succ_self _)).2,(t _ _).put a7 (by omega) e,n⟩⟩⟩)
   |exact⟨y.1,fun o e n=>⟨(u o y.1 y.2.1 e).1,(u o y.1 y.2.1 e).2,.inr ⟨rfl,_,(T _ _).put y.2.2 (by omega) e,n⟩⟩⟩
 ·rintro a4 W2 ⟨hv,J,(⟨D,j,q,p,n⟩|⟨i,p,c,hc,n⟩)⟩
  ·exact⟨hv,.inl ⟨n,fun C e Z=>ah _ _ D nLe (k.trans (J.trans (qg.put e))) (d j) (fun b f=>jf (q b f) (e.from (Nat.lt_succ_self _)).2) ((t _ _).put p (by omega) e) Z⟩⟩
  ·exact⟨hv,.inr ⟨c,n,fun C e Z=>ak _ c i _ nLe p (k.trans (J.trans (qg.put e))) ((T c i).put hc (by omega) e) Z⟩⟩
def qV (B:Nat) (W:World) (a:List Nat):Prop:=a.Nodup∧∀K∈a,B<=K∧W.1[K]?=some (.deferred (some []))
theorem qV.nil (B:Nat) (W:World):qV B W []:=⟨List.nodup_nil,fun _ h=>by cases h⟩
theorem qV.lt {B:Nat} {W:World} {c:List Nat} (h:qV B W c):∀K∈c,K<W.1.size:=fun K a=>(jA.1 (h.2 K a).2).1
theorem qV.from {B:Nat} {W d:World} {c:List Nat} (h:qV B W c) (e:KeepsFrom B W d):qV B d c:=
 ⟨h.1,fun K a=>⟨(h.2 K a).1,e.same K _ (h.2 K a).1 (h.2 K a).2 rfl⟩⟩
theorem qV.grown {B:Nat} {W d:World} {f:Option Nat} {c:List Nat} (h:qV B W c) (g:W.grownBy d f) (i:∀r,f=some r->r∉c):qV B d c:=
 ⟨h.1,fun K a=>⟨(h.2 K a).1,(g.block K (h.lt K a) (fun e=>i K e.symm a)).trans (h.2 K a).2⟩⟩
theorem qV.later {B:Nat} {W c:World} {a:List Nat} (h:qV B W a) (d:Bz W c):qV B c a:=h.grown (Aw d) (fun _ e=>nomatch e)
theorem qV.cons {B K:Nat} {W:World} {c:List Nat} (h:qV B W c) (d:B<=K) (f:K∉c) (e:W.1[K]?=some (.deferred (some []))):qV B W (K::c):=
 ⟨List.nodup_cons.2 ⟨f,h.1⟩,fun b a=>by
  rcases jI.1 a with rfl|a
  ·exact⟨d,e⟩
  ·exact h.2 b a⟩
theorem xA {B d:Nat} {f:List Nat} (g:∀K∈f,K<d):qe d (fun W=>qV B W f):=fun W c j h b i=>h.grown b fun r e a=>by
 have:=(i r e).1;have:=g r a;omega
def BE (B:Nat) (W a:World):Prop:=∀I:World->Prop,qe B I->I W->I a
theorem kJ {P:Program} {l:Func} {m:Array Value} {R:Ending->World->Prop} {B:Nat}:∀(j:List Nat) (W:World),qV B W j->
  (∀a,BE B W a->∃v,(results l m).run P a= .ok v a∧R (.returned v) a)->LeavesInM Fence.wide 0 P l m R (j.map mark) .returning W
 |[],W,_,h=>h W (fun _ _ k=>k)
 |K::j,W,hm,h=>by
   obtain⟨i,f⟩:=hm.2 K (by simp);have b:=List.nodup_cons.1 hm.1;refine⟨by simp,.inl ⟨K,_,rfl,run_takeDeferred f,?_⟩⟩;refine kJ j _ ⟨b.2,fun e d=>⟨(hm.2 e (by simp[d])).1,(jc (by rintro rfl;exact b.1 d)).trans (hm.2 e (by simp[d])).2⟩⟩ ?_;intro a c;exact h a fun I g k=>c I g (g.putObj _ k i f rfl)
theorem DN {P:Program} {d:Func} {tmps:Array Value} {R:Ending->World->Prop} {B:Nat} {c:List Nat} {W:World} (e:qV B W c) (f:d.results=#[])
  (h:∀a,BE B W a->∀v,R (.returned v) a):bodyPostM Fence.wide 0 P d R .ret {tmps:=tmps,defers:=c.map mark} W:=
 kJ c W e fun a b=>⟨_,results_none f _ _ _,h a b _⟩
theorem D5 {P:Program} {d:Func} {tmps:Array Value} {R:Ending->World->Prop} {B:Nat} {c:List Nat} {W:World} (e:qV B W c) (f:d.results=#[])
  (h:∀a,BE B W a->∀v,R (.returned v) a):bodyPostM Fence.wide 0 P d R .normal {tmps:=tmps,defers:=c.map mark} W:=
 kJ c W e fun a b=>⟨_,results_none f _ _ _,h a b _⟩
theorem BE.keepsN {B:Nat} {W c d:World} {D:Nat->Prop} (h:BE B W d) (f:qg D c W):qg D c d:=
 h (fun X=>qg D c X) (fun _ _ _ i a g=>i.trans (qg.grown a fun r e=>.inr (g r e).2)) f
theorem BE.size {B:Nat} {W c:World} (h:BE B W c):W.1.size<=c.1.size:=
 h (fun X=>W.1.size<=X.1.size) (fun _ _ _ d a _=>jS d a.size) nLe
theorem ym {B:Nat} (D:Nat->Prop) (c:World):qe B (fun X=>qg D c X):=fun _ _ _ f a d=>f.trans (qg.grown a fun r e=>.inr (d r e).2)
theorem Au {P:Program} {o:Func} {t s:Array Value} {R:Ending->World->Prop} (n:o.results=#[]):∀(m:List Deferred) (u:FrameMode) (w:World),LeavesInM Fence.wide 0 P o t R m u w->LeavesInM Fence.wide 0 P o s R m u w
 |[],.returning,w,h=>by
   obtain⟨v,a,b⟩:=h;rw[results_none n]at a;exact⟨v,by rw[results_none n];exact a,b⟩
 |[],.panicking _,_,h=>h
 |[],.run,_,h=>h
 |d::m,u,w,⟨h0,h⟩=>by
   refine⟨h0,?_⟩;rcases h with⟨r,w',a,b,c⟩|⟨a,k,q,f,p,b,c,i,j⟩
   ·exact .inl ⟨r,w',a,b,Au n m u w' c⟩
   ·refine .inr ⟨a,k,q,f,p,b,c,i,j.mono ?_⟩;intro e l w' g;cases e with
    |returned v=>exact Au n m _ w' g
    |panicked ch=>exact Au n m _ w' g
    |outgrown=>exact g
theorem DR {P:Program} {f:Func} {R:Ending->World->Prop} (g:f.results=#[]) {c:List PanicEntry} {a:Act} {d:Option Tmp} {v:Value} {w:World} (h:bodyPostM Fence.wide 0 P f R (.panic c) (a.put d v) w):bodyPostM Fence.wide 0 P f R (.panic c) a w:=by
 have b:LeavesInM Fence.wide 0 P f (a.put d v).tmps R (a.put d v).defers (.panicking c) w:=h;have e:(a.put d v).defers=a.defers:=by cases d<;>rfl
 rw[e]at b;exact Au g _ _ _ b
section
attribute [local go_sem] Oper.semAt_some
theorem AU {P:Program} (w:World) {o:Oper} {a:Act} {K:Act->World->Prop} {Q:Exit->Act->World->Prop} (s x:Operand) (t:TypeId)
  (L:o.op= .call {callee:= .builtin .append,args:=#[s,x],argTypes:=#[t,t]})
  (q:Nat) (e:TypeId) (i:TypeInfo) (z:Value) (l y:Nat) (T:P.underlying t=some (.slice e)) (H:P.info? e=some i) (V:i.zero=some z)
  (R:i.size=l) (E:i.bytes=y) (W:z.cells.size=l) (S:0<l)
  (v:Value) (n:Nat) (A:List Value) (O:a.eval s=v) (M:w.ownsRow q e l v n A)
  (r:Addr) (m c:Nat) (p:List Value) (U:a.eval x= .slice (some r) m c) (I:p.length=m*l) (J:∀j u,p[j]?=some u->w.cell? (r.add j)=some u) (B:∀u∈p,u.oneCell'=true)
  (C:n+m<=maxLen) (F:(n+m)*y<=140737488355328) (D:q<=w.1.size)
  (h:∀b w',w'.ownsRow q e l b (n+m) (A++p)->w.grownBy w' v.ownBlock->(b= .slice none 0 0↔v= .slice none 0 0∧m=0)->(b.ownBlock=v.ownBlock∨b.ownBlock=some w.1.size)->K (a.put o.dst b) w'):o.wp P a w K Q:=by
 obtain⟨b,w',N,d,g,f,k⟩:=run_append_own_at (P:=P) w q t o.type e i z l y T H V R E W S v n A M r m c p I J B C F D;unfold Oper.wp execOp;simp only[L,resolve,invoke,builtin,Sem.run_bind,Sem.run_pure,Result.andThen_ok,List.map_toArray,List.map_cons,List.map_nil,O,U,N];exact h b w' d g f k
section
variable {P : Program} {ops : Array Oper} {Q : Exit -> Act -> World -> Prop} {S : World -> Prop}
theorem Gs {F H I:Oper} {a:Act} {W:World} {B y k T E t N g n:Nat} {sx R pb:Operand} {x v:Value} {U:List Value} {A:TypeInfo} {z:Value}
  (h1:F.op= .buildSlice T 1 #[(0,sx)]) (h2:H.op= .call {callee:= .builtin .append,args:=#[R,.tmp g],argTypes:=#[T,T]}) (h3:I.op= .store T pb (.tmp n))
  (g1:F.guard=none) (g2:H.guard=none) (g3:I.guard=none) (a7:F.dst=some g) (a8:H.dst=some n) (aw:I.dst=none)
  (af:∀w,(Instr.buildSlice T 1 #[(0,x)]).run P w= .ok (.slice (some ⟨w.1.size,0,none⟩) 1 1) (w.alloc (.cells x.cells E)))
  (ax:∀w,Sem.run P (sizeOf T) w= .ok 1 w) (hT:P.underlying T=some (.slice E)) (hi:P.info? E=some A) (ak:A.zero=some z) (al:A.size=t) (am:A.bytes=N) (an:z.cells.size=t) (ah:0<t) (Z:T≠E)
  (hx:a.eval sx=x) (aj:x.cells.size=t) (ai:∀u∈x.cells,u.oneCell'=true)
  (ac:g<a.tmps.size) (ad:n<a.tmps.size)
  (ag:(a.put (some g) (.slice (some ⟨W.1.size,0,none⟩) 1 1)).eval R=v)
  (ae:∀u,((a.put (some g) (.slice (some ⟨W.1.size,0,none⟩) 1 1)).put (some n) u).eval pb=Vp B 0)
  (O:Boxed W B T v) (D:W.ownsRow y E t v k U) (hn:y<=W.1.size) (hB:y<=B) (aa:k+1<=maxLen) (ab:(k+1)*N<=140737488355328)
  (X:∀w',Boxed w' B T v->KeepsOthers W w'->(∀r o,r≠B->W.1[r]?=some o->v.ownBlock≠some r->w'.1[r]?=some o)->S w')
  (hK:∀q w',Boxed w' B T q->w'.ownsRow y E t q (k+1) (U++x.cells.toList)->KeepsOthers W w'->Below y W w'->(∀r o,r≠B->W.1[r]?=some o->v.ownBlock≠some r->w'.1[r]?=some o)->(∀b,q.ownBlock=some b->v.ownBlock=some b∨W.1.size<=b)->
   Q .normal ((a.put (some g) (.slice (some ⟨W.1.size,0,none⟩) 1 1)).put (some n) q) w'):
  Ek P ops Q S [F,H,I] a W:=by
 have aq:some B≠v.ownBlock:=O.not_row Z D;refine vV g1 ?_;unfold Oper.wp execOp;simp only[h1,List.map_toArray,List.map_cons,List.map_nil,hx,Sem.run_bind,Sem.run_pure,af,Result.andThen_ok,Oper.upon,a7];refine⟨X _ (O.alloc _) (KeepsOthers.alloc W _) (fun r o _ s _=>(Below.heap_alloc W _ r (jA.1 s).1).trans s),?_⟩;refine vV g2 ?_;refine AU _ R (.tmp g) T h2 y E A z t N hT hi ak al am an ah v k U ag (D.alloc _) (Ad W.1.size 0) 1 1 x.cells.toList ?_ (by simpa using aj) ?_ (by simpa using ai) aa ab (by simp;omega) ?_
 ·show (a.tmps.setIfInBounds g _).getD g undef=_;simp[ac]
 ·intro j u C;have m:(W.alloc (.cells x.cells E)).1[W.1.size]?=some (.cells x.cells E):=dB W _;have a0:x.cells[j]?=some u:=by rw[<-Array.getElem?_toList];exact C
  by_cases K:j=0
  ·subst K;show (match (W.alloc (.cells x.cells E)).1[W.1.size]? with|some (.cells c _ _)=>c[0]?|_=>none)=_;rw[m];exact a0
  ·rw[Addr.add,if_neg K];show (match (W.alloc (.cells x.cells E)).1[W.1.size]? with|some (.cells c _ _)=>c[0+j]?|_=>none)=_;rw[m,dG];exact a0
 ·intro q J f d _ a4;obtain⟨M,h,rfl⟩:=ownsRow_succ f;obtain⟨i,a3,ap,a2,a5⟩:=O.appended Z D hn hB f d;have V:∀r o,r≠B->W.1[r]?=some o->v.ownBlock≠some r->J.1[r]?=some o:=fun r o _ s l=>
   (d.block r (by have:=(jA.1 s).1;simp;omega) (fun e=>l e.symm)).trans ((Below.heap_alloc W _ r (jA.1 s).1).trans s)
  rw[a8];refine⟨X _ i ?_ V,?_⟩
  ·refine(KeepsOthers.alloc W _).trans (KeepsOthers.of_grownBy d fun j o L C=>?_);rcases(D.alloc (.cells x.cells E)).2 with⟨rfl,_⟩|⟨a9,av,ar,rfl,_,a1,_⟩
   ·simp[Value.ownBlock]at L
   ·obtain rfl:a9=j:=by simpa[Value.ownBlock]using L
    rw[a1]at C;cases C;rfl
  ·refine vV g3 ?_;have au:=i.cell;have hf:=i.frozen;have a6:=hK _ _ a3 ap a2 a5 (fun r o p s l=>(Below.heap_setCell J (Ad B 0) _ r p).trans (V r o p s l)) (fun b m=>a4.elim (fun e=>.inl (e▸m)) (fun e=>.inr (by rw[e]at m;cases m;simp)));have ao:((a.put (some g) (Vs W.1.size 0 1 1)).put (some n) (Vs M 0 (k+1) h)).eval (.tmp n)=Vs M 0 (k+1) h:=by
    show ((a.tmps.setIfInBounds g _).setIfInBounds n _).getD n undef=_;simp[ad]
   unfold Oper.wp execOp;simp only[h3,ae,ao];go_simp;exact a6
end
end
end Go.Proofs.YtnmpcdnbklmhkaaGreatDoor
