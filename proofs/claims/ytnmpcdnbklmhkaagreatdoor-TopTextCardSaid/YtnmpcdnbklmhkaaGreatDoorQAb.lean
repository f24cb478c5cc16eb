import Derived.Test.YtnmpcdnbklmhkaaGreatDoorQAa
import Derived.StillTailTactics
import Derived.BigQuiet
import Derived.Deep.QuietTactic
import Derived.TacticsInMore
import Derived.LoopIn
import Derived.LoopNIn
import Derived.OwnWalkIn
import Derived.Maps.AppendAt
import Derived.Outline
import Derived.OwnWalk
import Derived.OrdersHeld
namespace Go.Proofs.YtnmpcdnbklmhkaaGreatDoor
open Go.Proofs.Tryz Go.RowKit
set_option maxRecDepth 100000
set_option maxHeartbeats 8000000
def Cv (a:Array Oper):Bool:=a.all fun o=>match o.op with|.defer _=>false|_=>true
theorem LC {d:Array Oper} (h:Cv d=true) {i:Nat} {o:Oper} (f:d[i]?=some o):∀c,o.op≠.defer c:=by
 intro c a;obtain⟨e,rfl⟩:=jA.1 f;have:=(Array.all_eq_true.1 h) i e;rw[a]at this;cases this
section
variable {P : Program} {Q : Exit -> Act -> World -> Prop}
theorem Hr {o:Oper} {a:Act} {w:World} {K:Act->World->Prop} (l:Nat) (i:∀c,o.op≠.defer c) (h:o.wp P a w K Q):o.wpIn (Fence.wide.inRound l) 0 P a w K Q:=by
 unfold Oper.wp at h;unfold Oper.wpIn;refine⟨fun _ _=>trivial,?_⟩;rw[Fence.inRound_round,Oper.semAt_some l _ o i];generalize (execOp a.eval o).run P w=r at*;cases r with
 |ok x w'=>
   cases x with
   |value v=>exact h
   |skip=>exact h
   |defer d=>exact h
   |enter f args=>exact⟨fun e=>by simp[Fence.wide]at e,CallsIn.inRound l (callsIn_wide.2 h)⟩
   |row row args=>
     refine⟨fun e=>by simp[Fence.wide]at e,?_⟩;intro c g _;obtain⟨v,b,r,s⟩:=h c g;exact⟨v,b,r,stepsIn_wide.2 s⟩
   |_=>exact h.elim
 |halt x w'=>cases x<;>first|exact h|exact h.elim
theorem Ph {c:Array Oper} {i:Nat} {a:Act} {w:World} {K:Act->World->Prop} (l:Nat) (e:Cv c=true) (f:¬LetsOut Q) (h:wpOp P c Q i K a w):wpOpIn (Fence.wide.inRound l) 0 P c Q i K a w:=by
 unfold wpOp at h;unfold wpOpIn;cases d:c[i]? with
 |none=>simpa[d]using h
 |some o=>
   simp only[d]at h⊢;split at h
   ·rename_i b;rw[if_pos b];rcases h with h|h
    ·exact Hr l (LC e d) h
    ·exact absurd h.2 f
   ·rename_i b;rw[if_neg b];exact⟨fun _ _=>trivial,h⟩
theorem E5 {d:Array Oper} {j:Region.Mode} (l:Nat) (e:Cv d=true) (f:¬LetsOut Q):∀(c:Nat) (g:Array Bool) (a:Act) (w:World),
  wpAny P j d Q c g a w->wpAnyIn (Fence.wide.inRound l) 0 P j d Q c g a w
 |0,_,_,_,h=>h
 |c+1,_,_,_,h=>⟨h.1,fun i k=>Ph l e f (wpOp_mono (fun a w=>E5 l e f c _ a w) (h.2 i k))⟩
theorem BU {id:Nat} {c:Array Oper} {a:Act} {w:World} (l:Nat) (e:P.follows .mixedOrders=true) (d:Cv c=true) (f:¬LetsOut Q)
  (h:wpAny P .any c Q c.size (Array.replicate c.size false) a {w with drawn:=w.drawn+1}):(Code.region id c true).wpIn (Fence.wide.inRound l) 0 P Q a w:=
 wpIn_region_any e (E5 l d f _ _ _ _ h)
theorem Mi {id:Nat} {a:Act} {w:World} {s:List Oper} (l:Nat) (n:Nat) (B:P.follows .mixedOrders=true) (A:Cv s.toArray=true) (C:¬LetsOut Q) (u:Region.lexTailB .any s.toArray n=true)
  (h:wpStill P s.toArray {w with drawn:=w.drawn+1} (fun k=>wpList P s.toArray Q (s.drop n) k {w with drawn:=w.drawn+1}) (s.take n) a):(Code.region id s.toArray true).wpIn (Fence.wide.inRound l) 0 P Q a w:=by
 simp only[Region.lexTailB,jJ,decide_eq_true_eq]at u;obtain⟨⟨⟨⟨f,z⟩,D⟩,p⟩,i⟩:=u;have q:n<s.length:=by simpa using z
 have c:(s.take n).length=n:=by simp;omega
 have d:(s.drop n).length=s.toArray.size-n:=by simp
 have e:HeadInv .any s.toArray n (Array.replicate s.toArray.size false):=
  ⟨by simp,fun j r _ y=>(by rw[getD_replicate_false]at y;cases y),fun t _ E=>getD_in (by simpa using E) (getD_replicate_false _ _)⟩
 have H:=wpAnyL_lex (md:= .any) (g:=s.toArray.size-n) f D p z (s.take n) 0 _ a (fun j x=>by
  have m:j<n:=by rw[c]at x;exact x
  simp[m]) (by simpa using c) e (by rw[c];exact i) h
 refine BU l B A C ?_;have:=wpAny_of_head (Q':=Q) (g:=s.toArray.size-n) (fun b k o=>by
  have:=wpAny_of_seq (md:= .any) (Q':=Q) (s.drop n) n b k {w with drawn:=w.drawn+1} (fun j=>by simp[List.getElem?_drop]) (by rw[d];exact o.1) o.2;rwa [d]at this) _ _ _ H
 rw[c,show n+(s.toArray.size-n)=s.toArray.size by omega]at this;exact this
end
section
variable {P : Program} {ops : Array Oper} {Q : Exit -> Act -> World -> Prop} {md : Region.Mode} {S : World -> Prop} {last : Nat}
def DI (P:Program) (d:Region.Mode) (c:Array Oper) (Q:Exit->Act->World->Prop) (S:World->Prop) (e:Nat):Nat->Array Bool->Act->World->Prop
 |0,listed,a,w=>Region.ready d c listed=[]∧Q .normal a w
 |fuel+1,listed,a,w=>
   (Region.ready d c listed=[]->Q .normal a w)∧
   ∀i∈Region.ready d c listed,wpOp P c Q i (fun f w'=>(i≠e->S w')∧DI P d c Q S e fuel (listed.setIfInBounds i true) f w') a w
theorem Oe:∀(d:Nat) (e:Array Bool) (a:Act) (w:World),DI P md ops Q S last d e a w->wpAny P md ops Q d e a w
 |0,_,_,_,h=>h
 |d+1,_,_,_,h=>⟨h.1,fun i f=>wpOp_mono (fun b w' c=>Oe d _ b w' c.2) (h.2 i f)⟩
theorem Qm {i:Nat} {p:Oper} {v:Value} (U:ops[i]?=some p) (V:∀(j:Nat) (o:Oper) y b,ops[j]?=some o->o.op≠.select y b)
  (X:∀c a w,Q (.panic c) (a.put p.dst v) w->Q (.panic c) a w)
  (Z:∀W,ops[last]?=some W->∃e∈W.after,Region.binds md e=true∧e.on=i) (a2:i≠last):
  ∀(g:Nat) (d:Array Bool) (a:Act) (w:World),
   (∀j q,ops[j]?=some q->j≠i->d.getD j true=false->(∀e∈q.after,Region.binds md e=true->e.on≠i)->p.apart ops q=true)->
   i∈Region.ready md ops d->YieldsIf P ops S p v a->S w->
   DI P md ops Q S last g (d.setIfInBounds i true) (a.put p.dst v) w->DI P md ops Q S last (g+1) d a w:=by
 intro g
 induction g with
 |zero=>
   intro d a w _ n B N H;refine⟨fun h=>(by rw[h]at n;cases n),fun j R=>?_⟩;by_cases f:j=i
   ·subst f;exact B.wpOp U N ⟨fun _=>N,H⟩
   ·have:=ready_mono R f;rw[H.1]at this;cases this
 |succ g ih=>
   intro d a w l n B N H;refine⟨fun h=>(by rw[h]at n;cases n),fun j R=>?_⟩;by_cases f:j=i
   ·subst f;exact B.wpOp U N ⟨fun _=>N,H⟩
   ·have t:=H.2 j (ready_mono R f);obtain⟨r,q,m,a1⟩:=mem_ready.1 R;have s:∀e∈q.after,Region.binds md e=true->e.on≠i:=fun e T F u=>by
     have t:=a1 e T F;have J:=(mem_ready.1 n).1;rw[u]at t;rcases Nat.lt_or_ge i d.size with I|I
     ·simp[I]at J t;rw[J]at t;cases t
     ·simp[Array.getElem?_eq_none I]at t
    have A:j≠last:=by
     rintro rfl;obtain⟨e,T,F,u⟩:=Z q m;exact s e T F u
    have M:=wpOp_putIf m (l j q m f r s) (fun y b=>V i p y b U) (fun y b=>V j q y b m) X B t;have a0:∀k O,ops[k]?=some O->k≠i->(d.setIfInBounds j true).getD k true=false->
      (∀e∈O.after,Region.binds md e=true->e.on≠i)->p.apart ops O=true:=fun k O L D x E=>by
     refine l k O L D ?_ E;by_cases z:j=k
     ·subst z;exact r
     ·rw[getD_set_ne true z]at x;exact x
    refine wpOp_mono (fun K w' C=>⟨fun _=>C.2.1 A,ih (d.setIfInBounds j true) K w' a0 (ready_mono n (Ne.symm f)) C.1 (C.2.1 A) ?_⟩) M;rw[Array.setIfInBounds_comm _ _ f];exact C.2.2
def heads (P:Program) (c:Array Oper) (S:World->Prop) (L:Act->Prop):List Oper->Act->Prop
 |[],a=>L a
 |o::l,a=>∃v,YieldsIf P c S o v a∧heads P c S L l (a.put o.dst v)
theorem qA {L:Act->Prop} {o:Oper} {l:List Oper} {a:Act} {v:Value} (c:Region.wanted o (yielded ops a.tmps)=true) (h:∀w,S w->(execOp a.eval o).run P w= .ok (.value v) w)
  (k:heads P ops S L l (a.put o.dst v)):heads P ops S L (o::l) a:=⟨v,.inl ⟨c,h⟩,k⟩
theorem CU {L:Act->Prop} {a:Act} (h:L a):heads P ops S L [] a:=h
def j6 (c:Region.Mode) (d:Array Oper) (a k:Nat):Bool:=(d[a]?).all fun o=>o.after.any fun e=>Region.binds c e&&(e.on==k)
theorem xw {k:Nat} (h:j6 md ops last k=true):∀a,ops[last]?=some a->∃e∈a.after,Region.binds md e=true∧e.on=k:=by
 intro a c;unfold j6 at h;rw[c]at h;simp only[Option.all_some]at h;obtain⟨i,d,b⟩:=Array.any_eq_true.1 h;simp only[jJ,beq_iff_eq]at b;exact⟨_,Array.getElem_mem d,b.1,b.2⟩
theorem IM {n g:Nat} {L:Act->Prop} {w:World} (t:Region.noSelect ops=true) (u:(List.range n).all (j6 md ops last)=true) (A:n<=last) (s:S w)
  (r:∀c a d v w,Q (.panic c) (Act.put a d v) w->Q (.panic c) a w)
  (y:∀x q,Region.seqB md ops g n x=true->L q->DI P md ops Q S last g x q w):
  ∀(l:List Oper) (k:Nat) (p:Array Bool) (a:Act),(∀j,j<l.length->l[j]?=ops[k+j]?)->k+l.length=n->
  Region.lexHead md ops g l.length k p=true->heads P ops S L l a->DI P md ops Q S last (g+l.length) p a w
 |[],k,p,a,_,hk,hB,h=>by
   have:k=n:=by simpa using hk
   subst this;exact y p a (by simpa[Region.lexHead]using hB) h
 |o::l,k,p,a,hl,hk,hB,h=>by
   have f:ops[k]?=some o:=by simpa using(hl 0 (by simp)).symm
   simp only[jF,Region.lexHead,jJ]at hB;obtain⟨⟨B,z⟩,e⟩:=hB;simp only[jF]at hk;obtain⟨v,i,m⟩:=h;have b:j6 md ops last k=true:=(List.all_eq_true.1 u) k (by simp;omega);exact Qm f (Region.noSelect_spec t) (fun c a w=>r c a _ _ w) (xw b) (by omega) _ p a w (Region.free_spec f z) (by simpa using B) i s
    (IM t u A s r y l (k+1) _ _ (fun j C=>by have:=hl (j+1) (by simp;omega);simpa[Nat.add_assoc,Nat.add_comm 1 j]using this) (by omega) e m)
def opL (P:Program) (c:Array Oper) (Q:Exit->Act->World->Prop) (o:Oper) (K:Act->World->Prop) (a:Act) (w:World):Prop:=
 if Region.wanted o (yielded c a.tmps)then o.wp P a w K Q∨(o.asks P a w∧LetsOut Q)else K (a.put o.dst undef) w
theorem vV {o:Oper} {K:Act->World->Prop} {a:Act} {w:World} (c:o.guard=none) (h:o.wp P a w K Q):opL P ops Q o K a w:=by
 unfold opL Region.wanted;simp only[c,if_true];exact .inl h
def Ek (P:Program) (c:Array Oper) (Q:Exit->Act->World->Prop) (S:World->Prop):List Oper->Act->World->Prop
 |[],a,w=>Q .normal a w
 |[o],a,w=>opL P c Q o (Q .normal) a w
 |o::o'::l,a,w=>opL P c Q o (fun d w'=>S w'∧Ek P c Q S (o'::l) d w') a w
theorem Kv:∀(l:List Oper) (k:Nat) (q:Array Bool) (a:Act) (w:World),(∀j,l[j]?=ops[k+j]?)->k+l.length=last+1->
  Region.seqB md ops l.length k q=true->Ek P ops Q S l a w->DI P md ops Q S last l.length q a w
 |[],_,_,_,_,_,_,hB,h=>⟨by simpa[Region.seqB]using hB,h⟩
 |[o],k,q,a,w,hl,hk,hB,h=>by
   have f:ops[k]?=some o:=by simpa using(hl 0).symm
   simp only[jF,jO,Region.seqB,jJ,decide_eq_true_eq]at hB;refine⟨fun c=>(by rw[hB.1]at c;cases c),fun i n=>?_⟩;rw[hB.1]at n;have b:i=k:=by simpa using n
   subst b;have p:i=last:=by simp at hk;omega
   have m:wpOp P ops Q i (Q .normal) a w:=by unfold wpOp;simp only[f];exact h
   exact wpOp_mono (fun e w' d=>⟨fun g=>absurd p g,by simpa using hB.2,d⟩) m
 |o::o'::l,k,q,a,w,hl,hk,hB,h=>by
   have f:ops[k]?=some o:=by simpa using(hl 0).symm
   rw[jF,Region.seqB,jJ,decide_eq_true_eq]at hB;refine⟨fun c=>(by rw[hB.1]at c;cases c),fun i n=>?_⟩;rw[hB.1]at n;have b:i=k:=by simpa using n
   subst b;have m:wpOp P ops Q i (fun e w'=>S w'∧Ek P ops Q S (o'::l) e w') a w:=by unfold wpOp;simp only[f];exact h
   exact wpOp_mono (fun e w' d=>⟨fun _=>d.1,Kv (o'::l) (i+1) _ e w' (fun j=>by have:=hl (j+1);simpa[Nat.add_assoc,Nat.add_comm 1 j]using this) (by simp at hk⊢;omega) hB.2 d.2⟩) m
def UI (a:Array Oper) (n:Nat):Bool:=
 Region.noSelect a&&decide (n<a.size)&&(List.range n).all (j6 .any a (a.size-1))&&Region.lexHead .any a (a.size-n) n 0 (Array.replicate a.size false)
theorem U9 {q:List Oper} {a:Act} {w:World} (n:Nat) (r:UI q.toArray n=true) (S:World->Prop) (u:S w)
  (t:∀c a d v w,Q (.panic c) (Act.put a d v) w->Q (.panic c) a w)
  (h:heads P q.toArray S (fun m=>Ek P q.toArray Q S (q.drop n) m w) (q.take n) a):
  wpAny P .any q.toArray Q q.toArray.size (Array.replicate q.toArray.size false) a w:=by
 simp only[UI,jJ,decide_eq_true_eq]at r;obtain⟨⟨⟨l,x⟩,i⟩,k⟩:=r;have p:n<q.length:=by simpa using x
 have e:(q.take n).length=n:=by simp;omega
 have f:(q.drop n).length=q.toArray.size-n:=by simp
 refine Oe (S:=S) (last:=q.toArray.size-1) _ _ _ _ ?_;have:=IM (md:= .any) (n:=n) (g:=q.toArray.size-n) (Q:=Q) (L:=fun m=>Ek P q.toArray Q S (q.drop n) m w) (w:=w) (S:=S) l i (by omega) u t
  (fun b m y z=>by
   have:=Kv (md:= .any) (P:=P) (Q:=Q) (S:=S) (last:=q.toArray.size-1) (ops:=q.toArray) (q.drop n) n b m w (fun j=>by simp[List.getElem?_drop]) (by rw[f];omega) (by rw[f];exact y) z;rwa [f]at this)
  (q.take n) 0 _ a (fun j s=>by
   have o:j<n:=by rw[e]at s;exact s
   simp[o]) (by simpa using e) (by rw[e];exact k) h
 rw[e,show q.toArray.size-n+n=q.toArray.size by omega]at this;exact this
theorem vx {id:Nat} {a:Act} {w:World} {e:List Oper} (l:Nat) (n:Nat) (k:P.follows .mixedOrders=true) (j:Cv e.toArray=true) (m:¬LetsOut Q) (f:UI e.toArray n=true)
  (S:World->Prop) (i:S w.drew) (g:∀c a d v w,Q (.panic c) (Act.put a d v) w->Q (.panic c) a w)
  (h:heads P e.toArray S (fun b=>Ek P e.toArray Q S (e.drop n) b w.drew) (e.take n) a):(Code.region id e.toArray true).wpIn (Fence.wide.inRound l) 0 P Q a w:=
 BU l k j m (U9 n f S i g h)
theorem KV {C D L:Oper} {a:Act} {W:World} {B s k T E p M e g:Nat} {sx O Z:Operand} {x v:Value} {R:List Value} {t:TypeInfo} {z:Value}
  (h1:C.op= .buildSlice T 1 #[(0,sx)]) (h2:D.op= .call {callee:= .builtin .append,args:=#[O,.tmp e],argTypes:=#[T,T]}) (h3:L.op= .store T Z (.tmp g))
  (g1:C.guard=none) (g2:D.guard=none) (g3:L.guard=none) (a3:C.dst=some e) (a4:D.dst=some g) (av:L.dst=none)
  (ac:∀w,(Instr.buildSlice T 1 #[(0,x)]).run P w= .ok (.slice (some ⟨w.1.size,0,none⟩) 1 1) (w.alloc (.cells x.cells E)))
  (aw:∀w,Sem.run P (sizeOf T) w= .ok 1 w) (hT:P.underlying T=some (.slice E)) (hi:P.info? E=some t) (ah:t.zero=some z) (ai:t.size=p) (aj:t.bytes=M) (ak:z.cells.size=p) (ae:0<p) (X:T≠E)
  (hx:a.eval sx=x) (ag:x.cells.size=p) (af:∀u∈x.cells,u.oneCell'=true)
  (a9:e<a.tmps.size) (aa:g<a.tmps.size)
  (ad:(a.put (some e) (.slice (some ⟨W.1.size,0,none⟩) 1 1)).eval O=v)
  (ab:∀u,((a.put (some e) (.slice (some ⟨W.1.size,0,none⟩) 1 1)).put (some g) u).eval Z=Vp B 0)
  (N:Boxed W B T v) (A:W.ownsRow s E p v k R) (hn:s<=W.1.size) (hB:s<=B) (a7:k+1<=maxLen) (a8:(k+1)*M<=140737488355328)
  (V:∀w',Boxed w' B T v->KeepsOthers W w'->(∀r o,r≠B->W.1[r]?=some o->v.ownBlock≠some r->w'.1[r]?=some o)->S w')
  (hK:∀q w',Boxed w' B T q->w'.ownsRow s E p q (k+1) (R++x.cells.toList)->KeepsOthers W w'->Below s W w'->(∀r o,r≠B->W.1[r]?=some o->v.ownBlock≠some r->w'.1[r]?=some o)->
   Q .normal ((a.put (some e) (.slice (some ⟨W.1.size,0,none⟩) 1 1)).put (some g) q) w'):
  Ek P ops Q S [C,D,L] a W:=by
 have ap:some B≠v.ownBlock:=N.not_row X A;refine vV g1 ?_;unfold Oper.wp execOp;simp only[h1,List.map_toArray,List.map_cons,List.map_nil,hx,Sem.run_bind,Sem.run_pure,ac,Result.andThen_ok,Oper.upon,a3];refine⟨V _ (N.alloc _) (KeepsOthers.alloc W _) (fun r o _ n _=>(Below.heap_alloc W _ r (jA.1 n).1).trans n),?_⟩;refine vV g2 ?_;refine wp_append_own _ O (.tmp e) T h2 s E t z p M hT hi ah ai aj ak ae v k R ad (A.alloc _) (Ad W.1.size 0) 1 1 x.cells.toList ?_ (by simpa using ag) ?_ (by simpa using af) a7 a8 (by simp;omega) ?_
 ·show (a.tmps.setIfInBounds e _).getD e undef=_;simp[a9]
 ·intro j u y;have K:(W.alloc (.cells x.cells E)).1[W.1.size]?=some (.cells x.cells E):=dB W _;have m:x.cells[j]?=some u:=by rw[<-Array.getElem?_toList];exact y
  by_cases H:j=0
  ·subst H;show (match (W.alloc (.cells x.cells E)).1[W.1.size]? with|some (.cells c _ _)=>c[0]?|_=>none)=_;rw[K];exact m
  ·rw[Addr.add,if_neg H];show (match (W.alloc (.cells x.cells E)).1[W.1.size]? with|some (.cells c _ _)=>c[0+j]?|_=>none)=_;rw[K,dG];exact m
 ·intro q F d b _;obtain⟨J,f,rfl⟩:=ownsRow_succ d;obtain⟨h,a0,am,ao,a1⟩:=N.appended X A hn hB d b;have U:∀r o,r≠B->W.1[r]?=some o->v.ownBlock≠some r->F.1[r]?=some o:=fun r o _ n i=>
   (b.block r (by have:=(jA.1 n).1;simp;omega) (fun a5=>i a5.symm)).trans ((Below.heap_alloc W _ r (jA.1 n).1).trans n)
  rw[a4];refine⟨V _ h ?_ U,?_⟩
  ·refine(KeepsOthers.alloc W _).trans (KeepsOthers.of_grownBy b fun j o I y=>?_);rcases(A.alloc (.cells x.cells E)).2 with⟨rfl,_⟩|⟨a6,au,aq,rfl,_,an,_⟩
   ·simp[Value.ownBlock]at I
   ·obtain rfl:a6=j:=by simpa[Value.ownBlock]using I
    rw[an]at y;cases y;rfl
  ·refine vV g3 ?_;have ar:=h.cell;have hf:=h.frozen;have a2:=hK _ _ a0 am ao a1 (fun r o l n i=>(Below.heap_setCell F (Ad B 0) _ r l).trans (U r o l n i));have al:((a.put (some e) (Vs W.1.size 0 1 1)).put (some g) (Vs J 0 (k+1) f)).eval (.tmp g)=Vs J 0 (k+1) f:=by
    show ((a.tmps.setIfInBounds e _).setIfInBounds g _).getD g undef=_;simp[aa]
   unfold Oper.wp execOp;simp only[h3,ab,al];go_simp;exact a2
end
theorem FD {W w':World} {B r t E i j k:Nat} {u v:Value} {l:List Value} (a:Boxed W r t u) (d:r≠B) (g:t≠E) (f:W.ownsRow i E j v k l)
  (c:∀r o,r≠B->W.1[r]?=some o->v.ownBlock≠some r->w'.1[r]?=some o):Boxed w' r t u:=
 c r _ d a (fun e=>(a.not_row g f) e.symm)
theorem vh {W:World} {b:Nat} (h:W.1.size=b) (t:TypeId) (v:Value):Boxed (W.alloc (Oc #[v] t)) b t v:=h▸Boxed.new W t v
theorem qh {W:World} {d E e k:Nat} {v:Value} {f:List Value} (h:W.ownsRow d E e v k f):∃a c,v=Sq a k c:=by
 rcases h.2 with⟨rfl,rfl⟩|⟨g,c,b,rfl,_⟩
 ·exact⟨_,_,rfl⟩
 ·exact⟨_,_,rfl⟩
theorem qe.row {B:Nat} (j b:Nat) (t e:TypeId) (l k:Nat) (m:List Value):qe B (fun W=>∃v,Boxed W b t v∧W.ownsRow j e l v k m):=by
 rintro W h o ⟨v,d,a⟩ i n;obtain⟨g,f,c,_⟩:=holdsRow_own (β:=Unit) j b t e l (fun _=>k) (fun _=>m) (fun _ _=>True) () W h o ⟨v,d,a,trivial⟩ i (fun r e=>(n r e).2);exact⟨g,f,c⟩
theorem Qg {B:Nat} {w W a:World} (h:Below B w W) (k:Below B W.drew a):Below B w a:=(h.trans ((Below.refl _ W).drew)).trans k
theorem PI {W a:World} (k:KeepsOthers W.drew a):KeepsOthers W a:=⟨k.size,k.same⟩
end Go.Proofs.YtnmpcdnbklmhkaaGreatDoor
