import Derived.RangeFuncNested
import Derived.RangeFuncLeaves
import Derived.ScopeJumps
import Derived.WalkKit
import Derived.WalkMore
import Derived.WalkSpells
import Derived.WalkLawsBesides
import Derived.Lib.Hide
import Derived.ControlIn
import Derived.Test.YtnmpcdnbklmhkaaGreatDoorShelf
import Derived.Test.YtnmpcdnbklmhkaaGreatDoorProg
import Derived.BigQuiet
import Derived.Deep.QuietTactic
import Derived.Lib.SmallJoins
import Derived.Lib.LaidTab
import Derived.Laws.Rows
import Derived.Laws.AppendOwnNone
import Derived.Laws.OwnMore
namespace Go.Proofs.YtnmpcdnbklmhkaaGreatDoor
open Go.Proofs.Tryz Go.RowKit
set_option maxRecDepth 100000
set_option maxHeartbeats 8000000
abbrev _root_.Go.World.hz (w:World):Nat:=w.1.size
@[simp] abbrev Bz (w W:World):Prop:=Below w.heap.size w W
abbrev En0 (n:Nat):Prop:=∀(args:Array Value) (w:World),(callFunc n args).run prog w= .ok (.enter n args) w
abbrev Vi (n:Int):Value:= .int .i64 n
abbrev Vu (n:Int):Value:= .int .u8 n
abbrev Vp (b i:Nat):Value:= .pointer (some ⟨b,i,none⟩)
abbrev Vn:Value:= .slice none 0 0
abbrev Vc (a b:Nat):Value:= .complex .f64 a b
abbrev Sq (a:Option Addr) (n c:Nat):Value:= .slice a n c
abbrev Vb (b:Bool):Value:= .bool b
abbrev Oc (a:Array Value) (t:TypeId):Obj:= .cells a t
abbrev Rt (v:Value):Ending:= .returned v
abbrev Rw (w:World) (v:Value):Ending->World->Prop:=fun e w'=>e= .returned v∧Bz w w'
abbrev Cs:=Calls prog
theorem bA (w:World) (o:Obj):Bz w (w.alloc o):=(Below.refl _ _).alloc (Nat.le_refl _) o
theorem bB {w:World} {o:Obj}:Bz w (w.alloc o):=(Below.refl _ _).alloc (Nat.le_refl _) o
abbrev Vs (b o n c:Nat):Value:= .slice (some ⟨b,o,none⟩) n c
abbrev Ad (b i:Nat):Addr:=⟨b,i,none⟩
abbrev Cq (w:World) (b i:Nat) (v:Value):Prop:=w.cell? ⟨b,i,none⟩=some v
theorem nLe {n:Nat}:n<=n:=Nat.le_refl n
theorem xR {α:Type} (a:α):∃x,a=x:=⟨a,rfl⟩
theorem xL {α:Type} (a:α):∃x,x=a:=⟨a,rfl⟩
theorem hiD {p:Prop} (h:p):Hid p:=h
theorem hst1 (a:Addr) (d c:Nat) (m:Mode) (w:World):Sem.run prog (store a (.complex .f64 d c) m) w=stored prog w a (.complex .f64 d c) m:=run_store _ w a _ m rfl
theorem hstB (a:Addr) (c:Array Value) (g:Nat) (m:Mode) (w:World):Sem.run prog (store a (.func (.func g) #[] c) m) w=stored prog w a (.func (.func g) #[] c) m:=run_store _ w a _ m rfl
theorem hmf1 (c:Fn) (first a:Array Value) (w:World):(Instr.makeFunc c first a).run prog w= .ok (.func c first a) w:=rfl
theorem bRf {b:Nat} {w:World}:Below b w w:=Below.refl b w
abbrev jA:= @Array.getElem?_eq_some_iff
abbrev jB:= @List.getElem?_eq_getElem
abbrev jC:= @List.setIfInBounds_toArray
abbrev jD:= @List.nil_append
abbrev jE:= @List.cons_append
abbrev jF:= @List.length_cons
abbrev jG:= @List.getElem?_eq_some_iff
abbrev jH:= @List.not_mem_nil
abbrev jI:= @List.mem_cons
abbrev jJ:= @Bool.and_eq_true
abbrev jK:= @List.set_cons_zero
abbrev jL:= @List.set_cons_succ
abbrev jM:= @List.getElem?_cons_zero
abbrev jN:= @List.getElem?_cons_succ
abbrev jO:= @List.length_nil
abbrev jQ:= @Array.replicate_zero
abbrev jR:= @Array.replicate_succ
abbrev jS:= @Nat.le_trans
abbrev jU:= @List.append_toArray
abbrev jV:= @List.eq_nil_of_length_eq_zero
abbrev jW:= @List.size_toArray
abbrev jX:= @List.push_toArray
abbrev jY:= @List.mem_of_getElem?
abbrev jZ:= @List.length_append
abbrev ja:= @List.take_succ_eq_append_getElem
abbrev jb:= @List.length_take
abbrev jc:= @World.putObj_heap_other
abbrev je:= @List.drop_eq_getElem_cons
abbrev jf:= @Nat.lt_of_lt_of_le
abbrev jg:= @Nat.zero_le
abbrev jh:= @Lib.grownBy_setCell
abbrev ji:= @Bool.false_eq_true
abbrev jj:= @List.length_drop
abbrev jk:= @List.append_assoc
abbrev jl:= @World.size_alloc
abbrev jm:= @List.take_succ_cons
abbrev jn:= @List.take_length
abbrev jo:= @List.append_nil
abbrev jr:= @Int.eq_ofNat_of_zero_le
abbrev js:= @World.ownsRow_nil
abbrev jt:= @List.drop_of_length_le
abbrev ju:= @List.drop_zero
abbrev jv:= @List.take_append_drop
abbrev jw:= @Array.getElem?_eq_getElem
abbrev jx:= @List.getD_eq_getElem?_getD
abbrev jy:= @List.take_of_length_le
abbrev dB:= @World.alloc_heap_new
abbrev dC:= @List.map_append
abbrev dD:= @Exit.noGoto_ret
abbrev dE:= @List.drop_succ_cons
abbrev dF:= @List.take_zero
abbrev dG:= @Nat.zero_add
abbrev dH:= @List.flatMap_append
abbrev dI:= @List.getElem_mem
section
variable {P : Program} {a : Act} {w : World} {Q : Exit -> Act -> World -> Prop}
def fwd (P:Program) (l:Nat) (c:Code) (Q:Exit->Act->World->Prop):Exit->Act->World->Prop
 |.goto l',a,w=>l'=l∧c.wp P (Exit.noGoto Q) a w
 |e,a,w=>Q e a w
@[go_sem] theorem qU {l:Nat} {c:Code}:fwd P l c Q .ret a w=Q .ret a w:=rfl
theorem xS {l:Nat} {c:Code} (h:c.wp P (Exit.noGoto Q) a w):fwd P l c Q (.goto l) a w:=⟨rfl,h⟩
theorem zE {c f:Code} (l:Nat) (g:findLabel c l=some f)
  (h:c.wp P (fwd P l f Q) a w):(Code.scope c).wp P Q a w:=by
 refine wp_scope_jumps l (fun a w=>f.wp P (Exit.noGoto Q) a w) (fun _ _=>0) g (Code.wp_mono ?_ h) ?_
 ·intro e a w d;cases e<;>exact d
 ·intro a w b;refine Code.wp_mono ?_ b;intro e a w d;cases e<;>first|exact d|exact d.elim
end
def qe (B:Nat) (I:World->Prop):Prop:=
 ∀W a c,I W->W.grownBy a c->(∀r,c=some r->B<=r∧∃o:Obj,W.1[r]?=some o∧o.isCells=false)->I a
theorem qe.alloc {B:Nat} {I:World->Prop} (h:qe B I) {W:World} (o:Obj) (a:I W):I (W.alloc o):=
 h W _ none a (World.grownBy_alloc W o none) (fun r e=>by cases e)
theorem qe.putObj {B:Nat} {I:World->Prop} (h:qe B I) {W:World} {l:Nat} {o:Obj} (a:Obj) (g:I W) (c:B<=l) (d:W.1[l]?=some o) (f:o.isCells=false):I (W.putObj l a):=
 h W _ (some l) g (grownBy_putObj' W l a) (fun r e=>by cases e;exact⟨c,o,d,f⟩)
theorem qe.mono {B c:Nat} {I:World->Prop} (h:qe B I) (f:B<=c):qe c I:=
 fun W a i g b d=>h W a i g b (fun r e=>⟨jS f (d r e).1,(d r e).2⟩)
theorem qe.and {B:Nat} {I J:World->Prop} (h:qe B I) (k:qe B J):qe B (fun W=>I W∧J W):=
 fun W a e d b c=>⟨h W a e d.1 b c,k W a e d.2 b c⟩
theorem qe.ex {B:Nat} {β:Type} {I:β->World->Prop} (h:∀x,qe B (I x)):qe B (fun W=>∃x,I x W):=
 fun W b f e c d=>e.elim fun x a=>⟨x,h x W b f a c d⟩
theorem qe.pure {B:Nat} (p:Prop):qe B (fun _=>p):=fun _ _ _ a _ _=>a
theorem qe.cell {B:Nat} (a:Addr) (v:Value):qe B (fun W=>W.cell? a=some v):=
 fun _ _ _ d b c=>cell_kept d b (fun r e=>(c r e).2)
theorem qe.boxed {B:Nat} (b:Nat) (t:TypeId) (v:Value):qe B (fun W=>Boxed W b t v):=
 fun W a g f c d=>boxed_own (β:=Unit) b t (fun _=>v) () W a g f c (fun r e=>(d r e).2)
theorem qe.below {B c:Nat} {f:World} (h:c<=B) (g:c<=f.1.size):qe B (fun W=>Below c f W):=
 fun _ _ _ d a i=>d.grown a (jS g d.size) (fun r e=>jS h (i r e).1)
def Iter (P:Program) (g:Nat) (k:Array Value) (j:Nat->Array Value) (N:Nat) (f:World->Prop):Prop:=
 ∀(l:Nat) (J c:Nat->World->Prop) (W:World),(∀i,qe W.1.size (J i))->(∀i,qe W.1.size (c i))->(∀i W,J i W->f W)->
  (∀i d,i<N->J i d->YieldAt Fence.wide 0 P l (j i) d fun e a=>(e=Rt (Vb true)∧J (i+1) a)∨(e=Rt (Vb false)∧c i a))->
  J 0 W->CallsIn Fence.wide 0 P g (#[.func (.yield l) #[] #[]]++k) W fun e a=>(∃v,e=Rt v)∧(J N a∨∃i,i<N∧c i a)
def ME (B:Nat) (I:Nat->World->Prop) (a:Code->Nat->World->Prop) (i:Nat) (W:World):Exit->Act->World->Prop
 |.normal,_,W'=>KeepsFrom B W W'∧I (i+1) W'
 |.ret,_,W'=>KeepsFrom B W W'∧a .ret i W'
 |.exit id,_,W'=>KeepsFrom B W W'∧a (.exit id) i W'
 |.goto t,_,W'=>KeepsFrom B W W'∧a (.goto t) i W'
 |.panic _,_,_=>False
 |.outgrown,_,_=>False
def mark (D:Nat):Deferred:={target:= .collected D,args:=#[]}
def LR (B:Nat) (o:Loop) (W:World):Prop:=W.1[B+1]?=some (.loop o)∧W.1[B]?=some (.deferred (some []))
def Vq (r:Nat) (W a:World):Prop:=∃o c:Obj,W.1[r]?=some o∧o.isCells=false∧a=W.putObj r c
theorem qe.put {B r:Nat} {I:World->Prop} (h:qe B I) {W c:World} (e:I W) (d:B<=r) (p:Vq r W c):I c:=by
 obtain⟨o,f,b,a,rfl⟩:=p;exact h.putObj f e d b a
theorem qe.on {B:Nat} {I:World->Prop} (h:qe B I) {W d:World} (f:I W) (c:Bz W d):I d:=h W d none f ⟨c.os,c.tape,c.output,c.size,fun k a _=>c.block k a⟩ (fun _ e=>nomatch e)
theorem LR.grown {B:Nat} {o:Loop} {W a:World} {f:Option Nat} (h:LR B o W) (c:W.grownBy a f) (d:∀r,f=some r->r≠B∧r≠B+1):LR B o a:=
 ⟨(c.block _ (jA.1 h.1).1 (fun e=>(d _ e.symm).2 rfl)).trans h.1,(c.block _ (jA.1 h.2).1 (fun e=>(d _ e.symm).1 rfl)).trans h.2⟩
theorem LR.stable (B:Nat) (o:Loop) {c:Nat} (g:B+2<=c):qe c (LR B o):=fun _ _ _ f a d=>f.grown a fun r e=>by have:=(d r e).1;omega
def bpost (B:Nat) (W:World) (X:Option Code->World->Prop):Exit->Act->World->Prop
 |.normal,_,W'=>KeepsFrom B W W'∧X none W'
 |.ret,_,W'=>KeepsFrom B W W'∧X (some .ret) W'
 |.exit id,_,W'=>KeepsFrom B W W'∧X (some (.exit id)) W'
 |.goto t,_,W'=>KeepsFrom B W W'∧X (some (.goto t)) W'
 |.panic _,_,_=>False
 |.outgrown,_,_=>False
theorem Vo {P:Program} {g:Operand} {X:Array Tmp} {assign body:Code} {Q:Exit->Act->World->Prop} {a:Act} {w:World}
  {t:Nat} {V:Array Value} (hg:a.eval g= .func (.func t) #[] V) (eg:∀args w,(callFunc t args).run P w= .ok (.enter t args) w)
  (h:∀(f:World) (d:LoopState->Option Code->Loop),Bz w f->w.1.size+2=f.1.size->LR w.1.size (d .ready none) f->
   (∀(W:World) (z:Array Value) (R:Ending->World->Prop),LR w.1.size (d .ready none) W->z.size=X.size->
    assign.wpIn (Fence.wide.inRound (w.1.size+1)) 0 P (Exit.then (fun N A=>KeepsFrom w.1.size W A∧∀m,Vq (w.1.size+1) A m->body.wpIn (Fence.wide.inRound (w.1.size+1)) 0 P (bpost w.1.size m fun j i=>∀k,Vq (w.1.size+1) i k->LR w.1.size (d (if j.isNone then .ready else .done) j) k->R (.returned (Vb j.isNone)) k) N m) (fun _ _ _=>False)) {tmps:=(X.zip z).foldl (fun a4 (a2,v)=>a4.setIfInBounds a2 v) a.tmps,defers:=[]} W->
    YieldAt Fence.wide 0 P (w.1.size+1) z W R)->
   CallsIn Fence.wide 0 P t (#[.func (.yield (w.1.size+1)) #[] #[]]++V) f fun e u=>(∃v,e=Rt v)∧
    ((LR w.1.size (d .ready none) u∧∀i,Vq (w.1.size+1) u i->i.1[w.1.size]?=some (.deferred (some []))->Q .normal {a with defers:=mark w.1.size::a.defers} i)∨
      ∃c,LR w.1.size (d .done (some c)) u∧∀i,Vq (w.1.size+1) u i->i.1[w.1.size]?=some (.deferred (some []))->c.wp P Q {a with defers:=mark w.1.size::a.defers} i)):
  (Code.rangeFunc g X assign body).wp P Q a w:=by
 refine(wpIn_wide (n:=0)).1 (wpIn_rangeFunc ?_);intro fn J;rw[show Fence.wide.round=none from rfl];obtain⟨d,b⟩:∃d:LoopState->Option Code->Loop,d=fun st a0=>{state:=st,pending:=a0,fn,tmps:=a.tmps,params:=X,assign,body,defers:=w.1.size}:=⟨_,rfl⟩;obtain⟨f,l⟩:=xR ((w.alloc (.deferred (some []))).alloc (.loop (d .ready none)));have C:f.1[w.1.size+1]?=some (.loop (d .ready none)):=by
  rw[<-l];have:=dB (w.alloc (.deferred (some []))) (.loop (d .ready none));rwa [jl]at this
 have E:f.1[w.1.size]?=some (.deferred (some [])):=by
  rw[<-l];exact(Below.heap_alloc _ _ _ (by simp)).trans (dB w _)
 have B:Bz w f:=by rw[<-l];exact bB.alloc (by simp) _
 have D:w.1.size+2=f.1.size:=by rw[<-l];simp
 refine⟨w.1.size+1,[mark w.1.size],f,{target:= .fn (.func t) V,args:=#[.func (.yield (w.1.size+1)) #[] #[]]},f,t,
  #[.func (.yield (w.1.size+1)) #[] #[]]++V,f,?_,?_,?_,?_,fun h=>by simp[Fence.wide]at h,?_⟩
 ·rw[<-l,b];exact run_enterLoop_outer _ _ _ _ _
 ·simp only[resolve,hg];simp[go_sem]
 ·intro a5 _;trivial
 ·simp[invoke,go_sem,eg]
 ·refine(h f d B D ⟨C,E⟩ ?_).mono ?_
  ·rintro W z R ⟨p,r⟩ M ha;have I:=run_yield (P:=P) (args:=z) p (by rw[b];exact M);rw[b]at I;refine⟨fn,_,assign,body,I,roundIn_of_wpIn J (wpIn_mono ha ?_)⟩;clear I;rintro e N A Z;cases e with
   |normal=>
     obtain⟨y,O⟩:=Z;replace p:=y.same _ _ (by omega) p rfl;replace r:=y.same _ _ nLe r rfl;refine⟨_,run_beginRound p (by rw[b]),?_⟩;obtain⟨m,o⟩:∃m,A.putObj (w.1.size+1) (.loop {d .ready none with state:= .busy})=m:=⟨_,rfl⟩;have L:m.1[w.1.size+1]?=some (.loop {d .ready none with state:= .busy}):=by rw[<-o];exact World.putObj_heap_same (jA.1 p).1
     have H:m.1[w.1.size]?=some (.deferred (some [])):=by rw[<-o];exact(jc (by omega)).trans r
     rw[o];refine wpIn_mono (O _ ⟨_,_,p,rfl,o.symm⟩) ?_;rintro e a3 i U;have K:∀(j:Option Code),KeepsFrom w.1.size m i->(∀k,Vq (w.1.size+1) i k->LR w.1.size (d (if j.isNone then .ready else .done) j) k->R (.returned (Vb j.isNone)) k)->
       ∃k,(Instr.endRound (w.1.size+1) j).run P i= .ok (Vb j.isNone) k∧R (.returned (Vb j.isNone)) k:=fun j x a1=>by
      have s:=x.same _ _ (by omega) L rfl;have q:=run_endRound (P:=P) j s;rw[b]at q;exact⟨_,q,a1 _ ⟨_,_,s,rfl,rfl⟩ ⟨by rw[b];exact World.putObj_heap_same (jA.1 s).1,(jc (by omega)).trans (x.same _ _ nLe H rfl)⟩⟩
     cases e with
     |panic ch=>exact U.elim
     |outgrown=>exact U.elim
     |_=>obtain⟨k,T,S⟩:=K _ U.1 U.2;exact⟨_,k,T,S⟩
   |_=>exact Z.elim
  ·rintro e u ⟨⟨v,rfl⟩,(⟨⟨p,r⟩,F⟩|⟨c,⟨p,r⟩,F⟩)⟩
   ·exact⟨none,_,by have:=run_endLoop (P:=P) p (by rw[b];simp);rw[b]at this;exact this,F _ ⟨_,_,p,rfl,rfl⟩ ((jc (by omega)).trans r)⟩
   ·exact⟨some c,_,by have:=run_endLoop (P:=P) p (by rw[b];simp);rw[b]at this;exact this,wpIn_wide.2 (F _ ⟨_,_,p,rfl,rfl⟩ ((jc (by omega)).trans r))⟩
def Q4 (P:Program) (g:Nat) (k:Array Value) (R:Nat->Array Value->World->Prop) (N:Nat) (j:World->Prop):Prop:=
 ∀(l:Nat) (J c:Nat->World->Prop) (W:World),(∀i,qe W.1.size (J i))->(∀i,qe W.1.size (c i))->(∀i W,J i W->j W)->
  (∀i f d,i<N->J i d->R i f d->YieldAt Fence.wide 0 P l f d fun e a=>(e=Rt (Vb true)∧J (i+1) a)∨(e=Rt (Vb false)∧c i a))->
  J 0 W->CallsIn Fence.wide 0 P g (#[.func (.yield l) #[] #[]]++k) W fun e a=>(∃v,e=Rt v)∧(J N a∨∃i,i<N∧c i a)
theorem kF {P:Program} {g:Operand} {z:Array Tmp} {F H:Code} {Q:Exit->Act->World->Prop} {a:Act} {w:World}
  {u:Nat} {L:Array Value} (Z:a.eval g= .func (.func u) #[] L) (M:∀E w,(callFunc u E).run P w= .ok (.enter u E) w)
  {R:Nat->Array Value->World->Prop} {N:Nat} {C:World->Prop} (a0:Q4 P u L R N C) (a1:∀i d W,R i d W->d.size=z.size)
  (I:Nat->World->Prop) (s:Code->Nat->World->Prop) (p:∀i,qe w.1.size (I i)) (y:∀c i,qe w.1.size (s c i)) (T:∀i W,I i W->C W) (O:I 0 w)
  (x:Nat->Act->World->Prop) (S:∀aa b,qe w.1.size (x aa b))
  (U:∀(l i:Nat) (d:Array Value) (W:World) (K:Act->World->Prop),i<N->I i W->R i d W->(∀b t,KeepsFrom w.1.size W t->I i t->x i b t->K b t)->
   F.wpIn (Fence.wide.inRound l) 0 P (Exit.then K (fun _ _ _=>False)) {tmps:=(z.zip d).foldl (fun a8 (a6,v)=>a8.setIfInBounds a6 v) a.tmps,defers:=[]} W)
  (V:∀(l i:Nat) (b:Act) (W:World),w.1.size<=l->i<N->I i W->x i b W->H.wpIn (Fence.wide.inRound l) 0 P (ME w.1.size I s i W) b W)
  (X:∀(D:Nat) (W:World),w.1.size<=D->I N W->W.1[D]?=some (.deferred (some []))->Q .normal {a with defers:=mark D::a.defers} W)
  (a2:∀(D:Nat) (c:Code) (i:Nat) (W:World),w.1.size<=D->i<N->s c i W->W.1[D]?=some (.deferred (some []))->c.wp P Q {a with defers:=mark D::a.defers} W):
  (Code.rangeFunc g z F H).wp P Q a w:=by
 refine Vo Z M fun a7 j a9 hs m ac=>?_;refine(a0 (w.1.size+1) (fun i W=>I i W∧LR w.1.size (j .ready none) W) (fun i W=>∃c,s c i W∧LR w.1.size (j .done (some c)) W) a7
  (fun i=>((p i).mono (by omega)).and (LR.stable _ _ (by omega))) (fun i=>qe.ex fun c=>((y c i).mono (by omega)).and (LR.stable _ _ (by omega))) (fun i W h=>T i W h.1) ?_ ⟨(p 0).on O a9,m⟩).mono ?_
 ·rintro i d W n ⟨hj,hr⟩ r;refine ac W d _ hr (a1 i d W r) (U _ i d W _ n hj r fun b ae A a4 a5=>⟨A,fun af k=>wpIn_mono (V _ i b _ (by omega) n ((p i).put a4 (by omega) k) ((S i b).put a5 (by omega) k)) ?_⟩);rintro e a3 q f;cases e<;>first
   |exact f.elim
   |exact⟨f.1,fun B k m=>.inl ⟨rfl,(p _).put f.2 (by omega) k,m⟩⟩
   |exact⟨f.1,fun B k m=>.inr ⟨rfl,_,(y _ _).put f.2 (by omega) k,m⟩⟩
 ·rintro e ad ⟨J,(⟨n,m⟩|⟨i,n,c,ab,m⟩)⟩
  ·exact⟨J,.inl ⟨m,fun q k o=>X _ _ nLe ((p _).put n (by omega) k) o⟩⟩
  ·exact⟨J,.inr ⟨c,m,fun q k o=>a2 _ c i _ nLe n ((y c i).put ab (by omega) k) o⟩⟩
theorem Ak {P:Program} {g:Operand} {u:Array Tmp} {z A:Code} {Q:Exit->Act->World->Prop} {a:Act} {w:World}
  {t:Nat} {B:Array Value} (U:a.eval g= .func (.func t) #[] B) (C:∀y w,(callFunc t y).run P w= .ok (.enter t y) w)
  {s:Nat->Array Value} {N:Nat} {x:World->Prop} (V:Iter P t B s N x) (X:∀i,(s i).size=u.size)
  (I:Nat->World->Prop) (q:Code->Nat->World->Prop) (L:∀i,qe w.1.size (I i)) (M:∀c i,qe w.1.size (q c i)) (H:∀i W,I i W->x W) (E:I 0 w)
  (p:Nat->Act->World->Prop) (F:∀a4 n,qe w.1.size (p a4 n))
  (O:∀(l i:Nat) (W:World) (K:Act->World->Prop),i<N->I i W->(∀n r,KeepsFrom w.1.size W r->I i r->p i n r->K n r)->
   z.wpIn (Fence.wide.inRound l) 0 P (Exit.then K (fun _ _ _=>False)) {tmps:=(u.zip (s i)).foldl (fun a3 (a0,v)=>a3.setIfInBounds a0 v) a.tmps,defers:=[]} W)
  (S:∀(l i:Nat) (n:Act) (W:World),w.1.size<=l->i<N->I i W->p i n W->A.wpIn (Fence.wide.inRound l) 0 P (ME w.1.size I q i W) n W)
  (T:∀(D:Nat) (W:World),w.1.size<=D->I N W->W.1[D]?=some (.deferred (some []))->Q .normal {a with defers:=mark D::a.defers} W)
  (Z:∀(D:Nat) (c:Code) (i:Nat) (W:World),w.1.size<=D->i<N->q c i W->W.1[D]?=some (.deferred (some []))->c.wp P Q {a with defers:=mark D::a.defers} W):
  (Code.rangeFunc g u z A).wp P Q a w:=
 kF U C (R:=fun i f _=>f=s i) (fun l J a2 W a b c d e=>V l J a2 W a b c (fun i m k j=>d i _ m k j rfl) e) (fun i f W h=>by rw[h];exact X i) I q L M H E p F
  (fun l i f W K k j o a1=>by subst o;exact O l i W K k j a1) S T Z
theorem kT {P:Program} {g:Operand} {o:Array Tmp} {s u:Code} {Q:Exit->Act->World->Prop} {a:Act} {w:World}
  {j:Nat} {x:Array Value} (L:a.eval g= .func (.func j) #[] x) (y:∀r w,(callFunc j r).run P w= .ok (.enter j r) w)
  {m:Nat->Array Value} {N:Nat} {q:World->Prop} (M:Iter P j x m N q) (R:∀i,(m i).size=o.size)
  (I:Nat->World->Prop) (f:Code->Nat->World->Prop) (B:∀i,qe w.1.size (I i)) (C:∀c i,qe w.1.size (f c i)) (A:∀i W,I i W->q W) (z:I 0 w)
  (k:Nat->Act)
  (F:∀(l i:Nat) (W:World) (K:Act->World->Prop),i<N->K (k i) W->
   s.wpIn (Fence.wide.inRound l) 0 P (Exit.then K (fun _ _ _=>False)) {tmps:=(o.zip (m i)).foldl (fun t (p,v)=>t.setIfInBounds p v) a.tmps,defers:=[]} W)
  (H:∀(l i:Nat) (W:World),w.1.size<=l->i<N->I i W->u.wpIn (Fence.wide.inRound l) 0 P (ME w.1.size I f i W) (k i) W)
  (J:∀(D:Nat) (W:World),w.1.size<=D->I N W->W.1[D]?=some (.deferred (some []))->Q .normal {a with defers:=mark D::a.defers} W)
  (S:∀(D:Nat) (c:Code) (i:Nat) (W:World),w.1.size<=D->i<N->f c i W->W.1[D]?=some (.deferred (some []))->c.wp P Q {a with defers:=mark D::a.defers} W):
  (Code.rangeFunc g o s u).wp P Q a w:=
 Ak L y M R I f B C A z (fun i d _=>d=k i) (fun _ _=>qe.pure _)
  (fun l i W K n b e=>F l i W K n (e _ _ (KeepsFrom.refl _ _) b rfl))
  (fun l i d W O n b E=>by subst E;exact H l i W O n b) J S
theorem qH {P:Program} {f:FuncId} {a:Func} {c:Code} {d:Array Value} {w:World} {R:Ending->World->Prop}
  (g:P.funcs[f]?=some a) (e:a.body=some c)
  (h:c.wp P (bodyPostM Fence.wide 0 P a R) {tmps:=d++Array.replicate (a.ntmps-d.size) undef,defers:=[]} w):Calls P f d w R:=
 callsIn_wide.1 (callsIn_of_wp_marks (n:=0) g e trivial (wpIn_wide.2 h) rfl)
theorem qZ {P:Program} {a:Func} {R:Ending->World->Prop} {tmps:Array Value} {D:Nat} {W:World} {v:Value}
  (c:W.1[D]?=some (.deferred (some [])))
  (e:(results a tmps).run P (W.putObj D (.deferred none))= .ok v (W.putObj D (.deferred none))) (d:R (.returned v) (W.putObj D (.deferred none))):
  bodyPostM Fence.wide 0 P a R .ret {tmps:=tmps,defers:=[mark D]} W:=by
 refine⟨by simp,.inl ⟨D,_,rfl,run_takeDeferred c,?_⟩⟩;exact⟨v,e,d⟩
theorem DP {P:Program} {a:Func} {R:Ending->World->Prop} {tmps:Array Value} {W:World} {v:Value}
  (d:(results a tmps).run P W= .ok v W) (c:R (.returned v) W):
  bodyPostM Fence.wide 0 P a R .ret {tmps:=tmps,defers:=[]} W:=⟨v,d,c⟩
theorem qW {W:World} {D:Nat} {o c:Obj} (d:W.1[D]?=some o) (f:o.isCells=false) {a:Addr} {v:Value} (h:W.cell? a=some v):(W.putObj D c).cell? a=some v:=
 cell_kept h (grownBy_putObj' W D c) (fun r e=>by cases e;exact⟨o,d,f⟩)
theorem qB {W w:World} {a D:Nat} {o c:Obj} (h:Below a w W) (d:W.1[D]?=some o) (f:a<=D):Below a w (W.putObj D c):=
 h.grown (grownBy_putObj' W D c) (by have:=(jA.1 d).1;omega) (fun k e=>by cases e;omega)
section
variable {F : Fence} {n : Nat} {P : Program} {Q : Exit -> Act -> World -> Prop} {a : Act} {w : World}
theorem vF {b:Frame} {d:List Frame} {k:List Item} {c:Code}:step P (lone (b.atR a (.code (.scope c)::k)) d w)= .next (lone (b.atR a (.code c::.inScope c::k)) d w):=
 step_lone_go (by simp[stepG,stepG.exec,Frame.atR])
theorem Dq {b:Frame} {d:List Frame} {k:List Item} {c:Code}:step P (lone (b.atR a (.inScope c::k)) d w)= .next (lone (b.atR a k) d w):=
 step_lone_go (by simp[stepG,stepG.exec,Frame.atR])
theorem E6 {c I:Code} (l:Nat) (J:Act->World->Prop) (μ:Act->World->Nat) (K:findLabel c l=some I)
  (first:c.wpIn F n P (Exit.jump l J Q) a w)
  (L:∀a w,J a w->I.wpIn F n P (Exit.jump l (fun s w'=>J s w'∧μ s w'<μ a w) Q) a w):(Code.scope c).wpIn F n P Q a w:=by
 intro b k E r q H;have B:gotoIn l (.inScope c::k)=some (.code I::.inScope c::k):=by simp[gotoIn,K]
 have key:∀m a w,μ a w=m->J a w->∃e s w',Q e s w'∧ArrivesIn (Machine.fenced P F) P (lone (b.atR a (.code I::.inScope c::k)) E w) b k E e s w':=by
  intro m
  induction m using Nat.strongRecOn with
  |_ m ih=>
    intro a w M D;obtain⟨e,i,g,h,d⟩:=L a w D b (.inScope c::k) E r q H;cases e with
    |normal=>exact⟨.normal,i,g,h,StepsIn.trans d (.one (fenced_calm q H rfl) Dq)⟩
    |exit id=>exact⟨.exit id,i,g,h,fun A y=>d.1 A (by simp[exitTo,y]),fun z x=>d.2 z (by simp[exitTo,x])⟩
    |goto l'=>
      obtain⟨rfl,o,C⟩:=h;obtain⟨t,u,v,j,f⟩:=ih _ (by omega) i g rfl o;exact⟨t,u,v,j,.of_steps (d.1 _ B) f⟩
    |ret=>exact⟨_,i,g,h,d⟩
    |panic ch=>exact⟨_,i,g,h,d⟩
    |outgrown=>exact⟨_,i,g,h,d⟩
 have p:(lone (b.atR a (.code (.scope c)::k)) E w).fenced P F:=fenced_calm q H rfl;obtain⟨e,i,g,h,d⟩:=first b (.inScope c::k) E r q H
 cases e with
 |normal=>exact⟨.normal,i,g,h,.head p vF (StepsIn.trans d (.one (fenced_calm q H rfl) Dq))⟩
 |exit id=>exact⟨.exit id,i,g,h,.of_steps (.one p vF) ⟨fun A y=>d.1 A (by simp[exitTo,y]),fun z x=>d.2 z (by simp[exitTo,x])⟩⟩
 |goto l'=>
   obtain⟨rfl,o⟩:=h;obtain⟨t,u,v,j,f⟩:=key _ i g rfl o;exact⟨t,u,v,j,.of_steps (.head p vF (d.1 _ B)) f⟩
 |ret=>exact⟨_,i,g,h,.of_steps (.one p vF) d⟩
 |panic ch=>exact⟨_,i,g,h,.of_steps (.one p vF) d⟩
 |outgrown=>exact⟨_,i,g,h,.of_steps (.one p vF) d⟩
end
def zA (w:World) (k:IntKind) (a:Option Addr) (l:List Int):Prop:=
 l.length<=140737488351232∧(l=[]∨∃b c,a=some ⟨b,c,none⟩∧∀i,i<l.length->w.cell? ⟨b,c+i,none⟩=some (.int k (l.getD i 0)))
theorem vz {w:World} {a:Addr} {v:Value} (h:w.cell? a=some v):a.block<w.1.size:=by
 unfold World.cell? at h;cases c:w.1[a.block]? with
 |none=>simp[c]at h
 |some o=>exact(jA.1 c).1
theorem qd {w w':World} {B:Nat} (d:Below B w w') (c:w.1.size<=B) {a:Addr} {v:Value} (h:w.cell? a=some v):w'.cell? a=some v:=
 (d.cell (jf (vz h) c)).trans h
theorem vk {W a:World} (c:Bz W a):(∀b o,b<W.1.size->a.cell? ⟨b,o,none⟩=W.cell? ⟨b,o,none⟩)∧(∀b o,b<W.1.size->a.frozen? ⟨b,o,none⟩=W.frozen? ⟨b,o,none⟩):=
 ⟨fun b o h=>c.cell (p:=Ad b o) h,fun b o h=>c.frozen (p:=Ad b o) h⟩
theorem Ea (w:World) (k:Nat) (a:Array Obj):Bz w (Sort.grow (w.drewN k) a):=by
 refine⟨rfl,rfl,rfl,by show w.1.size<=(w.1++a).size;simp,fun i c=>?_⟩;show (w.1++a)[i]?=_;rw[Array.getElem?_append_left c]
theorem qp (B:Nat) (w:World) (k:Nat):Below B w (w.drewN k):=⟨rfl,rfl,rfl,Nat.le_refl _,fun _ _=>rfl⟩
theorem PS:prog.globalNamed "strconv.ErrRange" =some 3:=by kernel_rfl
theorem QP:prog.globalNamed "strconv.ErrSyntax" =some 7:=by kernel_rfl
theorem gPow:prog.globalNamed "internal/strconv.uint64pow10" =some 5:=by kernel_rfl
structure G (w:World):Prop where
 pow:Lib.TabIs prog w "internal/strconv.uint64pow10" .u64 Lib.pow10Tab
 err:∃(a b:Addr) (ca cb:Array Value) (ta tb:TypeId),w.var? prog "strconv.ErrRange" =some #[.iface 360 (.pointer (some a))]∧w.var? prog "strconv.ErrSyntax" =some #[.iface 360 (.pointer (some b))]∧
  b≠a∧w.1[a.block]?=some (.cells ca ta (0,0))∧w.1[b.block]?=some (.cells cb tb (0,0))
theorem BC {w w':World} {B:Nat} (c:Below B w w') (a:w.1.size<=B) {b:Nat} {o:Obj} (h:w.1[b]?=some o):w'.1[b]?=some o:=
 (c.block b (jf (jA.1 h).1 a)).trans h
theorem G.mono' {w w':World} {B:Nat} (n:Below B w w') (m:w.1.size<=B) (h:G w):G w':=by
 obtain⟨f,a,b,e,l,g,o,c,i,d,j,k⟩:=h;exact⟨Joins.tab_stays gPow f n m,a,b,e,l,g,o,Joins.var_stays PS c n m,Joins.var_stays QP i n m,d,BC n m j,BC n m k⟩
theorem G.mono {w w':World} (a:Bz w w') (h:G w):G w':=h.mono' a nLe
def Holds (w:World) (b:Nat) (t:TypeId) (a:Array Value):Prop:=w.1[b]?=some (.cells a t (0,0))
section
variable {w w' : World} {b : Nat} {t : TypeId} {cs : Array Value}
theorem Holds.size (h:Holds w b t cs):b<w.1.size:=(jA.1 h).1
theorem Holds.cell (h:Holds w b t cs) (i:Nat):w.cell? ⟨b,i,none⟩=cs[i]?:=cell_of_row w b i cs t (0,0) h
theorem Holds.free (h:Holds w b t cs) (i:Nat):w.frozen? ⟨b,i,none⟩=false:=by
 have a:w.1[b]?=some (.cells cs t (0,0)):=h;simp[World.frozen?,a]
theorem Holds.fresh (w:World) (t:TypeId) (a:Array Value):Holds (w.alloc (Oc a t)) w.1.size t a:=dB w _
theorem Holds.fresh' {w:World} {b:Nat} (h:w.1.size=b) (t:TypeId) (a:Array Value):Holds (w.alloc (Oc a t)) b t a:=h▸Holds.fresh w t a
theorem Holds.below {B:Nat} (h:Holds w b t cs) (c:Below B w w') (a:b<B):Holds w' b t cs:=(c.block b a).trans h
theorem Holds.later (h:Holds w b t cs) (a:Bz w w'):Holds w' b t cs:=h.below a h.size
theorem Holds.drew (h:Holds w b t cs):Holds w.drew b t cs:=h
theorem Holds.drewN (h:Holds w b t cs) (k:Nat):Holds (w.drewN k) b t cs:=h
theorem Holds.alloc (h:Holds w b t cs) (o:Obj):Holds (w.alloc o) b t cs:=(Below.heap_alloc w o b h.size).trans h
theorem Holds.set (h:Holds w b t cs) (i:Nat) (v:Value):Holds (w.setCell ⟨b,i,none⟩ v) b t (cs.setIfInBounds i v):=by
 have a:w.1[b]?=some (.cells cs t (0,0)):=h;show (w.setCell (Ad b i) v).1[b]?=_;simp[World.setCell,Array.getElem?_modify,a]
theorem Holds.far (h:Holds w b t cs) {p:Addr} (a:b≠p.block) (v:Value):Holds (w.setCell p v) b t cs:=(Below.heap_setCell w p v b a).trans h
theorem Holds.grown {a:Option Nat} (h:Holds w b t cs) (c:w.grownBy w' a) (d:some b≠a):Holds w' b t cs:=(c.block b h.size d).trans h
end
theorem Holds.g1 {w:World} {b:Nat} {t:TypeId} {a:Value} {r:List Value} (h:Holds w b t (List.toArray (a::r))):w.cell? ⟨b,0,none⟩=some a∧(∀i,w.frozen? ⟨b,i,none⟩=false)∧b<w.1.size:=⟨h.cell 0,h.free,h.size⟩
theorem Holds.g2 {w:World} {b:Nat} {t:TypeId} {a c:Value} {r:List Value} (h:Holds w b t (List.toArray (a::c::r))):w.cell? ⟨b,0,none⟩=some a∧w.cell? ⟨b,1,none⟩=some c∧(∀i,w.frozen? ⟨b,i,none⟩=false)∧b<w.1.size:=⟨h.cell 0,h.cell 1,h.free,h.size⟩
theorem Holds.g3 {w:World} {b:Nat} {t:TypeId} {a c d:Value} {r:List Value} (h:Holds w b t (List.toArray (a::c::d::r))):w.cell? ⟨b,0,none⟩=some a∧w.cell? ⟨b,1,none⟩=some c∧w.cell? ⟨b,2,none⟩=some d∧(∀i,w.frozen? ⟨b,i,none⟩=false)∧b<w.1.size:=⟨h.cell 0,h.cell 1,h.cell 2,h.free,h.size⟩
theorem Holds.g4 {w:World} {b:Nat} {t:TypeId} {a c d e:Value} {r:List Value} (h:Holds w b t (List.toArray (a::c::d::e::r))):w.cell? ⟨b,0,none⟩=some a∧w.cell? ⟨b,1,none⟩=some c∧w.cell? ⟨b,2,none⟩=some d∧w.cell? ⟨b,3,none⟩=some e∧(∀i,w.frozen? ⟨b,i,none⟩=false)∧b<w.1.size:=⟨h.cell 0,h.cell 1,h.cell 2,h.cell 3,h.free,h.size⟩
theorem Holds.g5 {w:World} {b:Nat} {t:TypeId} {a c d e f:Value} {r:List Value} (h:Holds w b t (List.toArray (a::c::d::e::f::r))):w.cell? ⟨b,0,none⟩=some a∧w.cell? ⟨b,1,none⟩=some c∧w.cell? ⟨b,2,none⟩=some d∧w.cell? ⟨b,3,none⟩=some e∧w.cell? ⟨b,4,none⟩=some f∧(∀i,w.frozen? ⟨b,i,none⟩=false)∧b<w.1.size:=⟨h.cell 0,h.cell 1,h.cell 2,h.cell 3,h.cell 4,h.free,h.size⟩
theorem Holds.g6 {w:World} {b:Nat} {t:TypeId} {a c d e f g:Value} {r:List Value} (h:Holds w b t (List.toArray (a::c::d::e::f::g::r))):w.cell? ⟨b,0,none⟩=some a∧w.cell? ⟨b,1,none⟩=some c∧w.cell? ⟨b,2,none⟩=some d∧w.cell? ⟨b,3,none⟩=some e∧w.cell? ⟨b,4,none⟩=some f∧w.cell? ⟨b,5,none⟩=some g∧(∀i,w.frozen? ⟨b,i,none⟩=false)∧b<w.1.size:=⟨h.cell 0,h.cell 1,h.cell 2,h.cell 3,h.cell 4,h.cell 5,h.free,h.size⟩
theorem Holds.g7 {w:World} {b:Nat} {t:TypeId} {a c d e f g j:Value} {r:List Value} (h:Holds w b t (List.toArray (a::c::d::e::f::g::j::r))):w.cell? ⟨b,0,none⟩=some a∧w.cell? ⟨b,1,none⟩=some c∧w.cell? ⟨b,2,none⟩=some d∧w.cell? ⟨b,3,none⟩=some e∧w.cell? ⟨b,4,none⟩=some f∧w.cell? ⟨b,5,none⟩=some g∧w.cell? ⟨b,6,none⟩=some j∧(∀i,w.frozen? ⟨b,i,none⟩=false)∧b<w.1.size:=⟨h.cell 0,h.cell 1,h.cell 2,h.cell 3,h.cell 4,h.cell 5,h.cell 6,h.free,h.size⟩
theorem Holds.g8 {w:World} {b:Nat} {t:TypeId} {a c d e f g j k:Value} {r:List Value} (h:Holds w b t (List.toArray (a::c::d::e::f::g::j::k::r))):w.cell? ⟨b,0,none⟩=some a∧w.cell? ⟨b,1,none⟩=some c∧w.cell? ⟨b,2,none⟩=some d∧w.cell? ⟨b,3,none⟩=some e∧w.cell? ⟨b,4,none⟩=some f∧w.cell? ⟨b,5,none⟩=some g∧w.cell? ⟨b,6,none⟩=some j∧w.cell? ⟨b,7,none⟩=some k∧(∀i,w.frozen? ⟨b,i,none⟩=false)∧b<w.1.size:=⟨h.cell 0,h.cell 1,h.cell 2,h.cell 3,h.cell 4,h.cell 5,h.cell 6,h.cell 7,h.free,h.size⟩
theorem Holds.g9 {w:World} {b:Nat} {t:TypeId} {a c d e f g j k l:Value} {r:List Value} (h:Holds w b t (List.toArray (a::c::d::e::f::g::j::k::l::r))):w.cell? ⟨b,0,none⟩=some a∧w.cell? ⟨b,1,none⟩=some c∧w.cell? ⟨b,2,none⟩=some d∧w.cell? ⟨b,3,none⟩=some e∧w.cell? ⟨b,4,none⟩=some f∧w.cell? ⟨b,5,none⟩=some g∧w.cell? ⟨b,6,none⟩=some j∧w.cell? ⟨b,7,none⟩=some k∧w.cell? ⟨b,8,none⟩=some l∧(∀i,w.frozen? ⟨b,i,none⟩=false)∧b<w.1.size:=⟨h.cell 0,h.cell 1,h.cell 2,h.cell 3,h.cell 4,h.cell 5,h.cell 6,h.cell 7,h.cell 8,h.free,h.size⟩
theorem Holds.g10 {w:World} {b:Nat} {t:TypeId} {a c d e f g j k l m:Value} {r:List Value} (h:Holds w b t (List.toArray (a::c::d::e::f::g::j::k::l::m::r))):w.cell? ⟨b,0,none⟩=some a∧w.cell? ⟨b,1,none⟩=some c∧w.cell? ⟨b,2,none⟩=some d∧w.cell? ⟨b,3,none⟩=some e∧w.cell? ⟨b,4,none⟩=some f∧w.cell? ⟨b,5,none⟩=some g∧w.cell? ⟨b,6,none⟩=some j∧w.cell? ⟨b,7,none⟩=some k∧w.cell? ⟨b,8,none⟩=some l∧w.cell? ⟨b,9,none⟩=some m∧(∀i,w.frozen? ⟨b,i,none⟩=false)∧b<w.1.size:=⟨h.cell 0,h.cell 1,h.cell 2,h.cell 3,h.cell 4,h.cell 5,h.cell 6,h.cell 7,h.cell 8,h.cell 9,h.free,h.size⟩
theorem Holds.g11 {w:World} {b:Nat} {t:TypeId} {a c e f g j k l m n d:Value} {r:List Value} (h:Holds w b t (List.toArray (a::c::e::f::g::j::k::l::m::n::d::r))):w.cell? ⟨b,0,none⟩=some a∧w.cell? ⟨b,1,none⟩=some c∧w.cell? ⟨b,2,none⟩=some e∧w.cell? ⟨b,3,none⟩=some f∧w.cell? ⟨b,4,none⟩=some g∧w.cell? ⟨b,5,none⟩=some j∧w.cell? ⟨b,6,none⟩=some k∧w.cell? ⟨b,7,none⟩=some l∧w.cell? ⟨b,8,none⟩=some m∧w.cell? ⟨b,9,none⟩=some n∧w.cell? ⟨b,10,none⟩=some d∧(∀i,w.frozen? ⟨b,i,none⟩=false)∧b<w.1.size:=⟨h.cell 0,h.cell 1,h.cell 2,h.cell 3,h.cell 4,h.cell 5,h.cell 6,h.cell 7,h.cell 8,h.cell 9,h.cell 10,h.free,h.size⟩
theorem Holds.g12 {w:World} {b:Nat} {t:TypeId} {a c f g j k l m n o d e:Value} {r:List Value} (h:Holds w b t (List.toArray (a::c::f::g::j::k::l::m::n::o::d::e::r))):w.cell? ⟨b,0,none⟩=some a∧w.cell? ⟨b,1,none⟩=some c∧w.cell? ⟨b,2,none⟩=some f∧w.cell? ⟨b,3,none⟩=some g∧w.cell? ⟨b,4,none⟩=some j∧w.cell? ⟨b,5,none⟩=some k∧w.cell? ⟨b,6,none⟩=some l∧w.cell? ⟨b,7,none⟩=some m∧w.cell? ⟨b,8,none⟩=some n∧w.cell? ⟨b,9,none⟩=some o∧w.cell? ⟨b,10,none⟩=some d∧w.cell? ⟨b,11,none⟩=some e∧(∀i,w.frozen? ⟨b,i,none⟩=false)∧b<w.1.size:=⟨h.cell 0,h.cell 1,h.cell 2,h.cell 3,h.cell 4,h.cell 5,h.cell 6,h.cell 7,h.cell 8,h.cell 9,h.cell 10,h.cell 11,h.free,h.size⟩
abbrev iP5:=info_parts (by kernel_rfl:(prog.info? 5).map (fun i=>(i.zero,i.size,i.bytes))=some (some (.int .u8 0),1,1))
abbrev Vv:=info_parts (by kernel_rfl:(prog.info? 127).map (fun i=>(i.zero,i.size,i.bytes))=some (some (.agg #[.slice none 0 0,.slice none 0 0]),2,48))
abbrev iP36:=info_parts (by kernel_rfl:(prog.info? 36).map (fun i=>(i.zero,i.size,i.bytes))=some (some (.agg #[.int .i64 0,.int .i64 0,.int .i64 0,.int .i64 0,.complex .f64 0 0]),5,48))
abbrev iP3:=info_parts (by kernel_rfl:(prog.info? 3).map (fun i=>(i.zero,i.size,i.bytes))=some (some (.int .i64 0),1,8))
abbrev iP243:=info_parts (by kernel_rfl:(prog.info? 243).map (fun i=>(i.zero,i.size,i.bytes))=some (some (.agg #[.int .i64 0,.int .i64 0,.nilFunc]),3,24))
abbrev Vw:=info_parts (by kernel_rfl:(prog.info? 129).map (fun i=>(i.zero,i.size,i.bytes))=some (some (.agg #[.int .u8 0,.slice none 0 0,.slice none 0 0,.int .i64 0,.int .u8 0]),5,72))
theorem xH {P:Program} {g:Func} {p q:Tmp} {f:TypeId} (h:g.results=#[.cell p f,.tmp q]) (e:Array Value) (w:World) (b:Nat) (t:TypeId) (c:Array Value) (d:TypeDesc)
  (l:e.getD p undef=Vp b 0) (i:Holds w b t c) (m:P.underlying f=some d) (j:(match d with|.struct _|.array _ _=>true|_=>false)=true) (k:(P.info? f).map (·.size)=some c.size):
  (results g e).run P w= .ok (.tuple #[.agg c,e.getD q undef]) w:=by
 have a:e[p]?.getD undef=Vp b 0:=by simpa using l
 simp[results,h,a,asAddr,run_loadVar_row w b t f c (0,0) d i m j k]
theorem zA.news {w:World} {f:IntKind} {d:Addr} {l:List Int} (h:zA w f (some d) l):∀j u,(l.map (Value.int f))[j]?=some u->w.cell? (d.add j)=some u:=by
 intro j u a;obtain⟨_,rfl|⟨b,i,g,c⟩⟩:=h
 ·simp at a
 ·obtain rfl:=Option.some.inj g;have e:j<l.length:=by
   have:=(jG.1 a).1;simpa using this
  rw[Go.WideShapes.add_plain,c j e];simp[e]at a⊢;exact a
theorem zK {P:Program} {w:World} {I:Array Oper} {J:List Oper} {o:Oper} {a:Act} {Q:Exit->Act->World->Prop} (y:o.guard=none) (s x:Operand) (t:TypeId)
  (C:o.op= .call {callee:= .builtin .append,args:=#[s,x],argTypes:=#[t,t]})
  (j:Nat) (e:TypeId) (i:TypeInfo) (z:Value) (q:Nat) (F:P.underlying t=some (.slice e)) (A:P.info? e=some i) (U:i.zero=some z)
  (T:i.size=1) (N:i.bytes=q) (V:z.cells.size=1) (u:IntKind)
  (v:Value) (n:Nat) (p:List Value) (D:a.eval s=v) (r:w.ownsRow j e 1 v n p)
  (k:Option Addr) (m c:Nat) (l:List Int) (H:a.eval x=Sq k m c) (B:l.length=m) (E:zA w u k l) (S:k=none->c=0)
  (K:n+m<=maxLen) (O:(n+m)*q<=140737488355328) (M:j<=w.1.size)
  (h:∀d w',w'.ownsRow j e 1 d (n+m) (p++l.map (Value.int u))->w.grownBy w' v.ownBlock->wpList P I Q J (a.put o.dst d) w'):wpList P I Q (o::J) a w:=by
 cases k with
 |none=>
   have R:l=[]:=by
    rcases E.2 with h|⟨b,W,L,_⟩
    ·exact h
    ·cases L
   subst R;obtain rfl:m=0:=by simpa using B.symm
   obtain rfl:=S rfl;refine wpList_append_own_none y s x t C j e i 1 F A v n p D r H (h v w ?_ ⟨rfl,rfl,rfl,Nat.le_refl _,fun _ _ _=>rfl⟩);simpa using r
 |some ad=>
   exact wpList_append_own _ y s x t C j e i z 1 q F A U T N V (by decide) v n p D r ad m c (l.map (Value.int u)) H (by simp[B]) E.news (by simp[Value.oneCell']) K O M
    (fun d w' g f _=>h d w' g f)
theorem zA.none (w:World) (c:IntKind) (a:Option Addr):zA w c a []:=⟨by simp,.inl rfl⟩
end Go.Proofs.YtnmpcdnbklmhkaaGreatDoor
