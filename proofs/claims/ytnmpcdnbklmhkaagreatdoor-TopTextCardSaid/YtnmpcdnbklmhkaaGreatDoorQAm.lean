import Derived.Test.YtnmpcdnbklmhkaaGreatDoorQAe
import Derived.Maps.OwnOps
import Derived.Maps.Ext
import Derived.Test.YtnmpcdnbklmhkaaGreatDoorQAd
import Derived.Deep.RegionHeld3
import Derived.Deep.DrawnRows
namespace Go.Proofs.YtnmpcdnbklmhkaaGreatDoor
open Go.Proofs.Tryz Go.RowKit
set_option maxRecDepth 100000
set_option linter.all false
set_option maxHeartbeats 8000000
section
open Go.Maps
attribute [local go_sem] Oper.semAt_some
attribute [local go_sem ↓] Go.wp_at_zero Go.wp_at_succ
structure Rc where
 kind:Int
 ev:Ev
 src:Int
 ts:Int
deriving DecidableEq
def rcV (r:Rc):List Value:=Vu r.kind::(evV r.ev++[Vi r.src,Vi r.ts])
def rcA (r:Rc):Value:= .agg (rcV r).toArray
def RcOk (r:Rc):Prop:=r=⟨1,l1,0,0⟩∨r=⟨1,l2,0,0⟩∨r=⟨2,ev0,0,4⟩
theorem RcOk.ev {r:Rc} (h:RcOk r):evWf r.ev:=by rcases h with rfl|rfl|rfl<;>simp[evWf]
theorem RcOk.kd {r:Rc} (h:RcOk r):r.kind=1∨r.kind=2:=by rcases h with rfl|rfl|rfl<;>simp
def Dz (v:Value):Option (DataW Value×List MemPlace):=some (.held v,[])
theorem ko {v u:Value} {a:List MemPlace} (h:Dz v=some (.held u,a)):v=u:=by
 unfold Dz at h;simp only[Option.some.injEq,Prod.mk.injEq,DataW.held.injEq]at h;exact h.1
def GW (r:Rc) (a:Nat):Value:= .agg #[Vi r.ev.src,Vi r.ev.ts,.func (.func 238) #[] #[Vp a 0]]
def GV (r:Rc) (a c:Nat):Value:= .agg #[Vi r.src,Vi r.ts,.func (.func 239) #[] #[Vp c 0,Vp a 0]]
def kZ (r:Rc) (a c:Nat):DataW Value:=((DataW.map []).put (.int .u8 1) (.held (GW r a))).put (.int .u8 2) (.held (GV r a c))
theorem Le (r:Rc) (h:evWf r.ev) (w:World):Cs 203 #[rcA r] w fun e w'=>∃b W X,e=Rt (.map (some b))∧w'.ownsMap prog 5 Dz b 2 (kZ r W X)∧
  Holds w' W 38 (rcV r).toArray∧Holds w' X 4 #[Vb (sameE r.ev ev0)]∧Bz w w':=by
 have q:=fun w=>Ac r.ev ev0 h (.inr rfl) w;obtain⟨k,⟨N,M,S,P,R,o⟩,m,l⟩:=r;unfold kZ GW GV;simp only[rcA,rcV,evA,evV,ev0,jE,jD]at*;generalize sameE ⟨N,M,S,P,R,o⟩ ⟨0,0,0,0,0,0⟩=Q at*;have C:= @run_makeMap prog;have F:=hmf1;have z:=hiD q;clear q;have T:=Holds.fresh w 38 #[Vu k,Vi N,Vi M,Vi S,Vi P,Vc R o,Vi m,Vi l];have c:=bA w (Oc #[Vu k,Vi N,Vi M,Vi S,Vi P,Vc R o,Vi m,Vi l] 38);go_enter func203,ntmps203;go_wp2_with fail;generalize w.alloc (Oc #[Vu k,Vi N,Vi M,Vi S,Vi P,Vc R o,Vi m,Vi l] 38)=a4 at*;refine(z.out _).mono ?_;rintro e i ⟨rfl,a⟩;have U:=((T.later a).alloc (Oc #[Vb Q] 4)).alloc (.map #[] 0);have y:=(Holds.fresh i 4 #[Vb Q]).alloc (.map #[] 0);have g:=(((c.trans (a.mono c.size)).alloc (jS c.size a.size) (Oc #[Vb Q] 4)).alloc (by have:=c.size;have:=a.size;simp;omega) (.map #[] 0));have d:=World.ownsMap_made (i.alloc (Oc #[Vb Q] 4)) prog 5 Dz;rw[jl]at d;have A:w.1.size<=i.1.size:=jS c.size a.size;have D:=(T.later a).size;clear T c a z;obtain⟨-,I,K,-⟩:=U.g3;obtain⟨a1,a3,v,n⟩:=d.update (t:=272) (key:= .int .u8 1) (val:= .agg #[Vi M,Vi N,.func (.func 238) #[] #[Vp w.1.size 0]]) (int_keyed underlying5) underlying272 (by unfold maxLen;omega) (keyOf_int_mk underlying5 (by decide)) rfl;have V:=U.grown n (by simp;omega);have x:=y.grown n (by simp);obtain⟨-,-,-,-,-,-,a0,J,-⟩:=V.g8;obtain⟨L,a2,u,O⟩:=v.update (t:=272) (key:= .int .u8 2) (val:= .agg #[Vi m,Vi l,.func (.func 239) #[] #[Vp i.1.size 0,Vp w.1.size 0]]) (int_keyed underlying5) underlying272 (by unfold maxLen;omega) (keyOf_int_mk underlying5 (by decide)) rfl;have Z:=V.grown O (by simp;omega);have s:=x.grown O (by simp);have f:=(g.grown n g.size (fun j e=>by cases e;omega)).grown O (g.grown n g.size (fun j e=>by cases e;omega)).size (fun j e=>by cases e;omega);have E:=hiD Z;have B:=hiD s;have H:=hiD u;have p:=hiD f;clear U y g d v n V x u O Z s f;go_wp2_with fail;go_ret;exact⟨_,_,_,rfl,H.out,E.out,B.out,p.out⟩
def j8 (r:Rc) (a c:Nat):Value:=if r.kind=1 then GW r a else GV r a c
theorem Q5 (w:World):(zeroValue 243).run prog w= .ok (.agg #[Vi 0,Vi 0,.nilFunc]) w:=zeroValue243 w
theorem Pv (r:Rc) (f g b:Nat) (w:World) (h:w.ownsMap prog 5 Dz b 2 (kZ r f g)) (d:r.kind=1∨r.kind=2):
  (Instr.lookup 272 (.map (some b)) (.int .u8 r.kind) true).run prog w= .ok (.tuple #[j8 r f g,Vb true]) w:=by
 obtain⟨k,i,l,m⟩:=r;have c:(Lit.int .u8 k).wf=true:=by rcases d with rfl|rfl<;>rfl
 obtain⟨v,j,a,e⟩:=h.look_ok (t:=272) (int_keyed underlying5) underlying272 (Q5 w) (zd:= .held (.agg #[.int .i64 0,.int .i64 0,.nilFunc])) rfl (keyOf_int_mk underlying5 c);rw[a];clear a h c;rcases d with rfl|rfl<;>simp[kZ,DataW.atKey,DataW.put,DataW.insert,Lit.sameKey,Lit.before]at e<;>rw[ko e]<;>simp[j8,kZ,has,DataW.put,DataW.insert,Lit.sameKey,Lit.before]
end
section
attribute [local go_sem] Oper.semAt_some
attribute [local go_sem ↓] Go.wp_at_zero Go.wp_at_succ
theorem xD {w:World} {a b t u:Nat} {c d:Array Value} (h:Holds w a t c) (g:Holds w b u d) (e:t≠u):a≠b:=by
 rintro rfl;unfold Holds at h g;rw[h]at g;simp at g;exact e g.2
def ToldAt (r:Rc) (d:Array Value) (W:World):Prop:=∃a c,d=#[j8 r a c]∧Holds W a 38 (rcV r).toArray∧Holds W c 4 #[Vb (sameE r.ev ev0)]
theorem Vl (r:Rc):∃(S T:Int) (g:Nat) (c:Nat->Nat->Array Value),∀a b,j8 r a b= .agg #[Vi S,Vi T,.func (.func g) #[] (c a b)]:=by
 unfold j8;split
 ·exact⟨_,_,_,fun a _=>#[Vp a 0],fun _ _=>rfl⟩
 ·exact⟨_,_,_,fun a b=>#[Vp b 0,Vp a 0],fun _ _=>rfl⟩
theorem Vm {w e:World} {l m:Nat} {i j:Array Value} (f:Holds e l 38 i) (g:Holds e m 4 j) (k:Bz w e) (A B C:Value):
  (∃d,d=e.alloc (Oc #[A,B,C] 243)∧Holds d e.1.size 243 #[A,B,C]∧Holds d l 38 i∧Holds d m 4 j∧Bz w d)∧
  ∀a b c,Holds e w.1.size 243 #[a,b,c]->∃d,d=((e.setCell ⟨w.1.size,0,none⟩ A).setCell ⟨w.1.size,1,none⟩ B).setCell ⟨w.1.size,2,none⟩ C∧Holds d w.1.size 243 #[A,B,C]∧Holds d l 38 i∧Holds d m 4 j∧Bz w d:=
 ⟨⟨_,rfl,Holds.fresh e _ _,f.alloc _,g.alloc _,k.alloc k.size _⟩,fun _ _ _ z=>⟨_,rfl,((z.set 0 _).set 1 _).set 2 _,((f.far (xD f z (by decide)) _).far (xD f z (by decide)) _).far (xD f z (by decide)) _,
   ((g.far (xD g z (by decide)) _).far (xD g z (by decide)) _).far (xD g z (by decide)) _,((k.setCell nLe _).setCell nLe _).setCell nLe _⟩⟩
theorem JG (r:Rc) (n:RcOk r) (h:Nat):Q4 prog 202 #[Vp h 0] (fun _ vs W=>ToldAt r vs W) 1 (fun W=>Holds W h 38 (rcV r).toArray):=by
 intro ac a8 Jx W M a3 hF N j;have V:=hiD (hF 0 W j);have a2:=hiD (show ∀m,Bz W m->Cs 203 #[rcA r] m fun e w'=>∃b d f,e=Rt (.map (some b))∧w'.ownsMap prog 5 Dz b 2 (kZ r d f)∧Holds w' d 38 (rcV r).toArray∧Holds w' f 4 #[Vb (sameE r.ev ev0)]∧Bz W w'∧Bz m w' from
  fun m P=>(Le r n.ev m).mono fun _ _ ⟨b,d,f,I,K,C,h4,z⟩=>⟨b,d,f,I,K,C,h4,P.trans (z.mono P.size),z⟩)
 have F:=fun d f b w a4=>Pv r d f b w a4 n.kd;obtain⟨S,T,g,O,c⟩:=Vl r;simp only[c]at F;have HY:=hiD (fun W1 d f I K C=>N 0 #[.agg #[Vi S,Vi T,.func (.func g) #[] (O d f)]] W1 (by decide) I ⟨d,f,by rw[c],K,C⟩);have HJ:=hiD M;have s:=hiD F;have a1:=hiD j;clear hF N M a3 j c F n;obtain⟨k,⟨J,H,E,B,D,R⟩,X,Q⟩:=r;simp only[rcA,rcV,evV,jE,jD]at*;refine callsIn_of_wp func202 rfl trivial ?_ rfl;simp only[ntmps202,jW,jF,jO,Nat.reduceAdd,Nat.reduceSub,jR,jQ,jX,jU,jD,jE];obtain⟨p0,p1,p2,p3,p4,p5,p6,p7,-⟩:=V.out.g8;have l:=V.out.size;have ab:=hstB;have q:=hiD (fun w' (a:Bz W w')=>(⟨a,((vk a).1 _ _ l).trans p0,((vk a).1 _ _ l).trans p1,((vk a).1 _ _ l).trans p2,((vk a).1 _ _ l).trans p3,((vk a).1 _ _ l).trans p4,((vk a).1 _ _ l).trans p5,((vk a).1 _ _ l).trans p6,((vk a).1 _ _ l).trans p7⟩:Bz W w'∧Cq w' h 0 (Vu k)∧Cq w' h 1 (Vi J)∧Cq w' h 2 (Vi H)∧Cq w' h 3 (Vi E)∧Cq w' h 4 (Vi B)∧Cq w' h 5 (Vc D R)∧Cq w' h 6 (Vi X)∧Cq w' h 7 (Vi Q)));gi_wp2;refine wpIn_wide.2 ?_;go_region_held3 (fun w'=>Bz W w'∧Cq w' h 0 (Vu k)∧Cq w' h 1 (Vi J)∧Cq w' h 2 (Vi H)∧Cq w' h 3 (Vi E)∧Cq w' h 4 (Vi B)∧Cq w' h 5 (Vc D R)∧Cq w' h 6 (Vi X)∧Cq w' h 7 (Vi Q))
  (first|exact q.out _ bRf.drew|exact q.out _ a|exact q.out _ bB.drew|exact q.out _ (a.alloc a.size _)|exact q.out _ (((a.setCell (p:=Ad _ 0) nLe _).setCell (p:=Ad _ 1) nLe _).setCell (p:=Ad _ 2) nLe _)|exact q.out _ ((((a.alloc a.size _).setCell (p:=Ad _ 0) a.size _).setCell (p:=Ad _ 1) a.size _).setCell (p:=Ad _ 2) a.size _))
  ((go_at_call 203;(refine(a2.out _ (And.left (by assumption))).mono ?_);rintro e v ⟨b,d,f,rfl,u,a0,A,a,a5⟩
    try (have o:=(Holds.fresh W 243 #[Vi 0,Vi 0,.nilFunc]).drew.later a5;have q0:Cq v W.1.size 0 (Vi 0):=o.cell 0;have q1:Cq v W.1.size 1 (Vi 0):=o.cell 1;have q2:Cq v W.1.size 2 .nilFunc:=o.cell 2;have qf:=o.free;have ql:=o.size)
    have ad:=s.out d f b v u;have ae:=s.out d f b _ (u.alloc (Oc #[Vi 0,Vi 0,.nilFunc] 243))))
 all_goals
  have x:=Vm a0 A a (Vi S) (Vi T) (.func (.func g) #[] (O d f))
  first
   |(obtain⟨U,i,L,y,t,Z⟩:=x.1;rw[<-i])
   |(obtain⟨U,i,L,y,t,Z⟩:=x.2 _ _ _ o;rw[<-i])
  clear x i;obtain⟨y0,y1,y2,-⟩:=L.g3;obtain⟨fn,af,a9,aa,hy,hR⟩:=HY.out U d f ((HJ.out 0).on a1.out Z) y t;gi_wp2;refine⟨rfl,hR.mono ?_⟩;rintro e m (⟨rfl,a7⟩|⟨rfl,a6⟩)
  all_goals
   gi_wp2;go_end0
   first|exact⟨⟨_,rfl⟩,.inl a7⟩|exact⟨⟨_,rfl⟩,.inr ⟨0,by decide,a6⟩⟩
theorem Vx {W c:World} (h:Bz W c):KeepsOthers W c:=
 ⟨h.size,fun k _ a _=>(h.block k (jA.1 a).1).trans a⟩
theorem FW (r:Rc) (w:World):Cs 167 #[rcA r] w fun e w'=>e=Rt (.func (.func 202) #[] #[Vp w.1.size 0])∧w'=w.alloc (Oc (rcV r).toArray 38):=by
 obtain⟨k,⟨l,j,i,f,g,c⟩,d,b⟩:=r;simp only[rcA,rcV,evV,jE,jD]at*;have a:=hmf1;go_enter func167,ntmps167;go_wp2_with fail;go_ret;exact⟨rfl,rfl⟩
theorem Gg:En0 202:=enters_of func202 rfl rfl
theorem S3 (e:Ev) (m:e=l1∨e=l2) (o:Nat) (w:World) (n:Holds w o 38 (rcV ⟨1,e,0,0⟩).toArray):Cs 238 #[Vp o 0] w (Rw w (Vb true)):=by
 have c:=hst1;have b:=hiD (by simpa[evWf.ok (m.imp id .inl:evWf e)]using Cd e (m.imp id .inl));obtain⟨-,d,g,i,f,j,k,h,-,p⟩:=n.g8;clear n;rcases m with rfl|rfl
 all_goals
  simp[rcV,evV,evA,l1,l2]at d g i f j k h b;go_enter func238,ntmps238;go_wp2_with fail;refine(b.out _).mono ?_;rintro e l ⟨rfl,a⟩;go_wp2_with fail;go_ret;exact⟨rfl,bB.trans (a.mono (by simp))⟩
theorem SY (e f:Nat) (w:World) (c:Holds w e 38 (rcV ⟨2,ev0,0,4⟩).toArray) (d:Holds w f 4 #[Vb (sameE ev0 ev0)]):Cs 239 #[Vp f 0,Vp e 0] w (Rw w (Vb true)):=by
 have a:=c.cell 7;have b:=d.cell 0;simp[rcV,evV,sameE]at a b;clear c d;go_enter func239,ntmps239;go_wp2_with fail;go_ret;exact⟨rfl,Below.refl _ _⟩
theorem Vj (r:Rc) (f:RcOk r):∃(T:Int) (g:Nat) (e:Nat->Nat->Array Value),(∀a b,j8 r a b= .agg #[Vi 0,Vi T,.func (.func g) #[] (e a b)])∧(∀d w,(callFunc g d).run prog w= .ok (.enter g d) w)∧
  ∀a b w,Holds w a 38 (rcV r).toArray->Holds w b 4 #[Vb (sameE r.ev ev0)]->Cs g (e a b) w (Rw w (Vb true)):=by
 rcases f with rfl|rfl|rfl
 ·exact⟨3,238,fun a _=>#[Vp a 0],fun _ _=>rfl,enters_of func238 rfl rfl,fun a _ w c _=>S3 _ (.inl rfl) a w c⟩
 ·exact⟨2,238,fun a _=>#[Vp a 0],fun _ _=>rfl,enters_of func238 rfl rfl,fun a _ w c _=>S3 _ (.inr rfl) a w c⟩
 ·exact⟨4,239,fun a b=>#[Vp b 0,Vp a 0],fun _ _=>rfl,enters_of func239 rfl rfl,SY⟩
theorem Lf (r:Rc) (O:RcOk r) (w:World):Cs 352 #[rcA r,Vi 1] w (Rw w (Vb true)):=by
 have E:=hiD (fun w=>FW r w);have A:=hiD (fun Z=>JG r O Z);obtain⟨T,g,B,a,-⟩:=Vj r O;have H:=hiD a;clear a O;refine qH func352 rfl ?_;simp only[ntmps352,jW,jF,jO,Nat.reduceAdd,Nat.reduceSub,jR,jQ,jX,jU,jD,jE];obtain⟨k,⟨K,F,y,e,n,j⟩,f,d⟩:=r;simp only[rcA,rcV,evV,jE,jD]at E⊢;go_wp2_with fail;refine(E.out _).mono ?_;rintro ab a8 ⟨rfl,rfl⟩;go_wp2_with fail;obtain⟨S,X,a1,a7,a5⟩:=iP243;refine kF rfl Gg (A.out (w.1.size+1+1+1)) (by rintro i Q W ⟨m,p,rfl,_⟩;rfl)
  (fun i W=>i=0∧Holds W (w.1.size+1+1+1) 38 (rcV ⟨k,⟨K,F,y,e,n,j⟩,f,d⟩).toArray∧Holds W (w.1.size+1) 3 #[Vi 1]∧Holds W (w.1.size+1+1) 4 #[Vb false]∧Bz w W)
  (fun c _ W=>c= .ret∧Holds W (w.1.size+1+1) 4 #[Vb true]∧Bz w W) ?_ ?_ ?_ ?_
  (fun _ z W=>∃b m p,w.1.size+1+1+1<b∧Holds W b 243 #[Vi 0,Vi T,.func (.func g) #[] (B m p)]∧
   z={tmps:=#[.agg #[Vu k,Vi K,Vi F,Vi y,Vi e,Vc n j,Vi f,Vi d],Vi 1,Vp w.1.size 0,Vp (w.1.size+1) 0,Vp (w.1.size+1+1) 0,Vp b 0,.agg #[Vu k,Vi K,Vi F,Vi y,Vi e,Vc n j,Vi f,Vi d],.func (.func 202) #[] #[Vp (w.1.size+1+1+1) 0],.agg #[Vi 0,Vi T,.func (.func g) #[] (B m p)],undef,undef,undef,undef,undef,undef,undef,undef,undef],defers:=[]})
  ?_ ?_ ?_ ?_ ?_
 ·intro i;exact(qe.pure _).and<|(qi _ _ _).and ((qi _ _ _).and ((qi _ _ _).and (qe.below (by simp;omega) nLe)))
 ·intro c i;exact(qe.pure _).and ((qi _ _ _).and (qe.below (by simp;omega) nLe))
 ·rintro i W h;exact h.2.1
 ·refine⟨rfl,?_,?_,?_,?_⟩
  ·have:=Holds.fresh (((w.alloc (Oc (rcV ⟨k,⟨K,F,y,e,n,j⟩,f,d⟩).toArray 38)).alloc (Oc #[Vi 1] 3)).alloc (Oc #[Vb false] 4)) 38 (rcV ⟨k,⟨K,F,y,e,n,j⟩,f,d⟩).toArray;simpa[jl,rcV,evV]using this
  ·have:=((Holds.fresh (w.alloc (Oc (rcV ⟨k,⟨K,F,y,e,n,j⟩,f,d⟩).toArray 38)) 3 #[Vi 1]).alloc (Oc #[Vb false] 4)).alloc (Oc (rcV ⟨k,⟨K,F,y,e,n,j⟩,f,d⟩).toArray 38);simpa[jl,rcV,evV]using this
  ·have:=(Holds.fresh ((w.alloc (Oc (rcV ⟨k,⟨K,F,y,e,n,j⟩,f,d⟩).toArray 38)).alloc (Oc #[Vi 1] 3)) 4 #[Vb false]).alloc (Oc (rcV ⟨k,⟨K,F,y,e,n,j⟩,f,d⟩).toArray 38);simpa[jl,rcV,evV]using this
  ·exact((bB.alloc (by simp) _).alloc (by simp;omega) _).alloc (by simp;omega) _
 ·intro i z;exact qe.ex fun b=>qe.ex fun m=>qe.ex fun p=>(qe.pure _).and ((qi _ _ _).and (qe.pure _))
 ·rintro l i Q W a2 X q ⟨m,p,rfl,a4,a3⟩ s;have a0:w.1.size+1+1+1<W.1.size:=q.2.1.size;have u:=fun o=>(⟨q.1,q.2.1.alloc o,q.2.2.1.alloc o,q.2.2.2.1.alloc o,q.2.2.2.2.alloc q.2.2.2.2.size o⟩:_∧_∧_∧_∧_);have P:=hiD u;clear u q;rw[H.out m p];have a6:=hstB;gi_wp2;exact s _ _ ((KeepsOthers.alloc W _).from _) (P.out _) ⟨W.1.size,m,p,a0,Holds.fresh _ _ _,rfl⟩
 ·rintro l i z W hl x ⟨_,L,R,M,U⟩ ⟨b,m,p,hb,V,rfl⟩;have c0:Cq W b 0 (Vi 0):=V.cell 0;have aa:Cq W (w.1.size+1) 0 (Vi 1):=R.cell 0;have c2:Cq W (w.1.size+1+1) 0 (Vb false):=M.cell 0;have a9:=R.free;have f2:=M.free;have t:=hiD (⟨KeepsOthers.setCell W (Ad (w.1.size+1+1) 0) (Vb true),M.set 0 (Vb true),U.setCell (by simp;omega) (Vb true)⟩:KeepsOthers W (W.setCell (Ad (w.1.size+1+1) 0) (Vb true))∧Holds (W.setCell (Ad (w.1.size+1+1) 0) (Vb true)) (w.1.size+1+1) 4 #[Vb true]∧Bz w (W.setCell (Ad (w.1.size+1+1) 0) (Vb true)));clear L R M U;gi_wp2;exact⟨t.out.1.from _,rfl,t.out.2⟩
 ·rintro D W C ⟨S,_⟩ s;cases S
 ·rintro D c i W C x ⟨rfl,J,N⟩ s;have I:=qW (c:= .deferred none) s rfl (J.cell 0);apply wp_ret;refine qZ (v:=Vb true) s (by simp[results,results352,go_sem,I]) ⟨rfl,qB N s (by simp at C;omega)⟩
theorem kG (r:Rc) (R:RcOk r) (w:World):Cs 132 #[rcA r] w (Rw w (Vb true)):=by
 have Q:=hiD (fun w=>FW r w);have F:=hiD (fun tb=>JG r R tb);obtain⟨T,g,M,d,eg,a⟩:=Vj r R;have Z:=hiD d;have H:=hiD a;clear d a R;refine qH func132 rfl ?_;simp only[ntmps132,jW,jF,jO,Nat.reduceAdd,Nat.reduceSub,jR,jQ,jX,jU,jD,jE];obtain⟨k,⟨L,K,n,e,h,q⟩,t,s⟩:=r;simp only[rcA,rcV,evV,jE,jD]at Q⊢;go_wp2_with fail;refine zE 0 rfl ?_;go_wp2_with fail;refine(Q.out _).mono ?_;rintro a6 z ⟨rfl,rfl⟩;go_wp2_with fail;obtain⟨U,hi,a0,aa,a9⟩:=iP243;refine kF rfl Gg (F.out (w.1.size+1+1)) (by rintro i a5 W ⟨f,j,rfl,_⟩;rfl)
  (fun i W=>i=0∧Holds W (w.1.size+1+1) 38 (rcV ⟨k,⟨L,K,n,e,h,q⟩,t,s⟩).toArray∧Holds W (w.1.size+1) 4 #[Vb false]∧Bz w W)
  (fun c _ W=>c= .ret∧Holds W (w.1.size+1) 4 #[Vb true]∧Bz w W) ?_ ?_ ?_ ?_
  (fun _ E W=>∃b f j,(w.1.size+1+1)<b∧Holds W b 243 #[Vi 0,Vi T,.func (.func g) #[] (M f j)]∧Holds W f 38 (rcV ⟨k,⟨L,K,n,e,h,q⟩,t,s⟩).toArray∧Holds W j 4 #[Vb (sameE ⟨L,K,n,e,h,q⟩ ev0)]∧
   E={tmps:=#[.agg #[Vu k,Vi L,Vi K,Vi n,Vi e,Vc h q,Vi t,Vi s],Vp w.1.size 0,Vp (w.1.size+1) 0,Vp b 0,.agg #[Vu k,Vi L,Vi K,Vi n,Vi e,Vc h q,Vi t,Vi s],.func (.func 202) #[] #[Vp (w.1.size+1+1) 0],.agg #[Vi 0,Vi T,.func (.func g) #[] (M f j)],undef,undef,undef,undef,undef,undef,undef,undef,undef,undef,undef],defers:=[]})
  ?_ ?_ ?_ ?_ ?_
 ·intro i;exact(qe.pure _).and<|(qi _ _ _).and ((qi _ _ _).and ((qe.below (by simp;omega) nLe)))
 ·intro c i;exact(qe.pure _).and ((qi _ _ _).and (qe.below (by simp;omega) nLe))
 ·rintro i W a7;exact a7.2.1
 ·refine⟨rfl,?_,?_,?_⟩
  ·have:=Holds.fresh ((w.alloc (Oc (rcV ⟨k,⟨L,K,n,e,h,q⟩,t,s⟩).toArray 38)).alloc (Oc #[Vb false] 4)) 38 (rcV ⟨k,⟨L,K,n,e,h,q⟩,t,s⟩).toArray;simpa[jl,rcV,evV]using this
  ·have:=(Holds.fresh (w.alloc (Oc (rcV ⟨k,⟨L,K,n,e,h,q⟩,t,s⟩).toArray 38)) 4 #[Vb false]).alloc (Oc (rcV ⟨k,⟨L,K,n,e,h,q⟩,t,s⟩).toArray 38);simpa[jl,rcV,evV]using this
  ·exact(bB.alloc (by simp) _).alloc (by simp;omega) _
 ·intro i E;exact qe.ex fun b=>qe.ex fun f=>qe.ex fun j=>(qe.pure _).and ((qi _ _ _).and ((qi _ _ _).and ((qi _ _ _).and (qe.pure _))))
 ·rintro l i a5 W a8 hi x ⟨f,j,rfl,p,m⟩ y;have I:(w.1.size+1+1)<W.1.size:=x.2.1.size;have B:=fun o=>(⟨x.1,x.2.1.alloc o,x.2.2.1.alloc o,x.2.2.2.alloc x.2.2.2.size o⟩:_∧_∧_∧_);have X:=hiD B;clear B x;rw[Z.out f j];have ab:=hstB;gi_wp2;exact y _ _ ((KeepsOthers.alloc W _).from _) (X.out _) ⟨W.1.size,f,j,I,Holds.fresh _ _ _,p.alloc _,m.alloc _,rfl⟩
 ·rintro l i E W hl C ⟨_,a4,S,V⟩ ⟨b,f,j,hb,hh,p,m,rfl⟩;obtain⟨c0,-,c1,-⟩:=hh.g3;obtain⟨c2,f2,-⟩:=S.g1;have a1:=hiD (H.out f j W p m);have a2:=hiD S;have P:=hiD V;clear a4 S V p m;gi_wp2;refine⟨trivial,rfl,(CallsIn.inRound l (callsIn_wide.2 a1.out)).mono ?_⟩;rintro a6 z ⟨rfl,u⟩;have J:=a2.out.later u;have N:=P.out.trans (u.mono P.out.size);obtain⟨d2,g2,-⟩:=J.g1;have A:=hiD (⟨(Vx u).trans (KeepsOthers.setCell z (Ad (w.1.size+1) 0) (Vb true)),J.set 0 (Vb true),N.setCell (by simp) (Vb true)⟩:KeepsOthers W (z.setCell (Ad (w.1.size+1) 0) (Vb true))∧Holds (z.setCell (Ad (w.1.size+1) 0) (Vb true)) (w.1.size+1) 4 #[Vb true]∧Bz w (z.setCell (Ad (w.1.size+1) 0) (Vb true)));clear J N;gi_wp2;exact⟨A.out.1.from _,rfl,A.out.2⟩
 ·rintro D W O ⟨U,_⟩ y;cases U
 ·rintro D c i W O C ⟨rfl,h1,hB⟩ y;have a3:=qW (c:= .deferred none) y rfl (h1.cell 0);apply wp_ret;show bodyPostM _ _ _ _ _ .ret _ _;refine qZ (v:=Vb true) y (by simp[results,results132,go_sem,a3]) ⟨rfl,qB hB y (by simp at O;omega)⟩
def qT (k:Int):List Int:=if k=1 then [6,1,3,1,4,4]else if k=2 then [1,6]else []
theorem ku {w:World} {b t:Nat} {l:List Int} (h:Holds w b t (l.map (Value.int .i64)).toArray):∀i,i<l.length->w.cell? ⟨b,0+i,none⟩=some (Vi (l.getD i 0)):=by
 intro i a;rw[dG];have:=h.cell i;rw[this];simp[a]
theorem BW (k:Int) (f:0<=k) (g:k<=255) (w:World):Cs 133 #[Vu k] w fun e w'=>∃a,e=Rt (Sq a (qT k).length (qT k).length)∧zA w' .i64 a (qT k)∧Bz w w':=by
 rcases(show k=1∨k=2∨(k≠1∧k≠2) by omega)with rfl|rfl|⟨b,d⟩
 ·go_enter func133,ntmps133;go_wp2_with fail;go_ret;refine⟨some (Ad w.1.size 0),rfl,⟨by simp[qT],.inr ⟨_,_,rfl,?_⟩⟩,bB⟩;exact ku (l:=[6,1,3,1,4,4]) (Holds.fresh w 3 _)
 ·go_enter func133,ntmps133;go_wp2_with fail;go_ret;refine⟨some (Ad w.1.size 0),rfl,⟨by simp[qT],.inr ⟨_,_,rfl,?_⟩⟩,bB⟩;exact ku (l:=[1,6]) (Holds.fresh w 3 _)
 ·have c:qT k=[]:=by simp[qT,b,d]
  rw[c];go_enter func133,ntmps133;go_wp2_with fail;go_ret;exact⟨none,rfl,zA.none _ _ _,Below.refl _ _⟩
def DL (i:Int):List Int->Int
 |[]=>0
 |x::l=>x+max 0 (1-i)+DL (i+1) l
def Ct (k:Int):Int:=DL 0 (qT k)
theorem GN (k:Int) (L:List Int) (E:L.length<=6) (D:∀x∈L,0<=x∧x<=6) (w:World)
  (C:Cs 133 #[Vu k] w fun e w'=>∃a,e=Rt (Sq a L.length L.length)∧zA w' .i64 a L∧Bz w w'):
  Cs 160 #[Vu k] w (Rw w (Vi (DL 0 L))):=by
 have r:=hiD C;have p:=hiD D;clear C D;go_enter func160,ntmps160;go_wp2_with fail;refine r.out.mono ?_;rintro e o ⟨a,rfl,⟨z,f⟩,g⟩;have q:=hiD g;clear g;go_wp2_with fail
 go_loop [2,3,4,8] (fun n x y i=>∃(j:Nat) (m:Int),j<=L.length∧i=Vi j∧n=Vi m∧0<=m∧m<=7*j∧DL 0 L=m+DL j (L.drop j)) (fun _ _ _ i=>L.length-(intOf i).toNat)
 case atStart=>exact⟨0,0,jg _,rfl,rfl,by omega,by omega,by simp⟩
 case round=>
  obtain⟨j,m,v,rfl,rfl,t,s,A⟩:=hrel;by_cases c:j<L.length
  ·obtain⟨b,B,rfl,l⟩:∃b B,a=some (Ad b B)∧∀i,i<L.length->Cq o b (B+i) (Vi (L.getD i 0)):=by
    rcases f with rfl|f
    ·simp at c
    ·exact f
   have d:=l j c;have u:=p.out _ (dI c);rw[je c,DL]at A;rw[jx,jB c,Option.getD_some]at d;have h:=hiD A;clear A l f;generalize L[j]=x at*;go_wp2_with fail;refine⟨⟨j+1,m+(x+max 0 (1-(j:Int))),by omega,by push_cast;rfl,rfl,by omega,by omega,?_⟩,by simp[intOf];omega⟩;rw[h.out];push_cast;omega
  ·have h:=hiD A;clear A f;go_wp2_with fail;go_ret;rw[h.out,jt (by omega)];exact⟨by simp[DL],q.out⟩
theorem Ra (k:Int) (a:0<=k) (c:k<=255) (w:World):Cs 160 #[Vu k] w (Rw w (Vi (Ct k))):=by
 refine GN k (qT k) ?_ ?_ w (BW k a c w)
 ·unfold qT;split;decide;split<;>decide
 ·unfold qT;split;decide;split<;>decide
theorem OL (k:Int):Ct k=if k=1 then 20 else if k=2 then 8 else 0:=by
 unfold Ct qT;split
 ·decide
 ·split<;>decide
def Fk (e:Ev):List Int:=[e.ts,e.src,e.seq,e.kind,0,0]
def NumsAt (W:World) (B:Nat) (L:List Int):Prop:=∃a,Holds W B 125 #[Sq a L.length L.length]∧zA W .i64 a L
theorem KI (i g f d:Int) (w:World):Cs 134 #[.agg #[Vu 1,Vi i,Vi g,Vi f,Vi d,Vc 0 0,Vi 0,Vi 0]] w fun e w'=>∃B,e=Rt (.func (.func 168) #[] #[Vp B 0])∧NumsAt w' B [i,g,f,d,0,0]∧w.1.size<=B∧Bz w w':=by
 have c:=hmf1;have a:=hst1;have b:=Vk;go_enter func134,ntmps134;go_wp2_with fail;go_ret;refine⟨w.1.size+1+1,rfl,⟨some (Ad (w.1.size+1+1+1+1) 0),?_,⟨by simp,.inr ⟨_,_,rfl,?_⟩⟩⟩,by omega,?_⟩
 ·exact((Holds.fresh' (by simp) 125 _).alloc _).alloc _
 ·exact ku (l:=[i,g,f,d,0,0]) (Holds.fresh' (by simp) 3 _)
 ·exact(((bB.alloc (by simp) _).alloc (by simp;omega) _).alloc (by simp;omega) _).alloc (by simp;omega) _
theorem Ir:En0 168:=enters_of func168 rfl rfl
theorem Lz (B:Nat) (a:Option Addr) (L:List Int):Iter prog 168 #[Vp B 0] (fun i=>#[Vi (L.getD i 0)]) L.length
  (fun W=>Holds W B 125 #[Sq a L.length L.length]∧zA W .i64 a L):=by
 intro l J u W t m hF o h;have r:Cq W B 0 (Sq a L.length L.length):=(hF 0 W h).1.cell 0;have q:=hiD hF;have y:=(hF 0 W h).2.1;clear hF;refine callsIn_of_wp func168 rfl trivial ?_ rfl;simp only[ntmps168,jW,jF,jO,Nat.reduceAdd,Nat.reduceSub,jR,jQ,jX,jU,jD,jE];gi_wp2;clear r;gi_loopw [4,7] (fun x p wr=>∃i:Nat,i<=L.length∧p=Vi i∧J i wr) (fun x p wr=>L.length-(intOf p).toNat);case atStart=>exact⟨0,by omega,rfl,h⟩
 case round=>
  obtain⟨i,E,rfl,n⟩:=hrel;by_cases c:i<L.length
  ·obtain⟨D,F,A,C,v,s⟩:=o i wr c n;obtain⟨b,z,rfl,d⟩:∃b z,a=some (Ad b z)∧∀i,i<L.length->Cq wr b (z+i) (Vi (L.getD i 0)):=by
    rcases(q.out i wr n).2.2 with k|k
    ·rw[k]at c;simp at c
    ·exact k
   have j:=d i c;clear d;generalize L.getD i 0=x at*;gi_wp2;refine⟨rfl,s.mono ?_⟩;rintro e w (⟨rfl,g⟩|⟨rfl,f⟩)
   ·gi_wp2;go_roundw;case rel=>exact⟨i+1,by omega,by go_num,g⟩
    case measure=>simp[intOf];omega
   ·gi_wp2;refine bodyPost_ret (results_none rfl _ _ _) rfl ?_;exact⟨⟨_,rfl⟩,.inr ⟨i,c,f⟩⟩
  ·gi_wp2;go_end0;have e:i=L.length:=by omega
   subst e;exact⟨⟨_,rfl⟩,.inl n⟩
structure Pc where
 at':Nat
 bytes:List Int
 short:Bool
def qx (p:Nat):List Int->List Pc
 |[]=>[]
 |x::l=>⟨p,l.take x.toNat,decide (l.length<x.toNat)⟩::qx (p+1+min x.toNat l.length) (l.drop x.toNat)
termination_by l=>l.length
decreasing_by simp;omega
theorem KZ (a:Option Addr) (n c:Nat) (w:World):Cs 124 #[Sq a n c] w fun e w'=>e=Rt (.func (.func 155) #[] #[Vp w.1.size 0])∧w'=w.alloc (Oc #[Sq a n c] 33):=by
 have b:=hmf1;go_enter func124,ntmps124;go_wp2_with fail;go_ret;exact⟨rfl,rfl⟩
theorem Jk:En0 155:=enters_of func155 rfl rfl
theorem Af {w:World} {p a:Addr} (h:a.block≠p.block) (v:Value):(w.setCell p v).cell? a=w.cell? a:=by
 rw[World.cell?_setCell_other];rintro rfl;exact h rfl
theorem F0 {P:List Pc} {i q:Nat} {x:Int} {R L:List Int} (c:P.drop i=qx q (L.drop q)) (e:L.drop q=x::R) (f:L.drop (q+1)=R):
  i<P.length∧P.getD i ⟨0,[],false⟩=⟨q,R.take x.toNat,decide (R.length<x.toNat)⟩∧P.drop (i+1)=qx (q+1+min x.toNat R.length) (L.drop (q+1+min x.toNat R.length)):=by
 rw[e,qx]at c;have d:i<P.length:=by
  refine Nat.lt_of_not_le fun h=>?_;rw[jt h]at c;cases c
 rw[je d]at c;obtain⟨b,a⟩:=List.cons.inj c;refine⟨d,by rw[jx,jB d,Option.getD_some,b],?_⟩;rw[a];congr 1;rw[<-List.drop_drop,f];by_cases h:x.toNat<=R.length
 ·rw[Nat.min_eq_left h]
 ·rw[Nat.min_eq_right (by omega),jt nLe,jt (by omega)]
theorem Kt {w:World} {f n:Nat} {E:TypeId} {v:Value} {e:List Int} (h:w.ownsRow f E 1 v n (e.map (Value.int .u8))) (k:v≠Vn) (o:e.length=n) (l:n<=140737488351232):∃g d,v=Sq (some ⟨g,0,none⟩) n d∧zA w .u8 (some ⟨g,0,none⟩) e∧f<=g:=by
 rcases h.2 with⟨rfl,m⟩|⟨g,d,a,rfl,_,c,b,_⟩
 ·exact absurd rfl k
 ·refine⟨g,d,rfl,⟨by omega,.inr ⟨g,0,rfl,fun i j=>?_⟩⟩,by assumption⟩;rw[dG,h.cellAt i (by omega)];simp[j]
theorem Il {w:World} {g:Nat} {L:List Int} {p:Addr} {v:Value} (h:zA w .u8 (some ⟨g,0,none⟩) L) (f:g≠p.block):zA (w.setCell p v) .u8 (some ⟨g,0,none⟩) L:=by
 refine⟨h.1,?_⟩;rcases h.2 with c|⟨b,j,e,c⟩
 ·exact .inl c
 ·cases e;exact .inr ⟨g,0,rfl,fun i d=>(Af (a:=Ad g (0+i)) f v).trans (c i d)⟩
end
def xP:List Int->List Int->List Int
 |[],_=>[]
 |w::ws,b=>xW 0 (b.take w.toNat)::xP ws (b.drop w.toNat)
def Pu (m:List Int):Bool:=m.all fun n=>decide (0<=n)&&decide (n<=1099511627776)
def JO (m:List Int) (s:Int):List Int:=m.take (max 1 (min s 4)).toNat
def leastM (m:List Int) (s:Int):Int:=(JO m s).foldl min (m.headD 0)
def setM (m:List Int) (a c:Int):List Int:=if 0<=a∧a<4∧max 0 (m.getD a.toNat 0)<=c∧c<=1099511627776 then m.set a.toNat c else m
def lateM (m:List Int) (a c:Int):Bool:=decide (0<=a)&&(decide (a<4)&&decide (c<m.getD a.toNat 0))
def floorM (m:List Int) (s w:Int):Int:=if (GZ (leastM m s) w).2=0 then (GZ (leastM m s) w).1 else if 0<w then-9223372036854775808 else 9223372036854775807
structure Cf where
 p:Pt
 mode:Int
 cap:Int
 slack:Int
 sources:Int
structure Fo where
 marks:List Int
 keep:List Ev
 hi:Int
def Bc (c:Cf):Bool:=(decide (c.2=1)||decide (c.2=2))&&(decide (1<=c.cap)&&decide (c.cap<=16))&&(decide (0<=c.4)&&decide (c.4<=1099511627776))&&(decide (1<=c.5)&&decide (c.5<=4))&&chkB c.p
def yM (c:Cf) (f:Fo):Int:=leastM f.1 c.5
def AN (c:Cf) (f:Fo):Int:=floorM f.1 c.5 c.p.2
def mayB (c:Cf) (f:Fo):Bool:=
 Bc c&&Pu f.1&&rowB f.2&&decide ((f.2.length:Int)<=c.cap)&&(decide (-1<=f.hi)&&decide (f.hi<=1099511627776))&&
 ((f.1.drop c.5.toNat).all fun n=>decide (n=0))&&f.2.all fun e=>decide (e.src<c.5)&&(decide (AN c f<=e.ts)&&decide (e.ts<=f.hi))
def nowF (f:Fo) (r:Rc):Fo:=if r.kind=2 then {f with marks:=setM f.1 r.src r.ts}else {f with keep:=putE f.2 r.ev,hi:=max f.hi r.ev.ts}
def B3 (c:Cf) (f:Fo):Fo:={f with keep:=f.2.filter fun e=>decide (AN c f<=e.ts)}
def sameAt (s:List Ev) (e:Ev):Bool:=hasE s e&&match s[findN s e]? with
 |some x=>sameE x e
 |none=>false
def Mc (p:Pt) (l:List Mt) (a:Int):List Mt:=l.filter fun m=>decide (yH p m<a)
def vY (p:Pt) (l:List Mt) (a:Int):List Mt:=l.filter fun m=>decide (a<=yH p m)
def mayT (k:Nat) (a:List Ev) (x:Ev):Bool:=decide (x.kind=a.length)&&decide (k<=a.length)
def yK (s:List Ev) (a:List Int) (k:Nat):Nat->List Ev->List Mt
 |0,ahead=>[⟨a,ahead⟩]
 |f+1,ahead=>s.flatMap fun x=>if mayT k ahead x=true then yK s a k f (ahead++[x])else []
def rawW (p:Pt) (s:List Ev):List Mt:=(zN p).flatMap fun a=>(List.range a.length).flatMap fun k=>yK s a k a.length []
def addM (_:Pt) (l c:List Mt):List Mt:=(c.foldl (fun a x=>if (a.any fun o=>isM o x)=true then a else a++[x]) l)
def FN (l a:List Mt):List Mt:=l.filter fun x=>!a.any fun o=>isM o x
structure Ot where
 kind:Int
 m:Mt
 at':Int
 code:Int
def mt0:Mt:=⟨[],[]⟩
def Bi (p:Pt) (s:List Ev) (a:Int):List Mt:=vY p (allM p s) a
def Eu (c:Cf) (a d:Fo):List Ot:=if Bc c=true then (Mc c.p (vY c.p (allM c.p a.2) (yM c a)) (yM c d)).map fun m=>⟨1,m,0,0⟩else []
structure En where
 c:Cf
 f:Fo
 led:List Mt
 count:Int
def newF:Fo:=⟨[0,0,0,0],[],-1⟩
def Fe (a:En):Bool:=decide (0<=a.count)&&decide (a.count<=1099511627776)&&Bc a.c&&mayB a.c a.f&&(if a.c.2=1 then a.led.isEmpty else decide (a.led=Bi a.c.p a.f.2 (yM a.c a.f)))
end Go.Proofs.YtnmpcdnbklmhkaaGreatDoor
