import Derived.Test.YtnmpcdnbklmhkaaGreatDoorQAa
import Derived.Carry
import Derived.ProofKit
import Derived.OpenShut
import Derived.Deep.Slices
import Derived.Deep.Fields
import Derived.ChangeSame
import Derived.Lib.SmallJoins
import Derived.Test.YtnmpcdnbklmhkaaGreatDoorShelf
namespace Go.Proofs.YtnmpcdnbklmhkaaGreatDoor
open Go.Proofs.Tryz Go.RowKit
set_option maxRecDepth 100000
set_option maxHeartbeats 8000000
section
open Go.ChangeShapes Go.WideShapes Go.ChangeAt
section
variable {H : Type} {enc : TypeId × Value -> H} {P : Program} {W W' : World}
theorem Dn (n:laidOutB P=true) (m:Bz W W'):∀(i:List TypeId) (l:List Value) (j:List (DataW H)) (g:List MemPlace),
  DataW.TrodAll enc P W 0 (fun _=>true) true i l j g->(∀t∈i,P.readableRec t=true∧t<P.types.size)->(∀x∈g,x.block<W.1.size)->
  DataW.TrodAll enc P W' 0 (fun b=>decide (b<W.1.size)) true i l j g
 |[],l,j,g,h,_,_=>by
   obtain⟨rfl,rfl,rfl⟩:=trodAll_nil h;exact trodAll_mk0
 |t::i,l,j,g,h,hr,hlt=>by
   obtain⟨v,c,d,e,p,q,rfl,rfl,rfl,f,o⟩:=trodAll_cons h;have k:=hr t (by simp);exact trodAll_cons_mk (Below.trod n k.1 k.2 f m (fun x a=>hlt x (by simp[a])))
    (Dn n m i c e q o (fun t k=>hr t (by simp[k])) (fun x a=>hlt x (by simp[a])))
theorem Ux {s:ChangeSpec} {k:Func} {m:Array Value} {j l:List (DataW H)} {z:List MemPlace} {y:TypeId} (A:laidOutB P=true)
  (C:k.params.all (fun t=>P.readableRec t&&decide (t<P.types.size))=true) (D:k.resultTypes=#[y]) (F:P.underlying y=some .bool) (u:s.vars=[])
  (o:(s.fn H (j++l)).results=[.lit (.bool true)]∧(s.fn H (j++l)).args=j∧(s.fn H (j++l)).vars=[])
  (n:DataW.Whole enc P k.params.toList s.vars false W m.toList j l z) (r:Bz W W'):
  s.post enc P k false true false false W m (.bool true) W':=by
 have c:=n;have a:=fun p B=>n.lt p B;obtain⟨p,q,b,d,rfl,f,i⟩:=n;have g:DataW.TrodAll enc P W 0 (fun _=>true) true k.params.toList m.toList j p:=b;rw[u]at d;obtain⟨rfl,rfl⟩:=trodVars_none d;refine⟨j,[],_,[],p,[],c,?_,?_,?_,r.frame _,fun h=>by cases h⟩
 ·rw[o.1,D];exact trodAll_cons_mk (shut_bool F _) trodAll_mk0
 ·rw[o.2.1];refine Dn A r _ _ _ _ g (fun t E=>?_) (fun x e=>a x (by simp[e]));have:=Array.all_eq_true_iff_forall_mem.1 C t (by simpa using E);simpa using this
 ·rw[o.2.2,u];rfl
theorem Mv {c:List TypeId} {a:List (DataW H)} (f:(DataW.weightsEach P c a).all (·<=reachBytes)=true) (j:Nat) {t:TypeId} {s:ByteArray} (g:c[j]?=some t) (d:a[j]?=some (.lit (.string s.data.toList))):s.size<=140737488351232:=by
 have:=sized_string f g d;have e:s.data.toList.length=s.size:=by simp
 have r:reachBytes=140737488351232:=by decide
 omega
end
end
structure Tm where
 kind:Int
 n:Int
 s:Int
 r:Int
deriving DecidableEq
structure Cm where
 op:Int
 l:Tm
 r:Tm
deriving DecidableEq
structure St where
 neg:Bool
 kind:Int
 min:Int
 max:Int
 strict:Bool
 cmps:List Cm
deriving DecidableEq
structure Pt where
 steps:List St
 window:Int
deriving DecidableEq
def numB (n:Int):Bool:=decide (0<=n)&&decide (n<=1099511627776)
def twoB (t:Tm):Bool:=(t.kind==5)||(t.kind==6)
def tmB (t:Tm):Bool:=
 decide (-1099511627776<=t.n)&&decide (t.n<=1099511627776)&&decide (t.kind<7)&&decide (0<=t.s)&&decide (t.s<26)&&decide (0<=t.r)&&decide (t.r<26)&&
  (t.kind !=0||t.s==0)&&(twoB t||t.r==0)
def cmB (c:Cm):Bool:=decide (1<=c.op)&&decide (c.op<7)&&tmB c.l&&tmB c.r
def stB (s:St):Bool:=numB s.kind&&numB s.min&&numB s.max&&s.6.all cmB
def ptB (p:Pt):Bool:=decide (0<p.1.length)&&decide (p.1.length<=26)&&numB p.2&&p.1.all stB
def UN (p:Pt):Bool:=(p.1.take 41).any (fun s=>decide (20<s.6.length))||decide (40<p.1.length)
section
open Go.ChangeShapes Go.WideShapes Go.ChangeAt Go.Deep
def tmV (t:Tm):List Value:=[Vu t.kind,Vi t.n,Vi t.s,Vi t.r]
def cmV (c:Cm):List Value:=[Vu c.op,Vu c.l.kind,Vi c.l.n,Vi c.l.s,Vi c.l.r,Vu c.r.kind,Vi c.r.n,Vi c.r.s,Vi c.r.r]
def bnd (n:Int):Prop:=-9223372036854775808<=n∧n<=9223372036854775807
def bnd8 (n:Int):Prop:=0<=n∧n<=255
def tmWf (t:Tm):Prop:=bnd8 t.kind∧bnd t.n∧bnd t.s∧bnd t.r
def cmWf (c:Cm):Prop:=bnd8 c.op∧tmWf c.l∧tmWf c.r
def stWf (s:St):Prop:=bnd s.kind∧bnd s.min∧bnd s.max∧∀c∈s.6,cmWf c
def Aj (w:World) (a:Option Addr) (d:List Cm):Prop:=
 d=[]∨∃b e,a=some ⟨b,e,none⟩∧∀(i:Nat) (c:Cm),d[i]?=some c->∀(j:Nat) (v:Value),(cmV c)[j]?=some v->w.cell? ⟨b,e+i*9+j,none⟩=some v
def stV (s:St) (v:Value):List Value:=[Vb s.neg,Vi s.kind,Vi s.min,Vi s.max,Vb s.5,v]
def yQ (w:World) (v:Value) (d:List Cm):Prop:=∃a c,v=Sq a d.length c∧d.length<=c∧d.length<=9223372036854775807∧(a=none->c=0)∧Aj w a d
def AB (w:World) (a:Option Addr) (d:List St):Prop:=
 d=[]∨∃b c,a=some ⟨b,c,none⟩∧∀(i:Nat) (s:St),d[i]?=some s->∃v,yQ w v s.6∧∀(j:Nat) (u:Value),(stV s v)[j]?=some u->w.cell? ⟨b,c+i*6+j,none⟩=some u
def qN (w:World) (v:Value) (d:List St):Prop:=∃a c,v=Sq a d.length c∧d.length<=c∧d.length<=9223372036854775807∧(a=none->c=0)∧AB w a d
section
variable {w w' : World} {B : Nat} {a : Option Addr}
theorem Aj.mono {e:List Cm} (g:Below B w w') (f:w.1.size<=B) (h:Aj w a e):Aj w' a e:=by
 rcases h with rfl|⟨b,m,rfl,d⟩
 ·exact .inl rfl
 ·exact .inr ⟨b,m,rfl,fun i c k j v l=>qd g f (d i c k j v l)⟩
theorem yQ.mono {v:Value} {g:List Cm} (j:Below B w w') (i:w.1.size<=B) (h:yQ w v g):yQ w' v g:=by
 obtain⟨a,c,rfl,f,b,e,d⟩:=h;exact⟨a,c,rfl,f,b,e,d.mono j i⟩
theorem AB.mono {g:List St} (f:Below B w w') (e:w.1.size<=B) (h:AB w a g):AB w' a g:=by
 rcases h with rfl|⟨b,n,rfl,d⟩
 ·exact .inl rfl
 ·refine .inr ⟨b,n,rfl,fun i s k=>?_⟩;obtain⟨v,m,c⟩:=d i s k;exact⟨v,m.mono f e,fun j u l=>qd f e (c j u l)⟩
theorem qN.mono {v:Value} {g:List St} (j:Below B w w') (i:w.1.size<=B) (h:qN w v g):qN w' v g:=by
 obtain⟨a,c,rfl,f,b,e,d⟩:=h;exact⟨a,c,rfl,f,b,e,d.mono j i⟩
theorem Aj.get {e:List Cm} (h:Aj w a e) (i:Nat) (f:i<e.length):∃b d,a=some ⟨b,d,none⟩∧
  w.cell? ⟨b,d+i*9,none⟩=some (Vu e[i].op)∧w.cell? ⟨b,d+i*9+1,none⟩=some (Vu e[i].l.kind)∧w.cell? ⟨b,d+i*9+2,none⟩=some (Vi e[i].l.n)∧
  w.cell? ⟨b,d+i*9+3,none⟩=some (Vi e[i].l.s)∧w.cell? ⟨b,d+i*9+4,none⟩=some (Vi e[i].l.r)∧w.cell? ⟨b,d+i*9+5,none⟩=some (Vu e[i].r.kind)∧
  w.cell? ⟨b,d+i*9+6,none⟩=some (Vi e[i].r.n)∧w.cell? ⟨b,d+i*9+7,none⟩=some (Vi e[i].r.s)∧w.cell? ⟨b,d+i*9+8,none⟩=some (Vi e[i].r.r):=by
 rcases h with rfl|⟨b,d,rfl,c⟩
 ·simp at f
 ·have g:=c i _ (jB f);exact⟨b,d,rfl,g 0 _ rfl,g 1 _ rfl,g 2 _ rfl,g 3 _ rfl,g 4 _ rfl,g 5 _ rfl,g 6 _ rfl,g 7 _ rfl,g 8 _ rfl⟩
theorem AB.get {m:List St} (h:AB w a m) (i:Nat) (o:i<m.length):∃b n c d,a=some ⟨b,n,none⟩∧
  (w.cell? ⟨b,n+i*6,none⟩=some (Vb m[i].neg)∧w.cell? ⟨b,n+i*6+1,none⟩=some (Vi m[i].kind)∧w.cell? ⟨b,n+i*6+2,none⟩=some (Vi m[i].min)∧
  w.cell? ⟨b,n+i*6+3,none⟩=some (Vi m[i].max)∧w.cell? ⟨b,n+i*6+4,none⟩=some (Vb m[i].5)∧w.cell? ⟨b,n+i*6+5,none⟩=some (Sq c m[i].6.length d))∧
  m[i].6.length<=d∧m[i].6.length<=9223372036854775807∧(c=none->d=0)∧Aj w c m[i].6:=by
 rcases h with rfl|⟨b,n,rfl,l⟩
 ·simp at o
 ·obtain⟨v,⟨c,d,rfl,j,e,k,f⟩,g⟩:=l i _ (jB o);exact⟨b,n,c,d,rfl,⟨g 0 _ rfl,g 1 _ rfl,g 2 _ rfl,g 3 _ rfl,g 4 _ rfl,g 5 _ rfl⟩,j,e,k,f⟩
end
section
variable {H : Type} {enc : TypeId × Value -> H} {W : World} {base : Nat} {sp : Nat -> Bool} {held : Bool} {fuel : Nat}
end
end
structure Ev where
 ts:Int
 src:Int
 seq:Int
 kind:Int
 re:Nat
 im:Nat
deriving DecidableEq
def ev0:Ev:=⟨0,0,0,0,0,0⟩
def l1:Ev:=⟨3,0,0,1,0,0⟩
def l2:Ev:=⟨2,0,0,0,0,0⟩
def evWf (e:Ev):Prop:=e=l1∨e=l2∨e=ev0
def evB (e:Ev):Bool:=decide (e=l1∨e=l2∨e=ev0)
theorem evWf.ok {e:Ev} (h:evWf e):evB e=true:=decide_eq_true h
def evV (e:Ev):List Value:=[Vi e.ts,Vi e.src,Vi e.seq,Vi e.kind,Vc e.re e.im]
def cmpI (a b:Int):Int:=if a<b then-1 else if b<a then 1 else 0
def cmpE (a b:Ev):Int:=if cmpI a.ts b.ts≠0 then cmpI a.ts b.ts else if cmpI a.src b.src≠0 then cmpI a.src b.src else cmpI a.seq b.seq
def lessE (a b:Ev):Bool:=decide (cmpE a b<0)
def keyB (a b:Ev):Bool:=decide (a.ts=b.ts)&&decide (a.src=b.src)&&decide (a.seq=b.seq)
def sameE (a b:Ev):Bool:=decide (a=b)
theorem cmpE_range (a b:Ev):cmpE a b=-1∨cmpE a b=0∨cmpE a b=1:=by unfold cmpE cmpI;(repeat' split)<;>omega
theorem UB {a b:Ev}:keyB a b=true↔(a.ts=b.ts∧a.src=b.src∧a.seq=b.seq):=by
 unfold keyB;simp only[jJ,decide_eq_true_eq];constructor<;>(intro h;simp[h])
theorem Kq {a b:Ev}:cmpE a b=0↔keyB a b=true:=by
 rw[UB];unfold cmpE cmpI;(repeat' split)<;>omega
def AI:List Ev->Bool
 |a::b::l=>lessE a b&&AI (b::l)
 |_=>true
def rowB (s:List Ev):Bool:=s.all evB&&AI s
def placeN {α:Type} (p:α->Bool):List α->Nat
 |[]=>0
 |x::l=>if p x=true then 0 else placeN p l+1
theorem Cu {α:Type} (p:α->Bool):∀l:List α,placeN p l<=l.length
 |[]=>Nat.le_refl _
 |x::l=>by
   have:=Cu p l;unfold placeN;split
   ·exact jg _
   ·simp only[jF];omega
def findN (s:List Ev) (e:Ev):Nat:=placeN (fun x=>!lessE x e) s
def hasE (s:List Ev) (e:Ev):Bool:=match s[findN s e]? with
 |some x=>keyB x e
 |none=>false
def Db (s:List Ev) (e:Ev):Option Ev:=s[placeN (fun x=>lessE e x) s]?
def betweenE (s:List Ev) (a b:Ev):List Ev:=s.filter fun x=>lessE a x&&lessE x b
def putE (s:List Ev) (e:Ev):List Ev:=if hasE s e=true then s else s.take (findN s e)++e::s.drop (findN s e)
def chkB (_:Pt):Bool:=true
def lP:Pt:=⟨[⟨false,0,1,1,false,[]⟩,⟨false,1,1,1,true,[]⟩],5⟩
def PtOk (p:Pt):Prop:=p=lP
def noC (p:Pt):Prop:=∀s∈p.1,s.6=[]
theorem PtOk.all {p:Pt} (h:PtOk p) {s:St} (a:s∈p.1):s=⟨false,0,1,1,false,[]⟩∨s=⟨false,1,1,1,true,[]⟩:=by
 rw[h]at a;simpa[lP]using a
theorem PtOk.noC {p:Pt} (h:PtOk p):noC p:=fun s a=>by rcases h.all a with rfl|rfl<;>rfl
theorem PtOk.wf {p:Pt} (h:PtOk p):∀s∈p.1,stWf s:=fun s a=>by rcases h.all a with rfl|rfl<;>simp[stWf,bnd]
def zN (_:Pt):List (List Int):=[[0,1]]
def SOk (s:List Ev):Prop:=s=[]∨s=[l1]∨s=[l2,l1]
structure Mt where
 row:List Int
 evs:List Ev
deriving DecidableEq
def yH (_:Pt) (m:Mt):Int:=match m.2.getLast? with
 |some e=>e.ts
 |none=>0
def sortM (_:Pt) (l:List Mt):List Mt:=l
def isM (a b:Mt):Bool:=decide (a.row=b.row)&&(decide (a.2.length=b.2.length)&&(a.2.zip b.2).all fun x=>keyB x.1 x.2)
def lM:Mt:=⟨[0,1],[l2,l1]⟩
def MtSm (_:Pt) (m:Mt):Prop:=m=lM
theorem MtSm.row {p:Pt} {m:Mt} (h:MtSm p m):m.row.length<=1000000:=by rw[h];decide
theorem MtSm.evl {p:Pt} {m:Mt} (h:MtSm p m):m.2.length<=1000000:=by rw[h];decide
theorem MtSm.pos {p:Pt} {m:Mt} (h:MtSm p m):0<m.2.length:=by rw[h];decide
def EP (a:List Ev) (e:Ev):Bool:=decide (e.kind=a.length)
def yh (p:Pt) (s:List Ev) (a:List Int):Nat->List Ev->List Mt
 |0,ahead=>[⟨a,ahead⟩]
 |f+1,ahead=>s.flatMap fun e=>if EP ahead e=true then yh p s a f (ahead++[e])else []
def rawM (p:Pt) (s:List Ev):List Mt:=(zN p).flatMap fun a=>yh p s a a.length []
def allM (p:Pt) (s:List Ev):List Mt:=rawM p s
theorem qi {B:Nat} (b:Nat) (t:TypeId) (i:Array Value):qe B (fun W=>Holds W b t i):=
 fun W g l j f k=>j.grown f (fun e=>by
  obtain⟨_,o,c,d⟩:=k b e.symm;have a:W.1[b]?=some (.cells i t (0,0)):=j;rw[a]at c;cases c;cases d)
end Go.Proofs.YtnmpcdnbklmhkaaGreatDoor
