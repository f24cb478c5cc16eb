import Derived.Test.YtnmpcdnbklmhkaaGreatDoorQAf
import Derived.Test.YtnmpcdnbklmhkaaGreatDoorQAd
import Derived.Lib.Join
import Derived.Test.YtnmpcdnbklmhkaaGreatDoorQAh
import Derived.Test.YtnmpcdnbklmhkaaGreatDoorQAe
namespace Go.Proofs.YtnmpcdnbklmhkaaGreatDoor
open Go.Proofs.Tryz Go.RowKit
set_option maxRecDepth 100000
set_option linter.all false
set_option maxHeartbeats 8000000
def qy (i:Int):List UInt8:=if 0<=i∧i<26 then [UInt8.ofNat (97+i.toNat)]else []
def opT (a:Int):List UInt8:=if 0<=a∧a<7 then qJ a.toNat else []
def yX:Nat->List UInt8
 |1=>[116]|2=>[120]|3=>[121]|4=>[110]|5=>[100]|6=>[99]|_=>[]
def JJ (n:Int):List UInt8:=if 0<n then 43::Lib.itoa n else if n<0 then Lib.itoa n else []
def namesOf (t:Tm):List Int:=if t.kind=0 then []else if twoB t=true then [t.s,t.r]else [t.s]
def vl (t:Tm):List UInt8:=
 if t.kind=0 then Lib.itoa t.n else yX t.kind.toNat++[40]++(if twoB t=true then qy t.s++[44]++qy t.r else qy t.s)++[41]++JJ t.n
def QV (c:Cm):List UInt8:=vl c.l++opT c.op++vl c.r
def cmpT (c:Cm):List UInt8:=if cmB c=true then QV c else []
def jz (b:UInt8):List (List UInt8)->List UInt8
 |[]=>[]
 |[w]=>w
 |w::v::ws=>w++b::jz b (v::ws)
def AE (a b:Int):List UInt8:=if a=1∧b=1 then []else 123::(Lib.itoa a++44::(Lib.itoa b++[125]))
def Gi (a:List Cm):List UInt8:=if a=[]then []else 91::(jz 38 (a.map cmpT)++[93])
def stepT0 (s:St) (i:Int):List UInt8:=(if s.neg=true then [33]else [])++(Lib.itoa s.kind++qy i)++AE s.min s.max++Gi s.6
def Ao (s:St) (i:Int):List UInt8:=if stB s=true∧0<=i∧i<26 then stepT0 s i else []
def sepT (s:St) (i:Nat):List UInt8:=if i=0 then []else if s.5=true then [44]else [59]
def stepsT:Nat->List St->List UInt8
 |_,[]=>[]
 |i,s::ss=>sepT s i++Ao s i++stepsT (i+1) ss
def Cr:List UInt8:=[32,119,105,116,104,105,110,32]
def patT (p:Pt):List UInt8:=stepsT 0 p.1++(Cr++Lib.itoa p.2)
def strict0 (p:Pt):Bool:=match p.1 with
 |[]=>false
 |s::_=>s.5
def kX (p:Pt):List UInt8×Int:=
 if ptB p=true∧strict0 p=false then (if (patT p).length<=2000 then (patT p,0)else ([],91))else ([],2)
def kr (u:List UInt8) (c:UInt8):Bool:=
 if digB (u.headD 0)then !digB c
 else if letB (u.headD 0)then !letB c
 else (c !=61)||(xm (u.headD 0)&&u.headD 0 !=33)
theorem EJ {p:UInt8->Bool} {r:List UInt8} (h:∀c,r.head?=some c->p c=false):lead p r=0:=by
 cases r with
 |nil=>rfl
 |cons c r=>exact zO _ _ _ (h c rfl)
theorem Rm (u r:List UInt8) (D:u≠[]) (n:(tokOf u).2.2=u.length) (h:∀c,r.head?=some c->kr u c=true):tokOf (u++r)=tokOf u:=by
 obtain⟨c,v,rfl⟩:∃c v,u=c::v:=by cases u<;>simp_all
 have a:0<(c::v).length:=by simp
 by_cases m:digB c=true
 ·have y:lead digB r=0:=EJ fun x l=>by have:=h x l;simpa[kr,m]using this
  have A:0<lead digB (c::v):=by rw[zP,if_pos m];omega
  have z:lead digB (c::v)=(c::v).length:=by
   unfold tokOf at n;rw[if_pos A]at n;split at n
   ·exact n
   ·simp at n
  have f:=Bt digB (c::v) r z y;unfold tokOf;rw[f,z,if_pos a,if_pos a,List.take_left,jn]
 ·have b:digB c=false:=by simpa using m
  have o:∀s,lead digB (c::v++s)=0:=fun s=>zO _ _ _ b;have d:lead digB (c::v)=0:=zO _ _ _ b;by_cases k:letB c=true
  ·have y:lead letB r=0:=EJ fun x l=>by have:=h x l;simpa[kr,b,k]using this
   have A:0<lead letB (c::v):=by rw[zP,if_pos k];omega
   have z:lead letB (c::v)=(c::v).length:=by
    unfold tokOf at n;rw[d,if_neg (Nat.lt_irrefl 0),if_pos A]at n;split at n
    ·rename_i e;rw[e];exact n
    ·split at n
     ·exact n
     ·simp at n
   have f:=Bt letB (c::v) r z y;unfold tokOf;rw[o,d,if_neg (Nat.lt_irrefl 0),if_neg (Nat.lt_irrefl 0),f,z,if_pos a,if_pos a,List.take_left,jn];rfl
  ·have g:letB c=false:=by simpa using k
   have C:∀s,lead letB (c::v++s)=0:=fun s=>zO _ _ _ g;have j:lead letB (c::v)=0:=zO _ _ _ g;have key:opOf (c::v++r)=opOf (c::v):=by
    cases v with
    |cons x v=>simp[opOf]
    |nil=>
      by_cases y:r.head?=some 61
      ·have:=h 61 y;simp only[kr,List.headD_cons,b,g,ji,if_false,bne_self_eq_false,Bool.false_or,jJ,bne_iff_ne,ne_eq]at this;obtain⟨B,i⟩:=this;have q:c≠60:=by rintro rfl;simp[xm,BN]at B
       have p:c≠61:=by rintro rfl;simp[xm,BN]at B
       have t:c≠62:=by rintro rfl;simp[xm,BN]at B
       simp[opOf,q,p,t,i]
      ·simp only[jE,jD,opOf,List.head?_nil,if_neg y];simp
   unfold tokOf;rw[o,d,if_neg (Nat.lt_irrefl 0),if_neg (Nat.lt_irrefl 0),C,j,if_neg (Nat.lt_irrefl 0),if_neg (Nat.lt_irrefl 0),key];rfl
abbrev Item:=Nat×Int×Int
def qG:List Item->List UInt8
 |[]=>[]
 |(g,k,n)::is=>List.replicate g 32++(qS k n++qG is)
theorem qQ:∀(c a:List Item),qG (c++a)=qG c++qG a
 |[],a=>rfl
 |(g,k,n)::c,a=>by simp[qG,qQ c a]
def okI (e:List UInt8):List Item->Prop
 |[]=>True
 |(_,k,n)::is=>qS k n≠[]∧(∀c,(qG is++e).head?=some c->kr (qS k n) c=true)∧okI e is
theorem qK {e:List UInt8}:∀{f d:List Item},okI (qG d++e) f->okI e d->okI e (f++d)
 |[],_,_,h=>h
 |(g,k,n)::f,d,h1,h=>by
   obtain⟨a,b,c⟩:=h1;refine⟨a,?_,qK c h⟩;show ∀c,(qG (f++d)++e).head?=some c->kr (qS k n) c=true;rw[qQ,jk];exact b
theorem Dh:∀(g a:Nat) (l:List UInt8),qk a (List.replicate g 32++l)=qk (a+g) l
 |0,a,l=>by simp
 |g+1,a,l=>by
   rw[List.replicate_succ,jE,Bg,Dh g (a+1) l];congr 1;omega
theorem KU (k n:Int) (c:UInt8) (r:List UInt8) (h:qS k n=c::r):blB c=false:=by
 have a:=Qr k n (by rw[h];simp);rw[h]at a;exact GU c r (by rw[a];simp)
theorem Ee:∀(s:List Item),okI [] s->∀a:Nat,(qk a (qG s)).map (fun y=>(y.t.kind,y.t.n))=s.map (·.2)∧good (qk a (qG s))
 |[],_,a=>by
   have:qk a (qG [])=[]:=zt _ _ (by simp[qG]);rw[this];exact⟨rfl,fun y b=>by simp at b⟩
 |(g,k,n)::s,h,a=>by
   obtain⟨i,l,q⟩:=h;rw[jo]at l;have j:=Qr k n i;have d:=Rm (qS k n) (qG s) i (by rw[j]) l;rw[j]at d;rw[qG,Dh];obtain⟨c,r,f⟩:∃c r,qS k n=c::r:=by
    cases e:qS k n with
    |nil=>exact absurd e i
    |cons c r=>exact⟨c,r,rfl⟩
   have o:=KU k n c r f;have t:lead blB (qS k n++qG s)=0:=by rw[f];exact zO _ _ _ o
   have b:=zJ (a+g) (qS k n++qG s) (by rw[t,f];simp) (by rw[t,ju,d];simp[f]);rw[t,ju,d]at b;simp only[List.drop_left]at b;obtain⟨p,m⟩:=Ee s q (a+g+0+(qS k n).length);rw[b];refine⟨?_,?_⟩
   ·rw[List.map_cons,p];rfl
   ·intro y b;rcases jI.1 b with rfl|b
    ·simp[f]
    ·exact m y b
theorem TK (d:List Item) (h:okI [] d) (f:(qG d).length<=2000):∃e:List Tok,zZ (qG d)=(e++[⟨0,0,(qG d).length⟩],0,0)∧e.map (fun t=>(t.kind,t.n))=d.map (·.2):=by
 obtain⟨c,a⟩:=Ee d h 0;refine⟨(qk 0 (qG d)).map (·.t),?_,by rw[<-c,List.map_map];rfl⟩;unfold zZ;rw[if_neg (by omega),List.find?_eq_none.2 fun y b=>by simpa using a y b]
abbrev Res (α:Type):=Except Int (α×List Tok)
def headAt (l:List Tok):Int:=match l with
 |[]=>0
 |t::_=>t.at'
def qm {α β:Type} (x:Res α) (f:α->List Tok->Res β):Res β:=match x with
 |.error a=>.error a
 |.ok (a,l)=>f a l
def qX (k:Int) (l:List Tok):Res Int:=match l with
 |[]=>.error 0
 |t::r=>if t.kind=k then .ok (t.n,if k=0 then t::r else r)else .error t.at'
def isS (c:Int) (l:List Tok):Bool:=match l with
 |[]=>false
 |t::_=>(t.kind==5)&&(t.n==c)
def zH (c:Int) (l:List Tok):Res Unit:=if isS c l=true then .ok ((),l.tail)else .error (headAt l)
def pNum (a:Bool) (l:List Tok):Res Int:=qm (qX 1 l) fun n l=>.ok (if a=true then-n else n,l)
def kA (l:List Tok):Res Int:=if isS 43 l=true then pNum false l.tail else if isS 45 l=true then pNum true l.tail else .ok (0,l)
def yt (n:Int):Int:=if n=19 then 1 else if n=23 then 2 else if n=24 then 3 else if n=13 then 4 else if n=3 then 5 else if n=2 then 6 else 0
def AL (c:Bool) (l:List Tok):Res (Int×Int):=
 qm (qX 2 l) fun a l=>if c=true then qm (zH 44 l) fun _ l=>qm (qX 2 l) fun b l=>.ok ((a,b),l)else .ok ((a,0),l)
def xq (k:Int) (l:List Tok):Res Tm:=
 qm (zH 40 l) fun _ l=>qm (AL (k==5||k==6) l) fun a l=>qm (zH 41 l) fun _ l=>qm (kA l) fun n l=>.ok (⟨k,n,a.1,a.2⟩,l)
def yP (l:List Tok):Res Tm:=match l with
 |[]=>.error 0
 |t::r=>if t.kind=2 then (if yt t.n=0 then .error t.at' else xq (yt t.n) r)
   else qm (if isS 45 (t::r)=true then pNum true r else pNum false (t::r)) fun n l=>.ok (⟨0,n,0,0⟩,l)
def pCmp (l:List Tok):Res Cm:=qm (yP l) fun a l=>qm (qX 4 l) fun c l=>qm (yP l) fun b l=>.ok (⟨c,a,b⟩,l)
def A6:Nat->List Tok->Res (List Cm)
 |0,_=>.error 0
 |f+1,l=>qm (pCmp l) fun c l=>if isS 38 l=true then qm (A6 f l.tail) fun a l=>.ok (c::a,l)else qm (zH 93 l) fun _ l=>.ok ([c],l)
def kD (l:List Tok):Res (Int×Int):=
 if isS 123 l=true then qm (qX 1 l.tail) fun a l=>qm (zH 44 l) fun _ l=>qm (qX 1 l) fun b l=>qm (zH 125 l) fun _ l=>.ok ((a,b),l)else .ok ((1,1),l)
def Aq (l:List Tok):Res (List Cm):=if isS 91 l=true then A6 l.length l.tail else .ok ([],l)
def ve (i:Int) (l:List Tok):Res Unit:=match l with
 |[]=>.error 0
 |t::r=>if t.kind=2∧t.n=i then .ok ((),r)else .error t.at'
def xp (i:Int) (f:Bool) (l:List Tok):Res St:=
 qm (qX 1 (if isS 33 l=true then l.tail else l)) fun k l1=>qm (ve i l1) fun _ l2=>qm (kD l2) fun a d=>qm (Aq d) fun c e=>.ok (⟨isS 33 l,k,a.1,a.2,f,c⟩,e)
def vm:Nat->Nat->Bool->List Tok->Res (List St)
 |0,_,_,_=>.error 0
 |f+1,i,strict,l=>qm (xp i strict l) fun s l=>
   if isS 59 l=true then qm (vm f (i+1) false l.tail) fun a l=>.ok (s::a,l)
   else if isS 44 l=true then qm (vm f (i+1) true l.tail) fun a l=>.ok (s::a,l)
   else .ok ([s],l)
def pPat (l:List Tok):Res Pt:=
 qm (vm (l.length+1) 0 false l) fun a l=>qm (qX 3 l) fun _ l=>qm (qX 1 l) fun w l=>qm (qX 0 l) fun _ l=>.ok (⟨a,w⟩,l)
def zg (c:List UInt8):Pt×Int×Int:=
 if (zZ c).2.2=0 then
  (match pPat (zZ c).1 with
  |.error a=>(⟨[],0⟩,a,90)
  |.ok (p,_)=>(p,0,0))
 else (⟨[],0⟩,(zZ c).2.1,(zZ c).2.2)
def numI (n:Int):List Item:=if n<0 then [(0,5,45),(0,1,-n)]else [(0,1,n)]
def GY (n:Int):List Item:=if 0<n then [(0,5,43),(0,1,n)]else if n<0 then [(0,5,45),(0,1,-n)]else []
def J8:Nat->Int
 |1=>19|2=>23|3=>24|4=>13|5=>3|6=>2|_=>0
def Hu (t:Tm):List Item:=if twoB t=true then [(0,2,t.s),(0,5,44),(0,2,t.r)]else [(0,2,t.s)]
def FM (t:Tm):List Item:=if t.kind=0 then numI t.n else [(0,2,J8 t.kind.toNat),(0,5,40)]++(Hu t++([(0,5,41)]++GY t.n))
def BT (c:Cm):List Item:=FM c.l++([(0,4,c.op)]++FM c.r)
def Ca (b:Int):List (List Item)->List Item
 |[]=>[]
 |[w]=>w
 |w::v::ws=>w++([(0,5,b)]++Ca b (v::ws))
def AG (a b:Int):List Item:=if a=1∧b=1 then []else [(0,5,123),(0,1,a),(0,5,44),(0,1,b),(0,5,125)]
def Ch (a:List Cm):List Item:=if a=[]then []else [(0,5,91)]++(Ca 38 (a.map BT)++[(0,5,93)])
def Em (s:St) (i:Int):List Item:=(if s.neg=true then [(0,5,33)]else [])++([(0,1,s.kind),(0,2,i)]++(AG s.min s.max++Ch s.6))
def sepI (s:St) (i:Nat):List Item:=if i=0 then []else if s.5=true then [(0,5,44)]else [(0,5,59)]
def vO:Nat->List St->List Item
 |_,[]=>[]
 |i,s::ss=>sepI s i++(Em s i++vO (i+1) ss)
def patI (p:Pt):List Item:=vO 0 p.1++[(1,3,0),(1,1,p.2)]
theorem yB {n:Int} (h:0<=n) (a:n<=1099511627776):qS 1 n=Lib.itoa n:=by unfold qS;rw[if_pos ⟨rfl,h,a⟩]
theorem Bl {n:Int} (h:0<=n) (a:n<26):qS 2 n=[UInt8.ofNat (97+n.toNat)]:=by unfold qS;rw[if_neg (by omega),if_pos ⟨rfl,h,a⟩]
theorem Rr {n:Int} (h:0<n) (a:n<7):qS 4 n=qJ n.toNat:=by unfold qS;rw[if_neg (by omega),if_neg (by omega),if_neg (by omega),if_pos ⟨rfl,h,a⟩]
theorem FL (n:Nat) (h:0<n) (c:n<128) (a:xm (UInt8.ofNat n)=true):qS 5 n=[UInt8.ofNat n]:=by
 unfold qS;rw[if_neg (by omega),if_neg (by omega),if_neg (by omega),if_neg (by omega),if_pos ⟨rfl,by omega,by omega,a⟩];rfl
theorem DZ {n:Int} (h:n<0):Lib.itoa n=45::Lib.itoa (-n):=by
 rw[show n=-((-n).toNat:Int)from by omega];unfold Lib.itoa;rw[if_pos (by omega),if_neg (by omega)];congr 2;omega
theorem vt (n:Int) (h:0<=n):∃c r,Lib.itoa n=c::r∧digB c=true:=by
 rw[Ij n h];have a:=yy n.toNat;have b:=As _ a.1;cases e:Lib.decDigits n.toNat with
 |nil=>rw[e]at a;simp[zB]at a
 |cons c r=>rw[e]at b;simp only[List.all_cons,jJ]at b;exact⟨c,r,rfl,b.1⟩
theorem Uj {n:Int} (h:1<=n) (a:n<7):qS 4 n=opT n:=by
 rw[Rr (by omega) a];unfold opT;rw[if_pos ⟨by omega,a⟩]
theorem kI {n:Int} (h:0<=n) (a:n<26):qS 2 n=qy n:=by
 rw[Bl h a];unfold qy;rw[if_pos ⟨h,a⟩]
theorem Sy {n:Int} (h:-1099511627776<=n) (c:n<=1099511627776):qG (numI n)=Lib.itoa n:=by
 unfold numI;by_cases a:n<0
 ·rw[if_pos a,DZ a];simp only[qG,List.replicate_zero,jD,jo];rw[yB (by omega) (by omega)];rfl
 ·rw[if_neg a];simp only[qG,List.replicate_zero,jD,jo];exact yB (by omega) c
theorem OE {n:Int} (h:-1099511627776<=n) (d:n<=1099511627776):qG (GY n)=JJ n:=by
 unfold GY JJ;by_cases c:0<n
 ·rw[if_pos c,if_pos c];simp only[qG,List.replicate_zero,jD,jo];rw[yB (by omega) (by omega)];rfl
 ·rw[if_neg c,if_neg c];by_cases a:n<0
  ·rw[if_pos a,if_pos a,DZ a];simp only[qG,List.replicate_zero,jD,jo];rw[yB (by omega) (by omega)];rfl
  ·rw[if_neg a,if_neg a];rfl
theorem AV {t:Tm} (h:tmB t=true):-1099511627776<=t.n∧t.n<=1099511627776∧t.kind<7∧0<=t.s∧t.s<26∧0<=t.r∧t.r<26∧(t.kind=0->t.s=0)∧(twoB t=false->t.r=0):=by
 simp only[tmB,jJ,decide_eq_true_eq,Bool.or_eq_true,bne_iff_ne,ne_eq,beq_iff_eq]at h;obtain⟨⟨⟨⟨⟨⟨⟨⟨e,a⟩,i⟩,b⟩,j⟩,l⟩,c⟩,k⟩,d⟩:=h;refine⟨e,a,i,b,j,l,c,fun f=>k.resolve_left (fun g=>g f),fun m=>d.resolve_left (fun g=>by rw[m]at g;cases g)⟩
theorem M9 {t:Tm} (h:tmB t=true):qG (Hu t)=if twoB t=true then qy t.s++[44]++qy t.r else qy t.s:=by
 obtain⟨_,_,_,a,b,c,d,_,_⟩:=AV h;unfold Hu;split
 ·simp only[qG,List.replicate_zero,jD,jo];rw[kI a b,kI c d];simp[qS];rfl
 ·simp only[qG,List.replicate_zero,jD,jo];exact kI a b
theorem PP {k:Int} (a:0<=k) (h:k≠0) (c:k<7):qS 2 (J8 k.toNat)=yX k.toNat:=by
 obtain⟨m,rfl⟩:=jr a;have:m=1∨m=2∨m=3∨m=4∨m=5∨m=6:=by omega
 rcases this with rfl|rfl|rfl|rfl|rfl|rfl<;>decide
theorem DK {t:Tm} (h:tmB t=true) (j:0<=t.kind):qG (FM t)=vl t:=by
 obtain⟨c,b,d,e,g,i,f,_,_⟩:=AV h;unfold FM vl;by_cases a:t.kind=0
 ·rw[if_pos a,if_pos a];exact Sy c b
 ·rw[if_neg a,if_neg a,qQ,qQ,qQ,M9 h,OE c b];simp only[qG,List.replicate_zero,jD,jo];rw[PP j a d];simp[qS];rfl
theorem EU {c:Cm} (h:cmB c=true):1<=c.op∧c.op<7∧tmB c.l=true∧tmB c.r=true:=by
 simp only[cmB,jJ,decide_eq_true_eq]at h;exact⟨h.1.1.1,h.1.1.2,h.1.2,h.2⟩
def okK (c:Cm):Prop:=0<=c.l.kind∧0<=c.r.kind
theorem Kp {c:Cm} (h:cmB c=true) (f:okK c):qG (BT c)=cmpT c:=by
 obtain⟨e,a,d,b⟩:=EU h;unfold BT cmpT QV;rw[if_pos h,qQ,qQ,DK d f.1,DK b f.2];simp only[qG,List.replicate_zero,jD,jo];rw[Uj e a,jk]
theorem Ii:∀(g:List Cm),(∀c∈g,cmB c=true∧okK c)->qG (Ca 38 (g.map BT))=jz 38 (g.map cmpT)
 |[],_=>rfl
 |[c],h=>by
   obtain⟨a,b⟩:=h c (by simp);exact Kp a b
 |c::d::g,h=>by
   obtain⟨a,b⟩:=h c (by simp);have e:=Ii (d::g) (fun x f=>h x (by simp[f]));simp only[List.map_cons,Ca,jz]at e⊢;rw[qQ,qQ,e,Kp a b];simp only[qG,List.replicate_zero,jD,jo];simp[qS];rfl
theorem Eo {s:St} (h:stB s=true):(0<=s.kind∧s.kind<=1099511627776)∧(0<=s.min∧s.min<=1099511627776)∧(0<=s.max∧s.max<=1099511627776)∧∀c∈s.6,cmB c=true:=by
 simp only[stB,numB,jJ,decide_eq_true_eq,List.all_eq_true]at h;exact⟨h.1.1.1,h.1.1.2,h.1.2,h.2⟩
theorem Mr {a b:Int} (h:0<=a∧a<=1099511627776) (c:0<=b∧b<=1099511627776):qG (AG a b)=AE a b:=by
 unfold AG AE;split
 ·rfl
 ·simp only[qG,List.replicate_zero,jD,jo];rw[yB h.1 h.2,yB c.1 c.2];simp[qS];rfl
theorem Qa {a:List Cm} (h:∀c∈a,cmB c=true∧okK c):qG (Ch a)=Gi a:=by
 unfold Ch Gi;split
 ·rfl
 ·rw[qQ,qQ,Ii a h];simp only[qG,List.replicate_zero,jD,jo];simp[qS];rfl
def okS (s:St):Prop:=∀c∈s.6,okK c
theorem OI {s:St} (h:stB s=true) (k:okS s) {i:Int} (g:0<=i) (j:i<26):qG (Em s i)=Ao s i:=by
 obtain⟨a,b,c,d⟩:=Eo h;unfold Em Ao stepT0;rw[if_pos (show stB s=true∧0<=i∧i<26 from⟨h,g,j⟩),qQ,qQ,qQ,Mr b c,Qa fun x f=>⟨d x f,k x f⟩];simp only[qG,List.replicate_zero,jD,jo];rw[yB a.1 a.2,kI g j];have e:qS 5 33=[33]:=by decide
 cases l:s.neg<;>simp[qG,e]
theorem FP:∀(e:List St) (i:Nat),(∀s∈e,stB s=true∧okS s)->i+e.length<=26->qG (vO i e)=stepsT i e
 |[],_,_,_=>rfl
 |s::e,i,h,hi=>by
   obtain⟨a,b⟩:=h s (by simp);simp only[jF]at hi;have d:=FP e (i+1) (fun x c=>h x (by simp[c])) (by omega);simp only[vO,stepsT];rw[qQ,qQ,d,OI a b (by omega) (by omega),jk];congr 1;unfold sepI sepT
   (repeat' split)<;>simp[qG,qS]<;>rfl
theorem vR {p:Pt} (h:ptB p=true):0<p.1.length∧p.1.length<=26∧(0<=p.2∧p.2<=1099511627776)∧∀s∈p.1,stB s=true:=by
 simp only[ptB,numB,jJ,decide_eq_true_eq,List.all_eq_true]at h;exact⟨h.1.1.1,h.1.1.2,h.1.2,h.2⟩
def okP (p:Pt):Prop:=∀s∈p.1,okS s
theorem Sb {p:Pt} (h:ptB p=true) (f:okP p):qG (patI p)=patT p:=by
 obtain⟨a,b,c,d⟩:=vR h;unfold patI patT;rw[qQ,FP p.1 0 (fun s e=>⟨d s e,f s e⟩) (by omega)];simp only[qG,jo];rw[yB c.1 c.2];congr 1
def F2 (e:List UInt8):Prop:=∀c,e.head?=some c->digB c=false
def QF (e:List UInt8):Prop:=∀c,e.head?=some c->letB c=false
def noeq (e:List UInt8):Prop:=∀c,e.head?=some c->c≠61
theorem TF {n:Int} (h:0<=n) (f:n<=1099511627776) (c:UInt8):kr (qS 1 n) c=!digB c:=by
 rw[yB h f];obtain⟨d,r,e,a⟩:=vt n h;rw[e];simp[kr,a]
theorem TG {n:Int} (h:0<=n) (d:n<26) (c:UInt8):kr (qS 2 n) c=!letB c:=by
 rw[Bl h d];have f:(UInt8.ofNat (97+n.toNat)).toNat=97+n.toNat:=by rw[UInt8.toNat_ofNat'];omega
 have a:digB (UInt8.ofNat (97+n.toNat))=false:=by simp[digB];omega
 have e:letB (UInt8.ofNat (97+n.toNat))=true:=by simp[letB];omega
 generalize UInt8.ofNat (97+n.toNat)=x at*;simp[kr,a,e]
theorem Br {n:Int} (h:0<=n) (f:n<=1099511627776) {e:List UInt8} (i:F2 e) (g:Nat):okI e [(g,1,n)]:=by
 refine⟨?_,fun c a=>?_,trivial⟩
 ·obtain⟨d,r,b,_⟩:=vt n h;rw[yB h f,b];simp
 ·rw[TF h f,i c a];rfl
theorem EF {n:Int} (h:0<=n) (d:n<26) {e:List UInt8} (f:QF e) (g:Nat):okI e [(g,2,n)]:=by
 refine⟨?_,fun c a=>?_,trivial⟩
 ·rw[Bl h d];simp
 ·rw[TG h d,f c a];rfl
theorem okI_op {n:Int} (h:1<=n) (i:n<7) {e:List UInt8} (f:noeq e) (g:Nat):okI e [(g,4,n)]:=by
 have d:n=1∨n=2∨n=3∨n=4∨n=5∨n=6:=by omega
 refine⟨?_,fun c b=>?_,trivial⟩
 ·rcases d with rfl|rfl|rfl|rfl|rfl|rfl<;>decide
 ·have a:=f c b;rcases d with rfl|rfl|rfl|rfl|rfl|rfl<;>simp[qS,qJ,kr,digB,letB,a]
theorem yW (n:Nat) (h:0<n) (j:n<128) (d:xm (UInt8.ofNat n)=true) (k:n≠33) (e:List UInt8) (g:Nat):okI e [(g,5,n)]:=by
 have i:=FL n h j d;refine⟨by rw[i];simp,fun c _=>?_,trivial⟩;rw[i];have m:(UInt8.ofNat n).toNat=n:=by rw[UInt8.toNat_ofNat'];omega
 have a:UInt8.ofNat n≠33:=by
  intro e;apply k;rw[<-m,e];rfl
 have b:digB (UInt8.ofNat n)=false:=by
  cases f:digB (UInt8.ofNat n)with
  |false=>rfl
  |true=>have:=(UV _ f).2.2.1;rw[d]at this;cases this
 have l:letB (UInt8.ofNat n)=false:=by
  cases f:letB (UInt8.ofNat n)with
  |false=>rfl
  |true=>have:=(Uw _ f).2.2.1;rw[d]at this;cases this
 simp[kr,b,l,d,a]
theorem Ul {e:List UInt8} (d:noeq e) (g:Nat):okI e [(g,5,33)]:=by
 refine⟨by decide,fun c a=>?_,trivial⟩;have:=d c a;simp[qS,xm,BN,kr,digB,letB,this]
theorem S7 (n:Int):∃c r,Lib.itoa n=c::r∧(digB c=true∨c=45):=by
 by_cases h:n<0
 ·exact⟨45,_,DZ h,.inr rfl⟩
 ·obtain⟨c,r,e,a⟩:=vt n (by omega);exact⟨c,r,e,.inl a⟩
theorem PQ {k:Int} (a:0<=k) (h:k≠0) (d:k<7):∃c,yX k.toNat=[c]∧letB c=true:=by
 obtain⟨m,rfl⟩:=jr a;have:m=1∨m=2∨m=3∨m=4∨m=5∨m=6:=by omega
 rcases this with rfl|rfl|rfl|rfl|rfl|rfl<;>exact⟨_,rfl,by decide⟩
theorem Ms {t:Tm} (h:tmB t=true) (f:0<=t.kind):∃c r,vl t=c::r∧(digB c=true∨letB c=true∨c=45):=by
 obtain⟨_,_,d,_⟩:=AV h;unfold vl;by_cases b:t.kind=0
 ·rw[if_pos b];obtain⟨c,r,e,a⟩:=S7 t.n;exact⟨c,r,e,by rcases a with a|a<;>simp[a]⟩
 ·rw[if_neg b];obtain⟨c,e,a⟩:=PQ f b d;rw[e];exact⟨c,_,rfl,.inr (.inl a)⟩
theorem Sz {t:Tm} (h:tmB t=true) (f:0<=t.kind) (e:List UInt8):noeq (vl t++e):=by
 obtain⟨c,r,d,a⟩:=Ms h f;intro x b;rw[d]at b;simp only[jE,List.head?_cons,Option.some.injEq]at b;subst b;rcases a with a|a|a
 ·rintro rfl;simp[digB]at a
 ·rintro rfl;simp[letB]at a
 ·rw[a];decide
theorem numI_ok {n:Int} (h:-1099511627776<=n) (c:n<=1099511627776) {e:List UInt8} (a:F2 e):okI e (numI n):=by
 unfold numI;split
 ·exact qK (f:=[(0,5,45)]) (yW 45 (by omega) (by omega) (by decide) (by omega) _ 0) (Br (by omega) (by omega) a 0)
 ·exact Br (by omega) c a 0
theorem T2 {n:Int} (h:-1099511627776<=n) (c:n<=1099511627776) {e:List UInt8} (a:F2 e):okI e (GY n):=by
 unfold GY;split
 ·exact qK (f:=[(0,5,43)]) (yW 43 (by omega) (by omega) (by decide) (by omega) _ 0) (Br (by omega) (by omega) a 0)
 ·split
  ·exact qK (f:=[(0,5,45)]) (yW 45 (by omega) (by omega) (by decide) (by omega) _ 0) (Br (by omega) (by omega) a 0)
  ·trivial
theorem DV {c:UInt8} (h:letB c=false) (r:List UInt8):QF (c::r):=by intro x a;simp at a;subst a;exact h
theorem ki {c:UInt8} (h:digB c=false) (r:List UInt8):F2 (c::r):=by intro x a;simp at a;subst a;exact h
theorem SA {c:UInt8} (h:c≠61) (r:List UInt8):noeq (c::r):=by intro x a;simp at a;subst a;exact h
theorem xY (m:Int) (n:Nat) (d:m=n) (h:0<n) (c:n<128) (f:xm (UInt8.ofNat n)=true) (a:List Item) (e:List UInt8):qG ((0,5,m)::a)++e=UInt8.ofNat n::(qG a++e):=by
 subst d;simp only[qG,List.replicate_zero,jD];rw[FL n h c f];rfl
theorem Gb {k:Int} (a:0<=k) (h:k≠0) (c:k<7):0<=J8 k.toNat∧J8 k.toNat<26∧yt (J8 k.toNat)=k:=by
 obtain⟨m,rfl⟩:=jr a;have:m=1∨m=2∨m=3∨m=4∨m=5∨m=6:=by omega
 rcases this with rfl|rfl|rfl|rfl|rfl|rfl<;>decide
theorem Mu {t:Tm} (h:tmB t=true) (o:0<=t.kind) {e:List UInt8} (n:F2 e):okI e (FM t):=by
 obtain⟨f,c,j,d,g,k,l,_,_⟩:=AV h;unfold FM;by_cases b:t.kind=0
 ·rw[if_pos b];exact numI_ok f c n
 ·rw[if_neg b];obtain⟨p,i,_⟩:=Gb o b j;refine qK (qK (f:=[(0,2,J8 t.kind.toNat)]) (d:=[(0,5,40)]) (EF p i ?_ 0) (yW 40 (by omega) (by omega) (by decide) (by omega) _ 0)) (qK ?_ (qK (yW 41 (by omega) (by omega) (by decide) (by omega) _ 0) (T2 f c n)))
  ·rw[xY 40 40 rfl (by omega) (by omega) (by decide)];exact DV (by decide) _
  ·have a:∀m,QF (qG ([(0,5,41)]++m)++e):=fun m=>by
    rw[List.singleton_append,xY 41 41 rfl (by omega) (by omega) (by decide)];exact DV (by decide) _
   unfold Hu;split
   ·refine qK (f:=[(0,2,t.s)]) (d:=[(0,5,44),(0,2,t.r)]) (EF d g ?_ 0) (qK (f:=[(0,5,44)]) (d:=[(0,2,t.r)]) (yW 44 (by omega) (by omega) (by decide) (by omega) _ 0) (EF k l (a _) 0));rw[xY 44 44 rfl (by omega) (by omega) (by decide)];exact DV (by decide) _
   ·exact EF d g (a _) 0
theorem op_head {n:Int} (h:1<=n) (d:n<7):∃c r,qS 4 n=c::r∧digB c=false∧letB c=false:=by
 have a:n=1∨n=2∨n=3∨n=4∨n=5∨n=6:=by omega
 rcases a with rfl|rfl|rfl|rfl|rfl|rfl<;>exact⟨_,_,rfl,by decide,by decide⟩
theorem Up {n:Int} (h:1<=n) (d:n<7) (f:List Item) (e:List UInt8):F2 (qG ((0,4,n)::f)++e):=by
 obtain⟨c,r,a,b,_⟩:=op_head h d;simp only[qG,List.replicate_zero,jD];rw[a];exact ki b _
theorem QW {c:Cm} (h:cmB c=true) (g:okK c) {e:List UInt8} (i:F2 e):okI e (BT c):=by
 obtain⟨d,b,f,a⟩:=EU h;unfold BT;refine qK (Mu f g.1 ?_) (qK (okI_op d b ?_ 0) (Mu a g.2 i))
 ·exact Up d b _ _
 ·rw[DK a g.2];exact Sz a g.2 _
theorem Nr:∀(i:List Cm),(∀c∈i,cmB c=true∧okK c)->∀{e:List UInt8},F2 e->okI e (Ca 38 (i.map BT))
 |[],_,_,_=>trivial
 |[c],h,_,he=>by
   obtain⟨a,b⟩:=h c (by simp);exact QW a b he
 |c::d::i,h,e,he=>by
   obtain⟨a,b⟩:=h c (by simp);have f:=Nr (d::i) (fun x g=>h x (by simp[g])) he;simp only[List.map_cons,Ca]at f⊢;refine qK (QW a b ?_) (qK (yW 38 (by omega) (by omega) (by decide) (by omega) _ 0) f);rw[List.singleton_append,xY 38 38 rfl (by omega) (by omega) (by decide)];exact ki (by decide) _
theorem UZ {a:List Cm} (h:∀c∈a,cmB c=true∧okK c) (e:List UInt8):okI e (Ch a):=by
 unfold Ch;split
 ·trivial
 ·refine qK (yW 91 (by omega) (by omega) (by decide) (by omega) _ 0) (qK (Nr a h ?_) (yW 93 (by omega) (by omega) (by decide) (by omega) _ 0));rw[xY 93 93 rfl (by omega) (by omega) (by decide)];exact ki (by decide) _
theorem Rq {a b:Int} (h:0<=a∧a<=1099511627776) (c:0<=b∧b<=1099511627776) (e:List UInt8):okI e (AG a b):=by
 unfold AG;split
 ·trivial
 ·refine qK (f:=[(0,5,123)]) (yW 123 (by omega) (by omega) (by decide) (by omega) _ 0) (qK (f:=[(0,1,a)]) (Br h.1 h.2 ?_ 0) (qK (f:=[(0,5,44)]) (yW 44 (by omega) (by omega) (by decide) (by omega) _ 0) (qK (f:=[(0,1,b)]) (Br c.1 c.2 ?_ 0) (yW 125 (by omega) (by omega) (by decide) (by omega) _ 0))))
  ·rw[xY 44 44 rfl (by omega) (by omega) (by decide)];exact ki (by decide) _
  ·rw[xY 125 125 rfl (by omega) (by omega) (by decide)];exact ki (by decide) _
def sepE (e:List UInt8):Prop:=∀c,e.head?=some c->digB c=false∧letB c=false
theorem E9 {s:St} {e:List UInt8} (d:sepE e):QF (qG (AG s.min s.max++Ch s.6)++e):=by
 rw[qQ];unfold AG;split
 ·unfold Ch;split
  ·intro c a;exact(d c (by simpa[qG]using a)).2
  ·intro c a;rw[List.singleton_append]at a;simp only[qG,jD]at a;rw[show List.replicate 0 (32:UInt8)=[]from rfl,jD,show qS 5 91=[91]from by decide]at a;simp at a;subst a;decide
 ·intro c a;simp only[qG,List.replicate_zero,jD]at a;rw[show qS 5 123=[123]from by decide]at a;simp at a;subst a;decide
theorem T4 {s:St} (h:stB s=true) (n:okS s) {i:Int} (k:0<=i) (l:i<26) {e:List UInt8} (m:sepE e):okI e (Em s i):=by
 obtain⟨a,b,c,d⟩:=Eo h;have f:okI e ([(0,1,s.kind),(0,2,i)]++(AG s.min s.max++Ch s.6)):=by
  refine qK (qK (f:=[(0,1,s.kind)]) (d:=[(0,2,i)]) (Br a.1 a.2 ?_ 0) (EF k l (E9 m) 0)) (qK (Rq b c _) (UZ (fun x g=>⟨d x g,n x g⟩) e))
  ·have o:(UInt8.ofNat (97+i.toNat)).toNat=97+i.toNat:=by rw[UInt8.toNat_ofNat'];omega
   simp only[qG,List.replicate_zero,jD,jo];rw[Bl k l];exact ki (by simp[digB];omega) _
 unfold Em;split
 ·refine qK (Ul ?_ 0) f;obtain⟨x,r,g,j⟩:=vt s.kind a.1;simp only[jE,jD,qG,List.replicate_zero,yB a.1 a.2,g];exact SA (by rintro rfl;simp[digB]at j) _
 ·exact f
theorem Fc {c:UInt8} (h:digB c=false∧letB c=false) (r:List UInt8):sepE (c::r):=by intro x a;simp at a;subst a;exact h
theorem JK:∀(k:List St) (i:Nat),(∀s∈k,stB s=true∧okS s)->i+k.length<=26->∀{e:List UInt8},sepE e->okI e (vO i k)∧(0<i->sepE (qG (vO i k)++e))
 |[],_,_,_,_,he=>⟨trivial,fun _=>by simpa[vO,qG]using he⟩
 |s::k,i,h,hi,e,he=>by
   obtain⟨a,b⟩:=h s (by simp);simp only[jF]at hi;obtain⟨g,d⟩:=JK k (i+1) (fun x f=>h x (by simp[f])) (by omega) he;have c:=qK (T4 a b (i:=(i:Int)) (by omega) (by omega) (d (by omega))) g;simp only[vO];unfold sepI;split
   ·rename_i j;exact⟨c,fun h=>by omega⟩
   ·split
    ·refine⟨qK (yW 44 (by omega) (by omega) (by decide) (by omega) _ 0) c,fun _=>?_⟩;rw[List.singleton_append,xY 44 44 rfl (by omega) (by omega) (by decide)];exact Fc (by decide) _
    ·refine⟨qK (yW 59 (by omega) (by omega) (by decide) (by omega) _ 0) c,fun _=>?_⟩;rw[List.singleton_append,xY 59 59 rfl (by omega) (by omega) (by decide)];exact Fc (by decide) _
theorem patI_ok {p:Pt} (h:ptB p=true) (g:okP p):okI [] (patI p):=by
 obtain⟨a,b,c,d⟩:=vR h;unfold patI;refine qK (JK p.1 0 (fun s f=>⟨d s f,g s f⟩) (by omega) ?_).1 ?_
 ·exact Fc (by decide) _
 ·refine⟨by decide,fun x e=>?_,?_,fun x e=>by simp[qG]at e,trivial⟩
  ·simp[qG]at e;subst e;decide
  ·obtain⟨x,r,e,_⟩:=vt p.2 c.1;rw[yB c.1 c.2,e];simp
def KN (c:List Tok) (a:List Item):Prop:=c.map (fun t=>(t.kind,t.n))=a.map (·.2)
theorem KN.app {f:List Tok} {g i:List Item} (h:KN f (g++i)):∃a e,f=a++e∧KN a g∧KN e i:=by
 unfold KN at h;rw[dC]at h;obtain⟨a,e,c,d,b⟩:=List.map_eq_append_iff.1 h;exact⟨a,e,c,d,b⟩
theorem KN.cons {i:List Tok} {g:Nat} {k n:Int} {j:List Item} (h:KN i ((g,k,n)::j)):∃a r,i=⟨k,n,a⟩::r∧KN r j:=by
 unfold KN at h;rw[List.map_cons]at h;obtain⟨t,r,d,b,c⟩:=List.map_eq_cons_iff.1 h;obtain⟨f,e,a⟩:=t;simp only[Prod.mk.injEq]at b;obtain⟨rfl,rfl⟩:=b;exact⟨a,r,d,c⟩
theorem KN.nil {a:List Tok} (h:KN a []):a=[]:=by
 unfold KN at h;simpa using h
theorem KN.len {c:List Tok} {a:List Item} (h:KN c a):c.length=a.length:=by
 have:=congrArg List.length h;simpa using this
theorem zu (c k n a:Int) (r:List Tok):isS c (⟨k,n,a⟩::r)=((k==5)&&(n==c)):=rfl
theorem yj (k n a:Int) (r:List Tok) (c:k≠0):qX k (⟨k,n,a⟩::r)= .ok (n,r):=by
 simp[qX,c]
theorem kh (c a:Int) (r:List Tok):zH c (⟨5,c,a⟩::r)= .ok ((),r):=by
 simp[zH,isS]
@[simp] theorem qr {α β:Type} (a:α) (l:List Tok) (f:α->List Tok->Res β):qm (.ok (a,l)) f=f a l:=rfl
theorem Sg {f:List Tok} {n:Int} (h:KN f (numI n)) (r:List Tok):(if isS 45 (f++r)=true then pNum true (f++r).tail else pNum false (f++r))= .ok (n,r):=by
 unfold numI at h;by_cases g:n<0
 ·rw[if_pos g]at h;have c:=h.cons;clear h;obtain⟨a,d,rfl,h⟩:=c;have c:=h.cons;clear h;obtain⟨b,e,rfl,h⟩:=c;obtain rfl:=h.nil;simp[zu,pNum,yj]
 ·rw[if_neg g]at h;have c:=h.cons;clear h;obtain⟨a,d,rfl,h⟩:=c;obtain rfl:=h.nil;simp[zu,pNum,yj]
theorem Pe {i:List Tok} {n:Int} (h:KN i (GY n)) (r:List Tok) (j:isS 43 r=false) (k:isS 45 r=false):kA (i++r)= .ok (n,r):=by
 unfold GY at h;by_cases g:0<n
 ·rw[if_pos g]at h;have c:=h.cons;clear h;obtain⟨a,e,rfl,h⟩:=c;have c:=h.cons;clear h;obtain⟨b,d,rfl,h⟩:=c;obtain rfl:=h.nil;simp[zu,kA,pNum,yj]
 ·rw[if_neg g]at h;by_cases f:n<0
  ·rw[if_pos f]at h;have c:=h.cons;clear h;obtain⟨a,e,rfl,h⟩:=c;have c:=h.cons;clear h;obtain⟨b,d,rfl,h⟩:=c;obtain rfl:=h.nil;simp[zu,kA,pNum,yj]
  ·rw[if_neg f]at h;obtain rfl:=h.nil;rw[jD];unfold kA;rw[j,k,show n=0 from by omega];rfl
theorem Ho {Q:List Tok} {t:Tm} (W:tmB t=true) (V:0<=t.kind) (h:KN Q (FM t)) (r:List Tok) (T:isS 43 r=false) (U:isS 45 r=false):yP (Q++r)= .ok (t,r):=by
 obtain⟨_,_,y,K,H,E,O,q,s⟩:=AV W;unfold FM at h;by_cases i:t.kind=0
 ·rw[if_pos i]at h;have m:=Sg h r;have R:t.r=0:=s (by simp[twoB,i]);have l:t=⟨0,t.n,0,0⟩:=by
   cases t;simp only at i q R⊢;rw[i,q i,R]
  obtain⟨x,S,v,o⟩:∃x S,Q=x::S∧x.kind≠2:=by
   unfold numI at h;split at h
   ·obtain⟨a,u,e,_⟩:=h.cons;exact⟨_,_,e,by simp⟩
   ·obtain⟨a,u,e,_⟩:=h.cons;exact⟨_,_,e,by simp⟩
  subst v;simp only[jE]at m⊢;unfold yP;simp only[List.tail_cons]at m;simp only[if_neg o];rw[m,qr,<-l]
 ·rw[if_neg i]at h;obtain⟨Z,M,w⟩:=Gb V i y;have f:=h.app;clear h;obtain⟨J,t2,rfl,z,h⟩:=f;have f:=z.cons;clear z;obtain⟨a,u,rfl,z⟩:=f;have f:=z.cons;clear z;obtain⟨b,F,rfl,z⟩:=f;obtain rfl:=z.nil;have f:=h.app;clear h;obtain⟨X,t4,rfl,n,h⟩:=f;have f:=h.app;clear h;obtain⟨t5,I,rfl,P,h⟩:=f;have f:=P.cons;clear P;obtain⟨c,C,rfl,P⟩:=f;obtain rfl:=P.nil;have A:=Pe h r T U;have k:∀p,AL (t.kind==5||t.kind==6) (X++p)= .ok ((t.s,t.r),p):=by
   intro p;unfold Hu at n;by_cases g:twoB t=true
   ·rw[if_pos g]at n;have f:=n.cons;clear n;obtain⟨d,B,rfl,n⟩:=f;have f:=n.cons;clear n;obtain⟨L,N,rfl,n⟩:=f;have f:=n.cons;clear n;obtain⟨a0,D,rfl,n⟩:=f;obtain rfl:=n.nil;rw[show (t.kind==5||t.kind==6)=true from g];simp[AL,yj,kh]
   ·rw[if_neg g]at n;have j:twoB t=false:=by simpa using g
    have f:=n.cons;clear n;obtain⟨d,B,rfl,n⟩:=f;obtain rfl:=n.nil;rw[show (t.kind==5||t.kind==6)=false from j];simp[AL,yj,s j]
  simp only[jE,jD,jk];unfold yP;simp only[if_true,w,i,if_false];unfold xq;rw[kh,qr,k,qr,kh,qr,A,qr]
theorem JW {m:List Tok} {c:Cm} (q:cmB c=true) (l:okK c) (h:KN m (BT c)) (r:List Tok) (n:isS 43 r=false) (o:isS 45 r=false):pCmp (m++r)= .ok (c,r):=by
 obtain⟨_,_,g,e⟩:=EU q;unfold BT at h;have b:=h.app;clear h;obtain⟨j,t,rfl,p,h⟩:=b;have b:=h.app;clear h;obtain⟨u,s,rfl,d,h⟩:=b;have b:=d.cons;clear d;obtain⟨a,k,rfl,d⟩:=b;obtain rfl:=d.nil;have i:=Ho g l.1 p (⟨4,c.op,a⟩::(s++r)) (by simp[zu]) (by simp[zu]);have f:=Ho e l.2 h r n o;simp only[jk,jE,jD];unfold pCmp;rw[i,qr,yj _ _ _ _ (by decide),qr,f,qr]
theorem Hp:∀(n:List Cm) (f:Nat) (p r:List Tok),n≠[]->(∀c∈n,cmB c=true∧okK c)->KN p (Ca 38 (n.map BT))->n.length<=f->∀a:Int,
  A6 f (p++⟨5,93,a⟩::r)= .ok (n,r)
 |[],_,_,_,h,_,_,_,_=>absurd rfl h
 |[c],0,_,_,_,_,_,h,_=>by simp at h
 |_::_::_,0,_,_,_,_,_,h,_=>by simp at h
 |[c],f+1,p,r,_,hc,h,_,a=>by
   obtain⟨j,q⟩:=hc c (by simp);have e:=JW j q h (⟨5,93,a⟩::r) (by simp[zu]) (by simp[zu]);unfold A6;rw[e,qr,if_neg (by simp[zu]),kh,qr]
 |c::d::n,f+1,p,r,_,hc,h,hf,a=>by
   obtain⟨j,q⟩:=hc c (by simp);simp only[List.map_cons,Ca]at h;have g:=h.app;clear h;obtain⟨m,u,rfl,t,h⟩:=g;have g:=h.app;clear h;obtain⟨y,s,rfl,i,h⟩:=g;have g:=i.cons;clear i;obtain⟨b,o,rfl,i⟩:=g;obtain rfl:=i.nil;have l:=Hp (d::n) f s r (by simp) (fun x k=>hc x (by simp[k])) h (by simpa using hf) a;have e:=JW j q t (⟨5,38,b⟩::(s++⟨5,93,a⟩::r)) (by simp[zu]) (by simp[zu]);simp only[jk,jE,jD];unfold A6;rw[e,qr,if_pos (by simp[zu]),List.tail_cons,l,qr]
theorem Kf:∀(a:List Cm),a.length<=(Ca 38 (a.map BT)).length
 |[]=>by simp
 |[c]=>by simp[Ca,BT];omega
 |c::d::a=>by
   have:=Kf (d::a);simp only[List.map_cons,Ca,jZ,jF,jO]at this⊢;omega
theorem Pf {o:List Tok} {k:List Cm} (q:∀c∈k,cmB c=true∧okK c) (h:KN o (Ch k)) (r:List Tok) (p:isS 91 r=false):Aq (o++r)= .ok (k,r):=by
 unfold Ch at h;by_cases f:k=[]
 ·rw[if_pos f]at h;obtain rfl:=h.nil;rw[jD];unfold Aq;rw[p,f];rfl
 ·rw[if_neg f]at h;have d:=h.app;clear h;obtain⟨g,t,rfl,l,h⟩:=d;have d:=l.cons;clear l;obtain⟨a,j,rfl,l⟩:=d;obtain rfl:=l.nil;have d:=h.app;clear h;obtain⟨n,u,rfl,m,h⟩:=d;have d:=h.cons;clear h;obtain⟨b,i,rfl,h⟩:=d;obtain rfl:=h.nil;have s:=Kf k;rw[<-m.len]at s;have e:=Hp k (⟨5,91,a⟩::(n++⟨5,93,b⟩::r):List Tok).length n r f q m (by simp;omega) b;simp only[jk,jE,jD];unfold Aq;rw[if_pos (by simp[zu]),List.tail_cons,e]
theorem M5 {j:List Tok} {x y:Int} (h:KN j (AG x y)) (r:List Tok) (k:isS 123 r=false):kD (j++r)= .ok ((x,y),r):=by
 unfold AG at h;by_cases b:x=1∧y=1
 ·rw[if_pos b]at h;obtain rfl:=h.nil;rw[jD];unfold kD;rw[k,b.1,b.2];rfl
 ·rw[if_neg b]at h;have a:=h.cons;clear h;obtain⟨e,i,rfl,h⟩:=a;have a:=h.cons;clear h;obtain⟨l,f,rfl,h⟩:=a;have a:=h.cons;clear h;obtain⟨m,c,rfl,h⟩:=a;have a:=h.cons;clear h;obtain⟨n,d,rfl,h⟩:=a;have a:=h.cons;clear h;obtain⟨o,g,rfl,h⟩:=a;obtain rfl:=h.nil;simp only[jE,jD];unfold kD;rw[if_pos (by simp[zu]),List.tail_cons,yj _ _ _ _ (by decide),qr,kh,qr,yj _ _ _ _ (by decide),qr,kh,qr]
theorem PM {c:Int} {j:List Tok} {f:List Item} (h:KN j f) (m:∀g k n p,f=(g,k,n)::p->¬(k=5∧n=c)) (r:List Tok) (o:isS c r=false):isS c (j++r)=false:=by
 cases f with
 |nil=>obtain rfl:=h.nil;exact o
 |cons i f=>
   obtain⟨g,k,n⟩:=i;have d:=h.cons;clear h;obtain⟨a,e,rfl,_⟩:=d;rw[jE,zu];have:=m g k n f rfl;simp only[Bool.and_eq_false_iff,beq_eq_false_iff_ne];by_cases b:k=5
   ·right;intro l;exact this ⟨b,l⟩
   ·left;exact b
theorem DS {A:List Tok} {s:St} (E:stB s=true) (D:okS s) (i:Int) (strict:Bool) (h:KN A (Em s i)) (r:List Tok) (C:isS 91 r=false) (B:isS 123 r=false):xp i strict (A++r)= .ok ({s with strict:=strict},r):=by
 obtain⟨_,_,_,d⟩:=Eo E;unfold Em at h;have f:=h.app;clear h;obtain⟨v,H,rfl,z,h⟩:=f;have f:=h.app;clear h;obtain⟨I,J,rfl,l,h⟩:=f;have f:=l.cons;clear l;obtain⟨a,y,rfl,l⟩:=f;have f:=l.cons;clear l;obtain⟨b,w,rfl,l⟩:=f;obtain rfl:=l.nil;have f:=h.app;clear h;obtain⟨F,t,rfl,o,h⟩:=f;have q:=M5 o (t++r) (PM h (by
  intro g k n K j;unfold Ch at j;split at j
  ·cases j
  ·simp only[List.singleton_append,List.cons.injEq,Prod.mk.injEq]at j;obtain⟨⟨_,rfl,rfl⟩,_⟩:=j;simp) r B)
 have p:=Pf (fun x j=>⟨d x j,D x j⟩) h r C;simp only[jk,jE,jD];unfold xp;split at z
 ·rename_i e;have f:=z.cons;clear z;obtain⟨c,u,rfl,z⟩:=f;obtain rfl:=z.nil;simp only[jE,jD,zu,beq_self_eq_true,Bool.and_self,if_true,List.tail_cons];rw[yj _ _ _ _ (by decide),qr];simp only[ve,if_true,and_self,qr];rw[q,qr,p,qr,e]
 ·rename_i e;have m:s.neg=false:=by simpa using e
  obtain rfl:=z.nil;simp only[jD];rw[show isS 33 (⟨1,s.kind,a⟩::⟨2,i,b⟩::(F++(t++r)))=false from by simp[zu]];simp only[ji,if_false];rw[yj _ _ _ _ (by decide),qr];simp only[ve,if_true,and_self,qr];rw[q,qr,p,qr,m]
theorem B6:∀(n:List St) (f i:Nat) (q:Bool) (y r:List Tok),(∀s∈n,stB s=true∧okS s)->∀s:St,stB s=true->okS s->
  KN y (Em s i++vO (i+1) n)->n.length<f->s.5=q->(∀c,isS c r=false)->vm f i q (y++r)= .ok (s::n,r)
 |_,0,_,_,_,_,_,_,_,_,_,h,_,_=>by simp at h
 |[],f+1,i,q,y,r,hss,s,hs,hk,h,hf,hst,hr=>by
   simp only[vO,jo]at h;have e:=DS hs hk i q h r (hr _) (hr _);unfold vm;rw[e,qr,hr,hr,<-hst];simp
 |u::n,f+1,i,q,y,r,hss,s,hs,hk,h,hf,hst,hr=>by
   obtain⟨A,m⟩:=hss u (by simp);simp only[vO]at h;have g:=h.app;clear h;obtain⟨p,B,rfl,z,h⟩:=g;have g:=h.app;clear h;obtain⟨C,t,rfl,a,h⟩:=g;unfold sepI at a;rw[if_neg (by omega)]at a;simp only[jk];by_cases d:u.5=true
   ·rw[if_pos d]at a;have g:=a.cons;clear a;obtain⟨b,o,rfl,a⟩:=g;obtain rfl:=a.nil;have e:=DS hs hk i q z (⟨5,44,b⟩::(t++r)) (by simp[zu]) (by simp[zu]);have k:=B6 n f (i+1) true t r (fun x l=>hss x (by simp[l])) u A m h (by simpa using hf) d hr;unfold vm;simp only[jE,jD];rw[e,qr,if_neg (by simp[zu]),if_pos (by simp[zu]),List.tail_cons,k,qr,<-hst]
   ·have j:u.5=false:=by simpa using d
    rw[if_neg d]at a;have g:=a.cons;clear a;obtain⟨b,o,rfl,a⟩:=g;obtain rfl:=a.nil;have e:=DS hs hk i q z (⟨5,59,b⟩::(t++r)) (by simp[zu]) (by simp[zu]);have k:=B6 n f (i+1) false t r (fun x l=>hss x (by simp[l])) u A m h (by simpa using hf) j hr;unfold vm;simp only[jE,jD];rw[e,qr,if_pos (by simp[zu]),List.tail_cons,k,qr,<-hst]
theorem G3:∀(a:List St) (i:Nat),a.length<=(vO i a).length
 |[],_=>by simp
 |s::a,i=>by
   have:=G3 a (i+1);simp only[vO,Em,jZ,jF,jO];omega
theorem Sf {p:Pt} (h:ptB p=true) (u:okP p) (C:strict0 p=false) {B:List Tok} (f:KN B (patI p)) (e n:Int):∃r,pPat (B++[⟨0,n,e⟩])= .ok (p,r):=by
 obtain⟨a,b,c,d⟩:=vR h;obtain⟨i,g⟩:=p;cases i with
 |nil=>simp at a
 |cons s ss=>
   unfold patI at f;have j:=f.app;clear f;obtain⟨l,E,rfl,t,f⟩:=j;have j:=f.cons;clear f;obtain⟨x,q,rfl,f⟩:=j;have j:=f.cons;clear f;obtain⟨y,o,rfl,f⟩:=j;obtain rfl:=f.nil;simp only[vO]at t;rw[show sepI s 0=[]from rfl,jD]at t;have D:=t.len;have m:=G3 ss 1;have k:=B6 ss ((l++[⟨3,0,x⟩,⟨1,g,y⟩]++[⟨0,n,e⟩]:List Tok).length+1) 0 false l [⟨3,0,x⟩,⟨1,g,y⟩,⟨0,n,e⟩] (fun z A=>⟨d z (by simp[A]),u z (by simp[A])⟩) s (d s (by simp)) (u s (by simp)) t
    (by simp[jZ]at D⊢;omega) (by simpa[strict0]using C) (fun c=>by simp[zu])
   refine⟨[⟨0,n,e⟩],?_⟩;unfold pPat;rw[jk];simp only[jE,jD]at k⊢;rw[jk]at k;simp only[jE,jD]at k;rw[k,qr,yj _ _ _ _ (by decide),qr,yj _ _ _ _ (by decide),qr];simp[qX]
theorem MY {p:Pt} (h:ptB p=true) (c:okP p) (e:strict0 p=false) (d:(patT p).length<=2000):zg (patT p)=(p,0,0):=by
 rw[<-Sb h c]at d⊢;obtain⟨g,b,a⟩:=TK (patI p) (patI_ok h c) d;obtain⟨r,f⟩:=Sf h c e a (qG (patI p)).length 0;unfold zg;rw[b];simp only[if_true];rw[f]
theorem Fl (b:UInt8):∀(l:List (List UInt8)),jz b l=Lib.join l [b]
 |[]=>by simp[jz,Lib.join,List.intercalate]
 |[w]=>by simp[jz,Lib.join,List.intercalate]
 |w::v::ws=>by
   have:=Fl b (v::ws);unfold Lib.join List.intercalate at this⊢;simp only[jz,this];simp[List.intersperse]
def GI (a:List Cm):List UInt8:=if a=[]then []else 91::jz 38 (a.map cmpT)
theorem TA (a:List Cm):Gi a=GI a++(if a=[]then []else [93]):=by
 unfold Gi GI;by_cases h:a=[]
 ·simp[h]
 ·simp[h]
theorem FO (s:St):∀(a:List St) (i:Nat),stepsT i (a++[s])=stepsT i a++(sepT s (i+a.length)++Ao s ((i+a.length:Nat):Int))
 |[],i=>by simp[stepsT]
 |t::a,i=>by
   have:=FO s a (i+1);simp only[jE,stepsT,this,jF];rw[show i+1+a.length=i+(a.length+1)from by omega];simp[jk]
theorem Ej {α:Type} {l:List α} {k:Nat} {x:α} (h:l[k]?=some x):l.take (k+1)=l.take k++[x]:=by
 obtain⟨a,rfl⟩:=jG.1 h;exact ja a
theorem Mx {c:List St} {k:Nat} {s:St} (h:c[k]?=some s):stepsT 0 (c.take (k+1))=stepsT 0 (c.take k)++(sepT s k++Ao s (k:Int)):=by
 rw[Ej h,FO];have a:=(jG.1 h).1;rw[jb,Nat.min_eq_left (by omega),dG]
section
variable {P : Program} {ops : Array Oper} {md : Region.Mode} {Q : Exit -> Act -> World -> Prop} {S : World -> Prop} {last : Nat} {L : Act -> World -> Prop} {tl : List Nat}
def Mb (d:Region.Mode) (c:Array Oper) (a:Array Bool):Bool:=
 (List.range c.size).all fun k=>!a.getD k false||match c[k]? with
  |some ok=>ok.after.toList.all fun e=>!Region.binds d e||a.getD e.on false
  |none=>true
theorem N4 {g:Array Bool} (h:Mb md ops g=true):kp md ops g:=by
 intro k l d j e i f;unfold Mb at h;rw[List.all_eq_true]at h;have a:k<ops.size:=(jA.1 d).1;have b:=h k (List.mem_range.2 a);rw[j,d]at b;simp only[Bool.not_true,Bool.false_or,List.all_eq_true]at b;have c:=b e (by simpa using i);rw[f]at c;simpa using c
def moreB (c:Region.Mode) (a:Array Oper) (d:List Nat) (e:Nat) (f:Array Bool):Bool:=
 Region.noSelect a&&Mb c a f&&(d.all fun k=>decide (k≠e)&&AK c a 4 e k)&&vX c a d f
theorem yS {f:Nat} {k:Array Bool} {a:Act} {w:World} (j:List Nat) (l:moreB md ops j last k=true) (n:S w) (m:∀c a d v w,Q (.panic c) (Act.put a d v) w->Q (.panic c) a w)
  (h:heads P ops S (fun i=>zL P md ops Q S last tl L f (kj j k) i w) (qI ops.toList j) a):zL P md ops Q S last tl L (j.length+f) k a w:=by
 simp only[moreB,jJ]at l;obtain⟨⟨⟨b,e⟩,g⟩,o⟩:=l;exact BD b m j k a w (N4 e) g n o h
end
section
variable {P : Program} {ops : Array Oper} {md : Region.Mode} {Q : Exit -> Act -> World -> Prop} {S : World -> Prop}
def xi (P:Program) (d:Region.Mode) (c:Array Oper) (Q:Exit->Act->World->Prop) (S:World->Prop):Nat->Array Bool->Act->World->Prop
 |0,listed,a,w=>Region.ready d c listed=[]∧Q .normal a w
 |f+1,listed,a,w=>Region.ready d c listed≠[]∧∀i∈Region.ready d c listed,wpOp P c Q i (fun e w'=>S w'∧xi P d c Q S f (listed.setIfInBounds i true) e w') a w
theorem Og:∀(f:Nat) (e:Array Bool) (a:Act) (w:World),xi P md ops Q S f e a w->wpAny P md ops Q f e a w
 |0,_,_,_,h=>h
 |f+1,_,_,_,h=>⟨fun b=>absurd b h.1,fun i g=>wpOp_mono (fun c w' d=>Og f _ c w' d.2) (h.2 i g)⟩
theorem IR (e:¬LetsOut Q):∀(f:Nat) (g:Array Bool) (a:Act) (w:World),xi P md ops Q S f g a w->wpAnyIn Fence.wide 0 P md ops Q f g a w
 |0,_,_,_,h=>h
 |f+1,_,_,_,h=>⟨fun b=>absurd b h.1,fun i j=>Fj e (wpOp_mono (fun c w' d=>IR e f _ c w' d.2) (h.2 i j))⟩
theorem Qn {i:Nat} {n:Oper} {v:Value} (V:ops[i]?=some n) (W:∀(j:Nat) (o:Oper) t b,ops[j]?=some o->o.op≠.select t b)
  (X:∀c a w,Q (.panic c) (a.put n.dst v) w->Q (.panic c) a w):
  ∀(f:Nat) (d:Array Bool) (a:Act) (w:World),
   (∀j q,ops[j]?=some q->j≠i->d.getD j true=false->(∀e∈q.after,Region.binds md e=true->e.on≠i)->n.apart ops q=true)->
   i∈Region.ready md ops d->YieldsIf P ops S n v a->S w->
   xi P md ops Q S f (d.setIfInBounds i true) (a.put n.dst v) w->xi P md ops Q S (f+1) d a w:=by
 intro f
 induction f with
 |zero=>
   intro d a w _ m A x H;refine⟨fun h=>(by rw[h]at m;cases m),fun j U=>?_⟩;by_cases g:j=i
   ·subst g;exact A.wpOp V x ⟨x,H⟩
   ·have:=ready_mono U g;rw[H.1]at this;cases this
 |succ f ih=>
   intro d a w l m A x H;refine⟨fun h=>(by rw[h]at m;cases m),fun j U=>?_⟩;by_cases g:j=i
   ·subst g;exact A.wpOp V x ⟨x,H⟩
   ·have s:=H.2 j (ready_mono U g);obtain⟨p,q,r,a2⟩:=mem_ready.1 U;have a1:∀e∈q.after,Region.binds md e=true->e.on≠i:=fun e Z M E=>by
     have s:=a2 e Z M;have J:=(mem_ready.1 m).1;rw[E]at s;rcases Nat.lt_or_ge i d.size with F|F
     ·simp[F]at J s;rw[J]at s;cases s
     ·simp[Array.getElem?_eq_none F]at s
    have O:=wpOp_putIf r (l j q r g p a1) (fun t b=>W i n t b V) (fun t b=>W j q t b r) X A s;have a0:∀k T,ops[k]?=some T->k≠i->(d.setIfInBounds j true).getD k true=false->
      (∀e∈T.after,Region.binds md e=true->e.on≠i)->n.apart ops T=true:=fun k T L C u D=>by
     refine l k T L C ?_ D;by_cases y:j=k
     ·subst y;exact p
     ·rw[getD_set_ne true y]at u;exact u
    refine wpOp_mono (fun K w' N=>?_) O;obtain⟨I,z,R⟩:=N;have B:=ready_mono m (Ne.symm g);refine⟨z,ih (d.setIfInBounds j true) K w' a0 B I z ?_⟩;rw[Array.setIfInBounds_comm _ _ g];exact R
theorem IO {f:Nat} (r:Region.noSelect ops=true) (q:∀c a d v w,Q (.panic c) (Act.put a d v) w->Q (.panic c) a w):
  ∀(n:List Nat) (p:Array Bool) (a:Act) (w:World),S w->vX md ops n p=true->
  heads P ops S (fun o=>xi P md ops Q S f (kj n p) o w) (qI ops.toList n) a->xi P md ops Q S (n.length+f) p a w
 |[],p,a,w,_,_,h=>by
   rw[show ([]:List Nat).length+f=f by simp];exact h
 |k::n,p,a,w,hS,hB,h=>by
   simp only[vX,jJ,decide_eq_true_eq]at hB;obtain⟨⟨⟨u,s⟩,l⟩,e⟩:=hB;have i:ops[k]?=some ops[k]:=jw l;have g:ops.toList[k]?=some ops[k]:=by simp
   have t:qI ops.toList (k::n)=ops[k]::qI ops.toList n:=by rw[qI,g]
   rw[t]at h;obtain⟨v,j,m⟩:=h;rw[show (k::n).length+f=(n.length+f)+1 by simp;omega];have b:k∈Region.ready md ops p:=by simpa using u
   exact Qn i (Region.noSelect_spec r) (fun c a w=>q c a _ _ w) _ p a w (Region.free_spec i s) b j hS
    (IO r q n _ _ w hS e m)
def GH (a:Array Oper) (c:List Nat) (f:Nat):Bool:=
 Region.noSelect a&&decide (c.length+f=a.size)&&vX .any a c (Array.replicate a.size false)
theorem Gn {a:Act} {w:World} {i:List Oper} (j:List Nat) (f:Nat) (k:GH i.toArray j f=true) (m:S w) (l:∀c a d v w,Q (.panic c) (Act.put a d v) w->Q (.panic c) a w)
  (h:heads P i.toArray S (fun g=>xi P .any i.toArray Q S f (kj j (Array.replicate i.toArray.size false)) g w) (qI i j) a):xi P .any i.toArray Q S i.toArray.size (Array.replicate i.toArray.size false) a w:=by
 simp only[GH,jJ,decide_eq_true_eq]at k;obtain⟨⟨e,n⟩,b⟩:=k;have:=IO (md:= .any) (Q:=Q) (S:=S) (f:=f) e l j _ a w m b h;rw[n]at this;exact this
theorem AC {id:Nat} {a:Act} {w:World} {e:List Oper} (g:List Nat) (f:Nat) (l:P.follows .mixedOrders=true) (i:GH e.toArray g f=true)
  (S:World->Prop) (k:S w.drew) (j:∀c a d v w,Q (.panic c) (Act.put a d v) w->Q (.panic c) a w)
  (h:heads P e.toArray S (fun b=>xi P .any e.toArray Q S f (kj g (Array.replicate e.toArray.size false)) b w.drew) (qI e g) a):(Code.region id e.toArray true).wp P Q a w:=
 wp_region_any l (Og _ _ _ _ (Gn g f i k j h))
theorem Gr {id:Nat} {a:Act} {w:World} {e:List Oper} (g:List Nat) (f:Nat) (l:P.follows .mixedOrders=true) (i:GH e.toArray g f=true) (m:¬LetsOut Q)
  (S:World->Prop) (k:S w.drew) (j:∀c a d v w,Q (.panic c) (Act.put a d v) w->Q (.panic c) a w)
  (h:heads P e.toArray S (fun b=>xi P .any e.toArray Q S f (kj g (Array.replicate e.toArray.size false)) b w.drew) (qI e g) a):(Code.region id e.toArray true).wpIn Fence.wide 0 P Q a w:=
 wpIn_region_any l (IR m _ _ _ _ (Gn g f i k j h))
theorem Kw {f:Nat} {d:Array Bool} {a:Act} {w:World} (e:List Nat) (j:Region.ready md ops d=e) (k:e≠[])
  (h:∀i∈e,wpOp P ops Q i (fun c w'=>S w'∧xi P md ops Q S f (d.setIfInBounds i true) c w') a w):xi P md ops Q S (f+1) d a w:=
 ⟨fun b=>absurd (j.symm.trans b) k,fun i g=>by rw[j]at g;exact h i g⟩
theorem yu {f:Nat} {c:Array Bool} {a:Act} {w:World} (i:Nat) (e:Region.ready md ops c=[i])
  (h:wpOp P ops Q i (fun b w'=>S w'∧xi P md ops Q S f (c.setIfInBounds i true) b w') a w):xi P md ops Q S (f+1) c a w:=
 Kw [i] e (by simp) (fun j d=>by simp at d;subst d;exact h)
theorem EZ {c:Array Bool} {a:Act} {w:World} (d:Region.ready md ops c=[]) (h:Q .normal a w):xi P md ops Q S 0 c a w:=⟨d,h⟩
end
structure yd (G:TypeId->Bool) (W W':World):Prop where
 size:W.1.size<=W'.1.size
 same:∀(k:Nat) (cs:Array Value) (t:TypeId) (q:Nat×Nat),W.1[k]?=some (Obj.cells cs t q)->G t=false->W'.1[k]?=some (.cells cs t q)
theorem yd.refl (G:TypeId->Bool) (W:World):yd G W W:=⟨Nat.le_refl _,fun _ _ _ _ h _=>h⟩
theorem yd.trans {G:TypeId->Bool} {A B C:World} (h:yd G A B) (k:yd G B C):yd G A C:=⟨jS h.size k.size,fun i a t q d c=>k.same i a t q (h.same i a t q d c) c⟩
theorem yd.n {G:TypeId->Bool} {W e:World} (h:yd G W e):qg (fun b=>∃(d:Array Value) (t:TypeId) (q:Nat×Nat),W.1[b]?=some (Obj.cells d t q)∧G t=true) W e:=
 ⟨h.size,fun k d t q a c=>h.same k d t q a (by
  rcases hg:G t with _|_
  ·rfl
  ·exact(c ⟨d,t,q,a,hg⟩).elim)⟩
theorem yd.putObj {G:TypeId->Bool} {W:World} {r:Nat} {o e:Obj} (c:W.1[r]?=some o) (d:o.isCells=false):yd G W (W.putObj r e):=
 ⟨by simp[World.putObj],fun k f t q a _=>(jc (by rintro rfl;rw[a]at c;cases c;cases d)).trans a⟩
theorem yd.of {G:TypeId->Bool} {W e:World} {D:Nat->Prop} (h:qg D W e) (g:∀b,D b->∀(d:Array Value) (t:TypeId) (q:Nat×Nat),W.1[b]?=some (Obj.cells d t q)->G t=true):yd G W e:=
 ⟨h.size,fun k d t q a f=>h.same k d t q a (fun c=>by rw[g k c d t q a]at f;cases f)⟩
theorem yY {G:TypeId->Bool} {W:World} {E:Nat} (i:G E=false):∀b:Nat,(∃(f:Array Value) (t:TypeId) (q:Nat×Nat),W.1[b]?=some (Obj.cells f t q)∧G t=true)->∀(f:Array Value) (q:Nat×Nat),W.1[b]?≠some (Obj.cells f E q):=by
 rintro b ⟨f,t,q,d,g⟩ c e a;rw[d]at a;cases a;rw[i]at g;cases g
def zW (F:TypeId->Bool) (B:Nat) (I:World->Prop):Prop:=∀W a c,I W->W.grownBy a c->(∀r,c=some r->B<=r∧∃o,W.1[r]?=some o∧(o.isCells=false∨∃d t q,o= .cells d t q∧F t=true))->I a
theorem zW.stable {F:TypeId->Bool} {B:Nat} {I:World->Prop} (h:zW F B I):qe B I:=fun W d j g f i=>h W d j g f fun r e=>by
 obtain⟨b,o,a,c⟩:=i r e;exact⟨b,o,a,.inl c⟩
theorem qM.stableF {F:TypeId->Bool} {I:World->Prop} (h:qM F I) (B:Nat):zW F B I:=fun W a f c b d=>h W a f c b fun r e=>(d r e).2
theorem zW.and {F:TypeId->Bool} {B:Nat} {I J:World->Prop} (h:zW F B I) (k:zW F B J):zW F B (fun W=>I W∧J W):=fun W a e d b c=>⟨h W a e d.1 b c,k W a e d.2 b c⟩
theorem zW.ex {F:TypeId->Bool} {B:Nat} {β:Type} {I:β->World->Prop} (h:∀x,zW F B (I x)):zW F B (fun W=>∃x,I x W):=fun W b f e c d=>e.elim fun x a=>⟨x,h x W b f a c d⟩
theorem zW.pure {F:TypeId->Bool} {B:Nat} (p:Prop):zW F B (fun _=>p):=fun _ _ _ a _ _=>a
theorem zW.below {F:TypeId->Bool} {B c:Nat} {f:World} (h:c<=B) (g:c<=f.1.size):zW F B (fun W=>Below c f W):=
 fun _ _ _ d a i=>d.grown a (jS g d.size) (fun r e=>jS h (i r e).1)
theorem zW.on {F:TypeId->Bool} {B:Nat} {I:World->Prop} (h:zW F B I) {W d:World} (f:I W) (c:Bz W d):I d:=h W d none f ⟨c.os,c.tape,c.output,c.size,fun k a _=>c.block k a⟩ (fun _ e=>nomatch e)
theorem zW.turn {F:TypeId->Bool} {B:Nat} {I:World->Prop} (h:zW F B I) {W a:World} (g:I W) {b t:Nat} {c:Array Value} (j:Holds W b t c) (d:B<=b) (i:F t=true) (f:W.grownBy a (some b)):I a:=
 h W a (some b) g f (fun r e=>by cases e;exact⟨d,_,j,.inr ⟨_,_,_,rfl,i⟩⟩)
def IterF (P:Program) (g:Nat) (k:Array Value) (F G:TypeId->Bool) (R:Nat->Array Value->World->Prop) (N:Nat) (j:World->Prop):Prop:=
 ∀(l:Nat) (J d:Nat->World->Prop) (W:World),j W->(∀i,zW F W.1.size (J i))->(∀i,zW F W.1.size (d i))->
  (∀i f c,i<N->J i c->R i f c->YieldAt Fence.wide 0 P l f c fun e a=>yd G c a∧((e=Rt (Vb true)∧J (i+1) a)∨(e=Rt (Vb false)∧d i a)))->
  J 0 W->CallsIn Fence.wide 0 P g (#[.func (.yield l) #[] #[]]++k) W fun e a=>(∃v,e=Rt v)∧(J N a∨∃i,i<N∧d i a)
def rpostF (G:TypeId->Bool) (B:Nat) (I:Nat->World->Prop) (a:Code->Nat->World->Prop) (i:Nat) (W:World):Exit->Act->World->Prop
 |.normal,_,W'=>KeepsFrom B W W'∧yd G W W'∧I (i+1) W'
 |.ret,_,W'=>KeepsFrom B W W'∧yd G W W'∧a .ret i W'
 |.exit id,_,W'=>KeepsFrom B W W'∧yd G W W'∧a (.exit id) i W'
 |.goto t,_,W'=>KeepsFrom B W W'∧yd G W W'∧a (.goto t) i W'
 |.panic _,_,_=>False
 |.outgrown,_,_=>False
theorem yd.put {G:TypeId->Bool} {r:Nat} {W c:World} (p:Vq r W c):yd G W c:=by
 obtain⟨o,d,b,a,rfl⟩:=p;exact yd.putObj b a
theorem KE {P:Program} {g:Operand} {A:Array Tmp} {E T:Code} {Q:Exit->Act->World->Prop} {a:Act} {w:World}
  {x:Nat} {Z:Array Value} (hg:a.eval g= .func (.func x) #[] Z) (eg:∀C w,(callFunc x C).run P w= .ok (.enter x C) w)
  {F G:TypeId->Bool} {R:Nat->Array Value->World->Prop} {N:Nat} {B:World->Prop} (ah:IterF P x Z F G R N B) (ai:∀i d W,R i d W->d.size=A.size)
  (I:Nat->World->Prop) (q:Code->Nat->World->Prop) (U:∀i,zW F w.1.size (I i)) (V:∀c i,zW F w.1.size (q c i)) (ad:∀W,Bz w W->B W) (h0:I 0 w)
  (z:Nat->Act->World->Prop) (ac:∀an b,qe w.1.size (z an b))
  (ae:∀(l i:Nat) (d:Array Value) (W:World) (K:Act->World->Prop),i<N->I i W->R i d W->(∀b s,KeepsFrom w.1.size W s->yd G W s->I i s->z i b s->K b s)->
   E.wpIn (Fence.wide.inRound l) 0 P (Exit.then K (fun _ _ _=>False)) {tmps:=(A.zip d).foldl (fun am (ak,v)=>am.setIfInBounds ak v) a.tmps,defers:=[]} W)
  (af:∀(l i:Nat) (b:Act) (W:World),w.1.size<=l->i<N->I i W->z i b W->T.wpIn (Fence.wide.inRound l) 0 P (rpostF G w.1.size I q i W) b W)
  (ag:∀(D:Nat) (W:World),w.1.size<=D->I N W->W.1[D]?=some (.deferred (some []))->Q .normal {a with defers:=mark D::a.defers} W)
  (aj:∀(D:Nat) (c:Code) (i:Nat) (W:World),w.1.size<=D->i<N->q c i W->W.1[D]?=some (.deferred (some []))->c.wp P Q {a with defers:=mark D::a.defers} W):
  (Code.rangeFunc g A E T).wp P Q a w:=by
 have u:∀i,qe w.1.size (I i):=fun i=>(U i).stable;have m:∀c i,qe w.1.size (q c i):=fun c i=>(V c i).stable;refine Vo hg eg fun y k M hs n a7=>?_;have O:∀{J:World->Prop},zW F w.1.size J->∀o,zW F y.1.size (fun W=>J W∧LR w.1.size o W):=fun ab o a2 a4 al a1 a0 t=>
  ⟨ab a2 a4 al a1.1 a0 (fun r e=>⟨by have:=(t r e).1;omega,(t r e).2⟩),a1.2.grown a0 fun r e=>by have:=(t r e).1;omega⟩
 refine(ah (w.1.size+1) (fun i W=>I i W∧LR w.1.size (k .ready none) W) (fun i W=>∃c,q c i W∧LR w.1.size (k .done (some c)) W) y (ad y M) (fun i=>O (U i) _) (fun i=>zW.ex fun c=>O (V c i) _) ?_ ⟨(u 0).on h0 M,n⟩).mono ?_
 ·rintro i d W p ⟨hj,t⟩ S;refine a7 W d _ t (ai i d W S) (ae _ i d W _ p hj S fun b Wa a8 a5 ao a6=>⟨a8,fun Wb h=>wpIn_mono (af _ i b _ (by omega) p ((u i).put ao (by omega) h) ((ac i b).put a6 (by omega) h)) ?_⟩);rintro e a3 L f;have j:=a5.trans (yd.put h);cases e<;>first
   |exact f.elim
   |exact⟨f.1,fun a9 h n=>⟨(j.trans f.2.1).trans (yd.put h),.inl ⟨rfl,(u _).put f.2.2 (by omega) h,n⟩⟩⟩
   |exact⟨f.1,fun a9 h n=>⟨(j.trans f.2.1).trans (yd.put h),.inr ⟨rfl,_,(m _ _).put f.2.2 (by omega) h,n⟩⟩⟩
 ·rintro e ap ⟨X,(⟨p,n⟩|⟨i,p,c,aa,n⟩)⟩
  ·exact⟨X,.inl ⟨n,fun L h H=>ag _ _ nLe ((u _).put p (by omega) h) H⟩⟩
  ·exact⟨X,.inr ⟨c,n,fun L h H=>aj _ c i _ nLe p ((m c i).put aa (by omega) h) H⟩⟩
end Go.Proofs.YtnmpcdnbklmhkaaGreatDoor
