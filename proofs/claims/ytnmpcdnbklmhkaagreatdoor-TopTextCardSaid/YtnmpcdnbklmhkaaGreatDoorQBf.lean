import Derived.Test.YtnmpcdnbklmhkaaGreatDoorQAy
import Derived.Test.YtnmpcdnbklmhkaaGreatDoorQBa
import Derived.Recover
import Derived.BigRegion
import Derived.Test.YtnmpcdnbklmhkaaGreatDoorQAx
import Derived.Test.YtnmpcdnbklmhkaaGreatDoorQAi
import Derived.Test.YtnmpcdnbklmhkaaGreatDoorQAl
import Derived.Deep.RegionHeld3
import Derived.Deep.DrawnRows
import Derived.Test.YtnmpcdnbklmhkaaGreatDoorQBe
import Derived.Laws.AppendOwnNone
import Derived.Test.YtnmpcdnbklmhkaaGreatDoorQAe
import Derived.Test.YtnmpcdnbklmhkaaGreatDoorQAd
import Derived.Test.YtnmpcdnbklmhkaaGreatDoorQAz
namespace Go.Proofs.YtnmpcdnbklmhkaaGreatDoor
open Go.Proofs.Tryz Go.RowKit
set_option maxRecDepth 100000
set_option linter.all false
set_option maxHeartbeats 8000000
section
attribute [local go_sem] Oper.semAt_some
theorem Holds.off {w:World} {b:Nat} {t:TypeId} {a:Array Value} (h:Holds w b t a) {k:Nat} (c:b≠k) (i:Nat) (v:Value):Holds (w.setCell ⟨k,i,none⟩ v) b t a:=h.grown (jh w k i v) (fun e=>c (Option.some.inj e))
theorem N8 (b:Nat) (x:Int) (D E:Value) (y z:Int) (s:List PanicEntry) (w:World) (q:Holds w b 25 #[D,E]) (n:Holds w (b+1) 3 #[Vi y]) (o:Holds w (b+1+1) 26 #[Vi z]):
  CallsD prog 13 #[Vp b 0,Vp (b+1) 0,Vp (b+1+1) 0] (.panicking ({v:= .iface 51 (Vi x),recovered:=false}::s)) w fun r c w'=>
   r=Rt (.tuple #[])∧c= .panicking ({v:= .iface 51 (Vi x),recovered:=true}::s)∧
    Holds w' b 25 #[Vn,Vi 0]∧Holds w' (b+1) 3 #[Vi x]∧Holds w' (b+1+1) 26 #[Vi 90]∧Below b w w':=by
 obtain⟨i,j,-⟩:=q.g2;have F:Cq w (b+1) 0 (Vi y):=n.cell 0;have I:Cq w (b+1+1) 0 (Vi z):=o.cell 0;have e:=q.free;have h:=n.free;have m:=o.free;have f:=q.size;have g:=n.size;have l:=o.size;have d:∀W:World,(Instr.typeAssert (.iface 51 (Vi x)) 20 51 false).run prog W= .ok (Vi x) W:=fun W=>by kernel_rfl
 refine callsD_of_wpS func13 rfl fun k H a=>?_;apply wpS_seq;apply wpS_region;simp[wpOpsS,go_sem,recoverD,a,ntmps13,Exit.thenS];apply wpS_seq;apply wpS_region;simp[wpOpsS,go_sem,Exit.thenS];refine wpS_cond (t:=true) (by simp[Act.eval,Array.replicate]) ?_;simp only[if_true];refine wpS_of_wp ?_;change Code.wp _ _ _ {tmps:=#[Vp b 0,Vp (b+1) 0,Vp (b+1+1) 0,.iface 51 (Vi x),.iface 51 (Vi x),.iface 51 (Vi x),Vb true,undef,undef,undef],defers:=[]} w;go_region;have u:Holds (((((w.setCell (Ad b 0) Vn).setCell (Ad b 1) (Vi 0)).setCell (Ad (b+1) 0) (Vi x)).setCell (Ad (b+1+1) 0) (Vi 90)).drew) b 25 #[Vn,Vi 0]:=
  ((((q.set 0 Vn).set 1 (Vi 0)).off (by omega) 0 _).off (by omega) 0 _).later (qp _ _ 1)
 have A:Holds (((((w.setCell (Ad b 0) Vn).setCell (Ad b 1) (Vi 0)).setCell (Ad (b+1) 0) (Vi x)).setCell (Ad (b+1+1) 0) (Vi 90)).drew) (b+1) 3 #[Vi x]:=
  ((((n.off (by omega) 0 _).off (by omega) 1 _).set 0 (Vi x)).off (by omega) 0 _).later (qp _ _ 1)
 have B:Holds (((((w.setCell (Ad b 0) Vn).setCell (Ad b 1) (Vi 0)).setCell (Ad (b+1) 0) (Vi x)).setCell (Ad (b+1+1) 0) (Vi 90)).drew) (b+1+1) 26 #[Vi 90]:=
  ((((o.off (by omega) 0 _).off (by omega) 1 _).off (by omega) 0 _).set 0 (Vi 90)).later (qp _ _ 1)
 have C:Below b w (((((w.setCell (Ad b 0) Vn).setCell (Ad b 1) (Vi 0)).setCell (Ad (b+1) 0) (Vi x)).setCell (Ad (b+1+1) 0) (Vi 90)).drew):=by
  exact((((((Below.refl b w).setCell (p:=Ad b 0) nLe _).setCell (p:=Ad b 1) nLe _).setCell (p:=Ad (b+1) 0) (Nat.le_succ _) _).setCell (p:=Ad (b+1+1) 0) (by simp only;omega) _)).trans (qp _ _ 1)
 generalize ((((w.setCell (Ad b 0) Vn).setCell (Ad b 1) (Vi 0)).setCell (Ad (b+1) 0) (Vi x)).setCell (Ad (b+1+1) 0) (Vi 90)).drew=W at*;simp[bodyPostS,results,results13];exact⟨u,A,B,C⟩
theorem Qe (b:Nat) (w:World):
  CallsD prog 13 #[Vp b 0,Vp (b+1) 0,Vp (b+1+1) 0] .returning w fun r d w'=>r=Rt (.tuple #[])∧d= .returning∧w'=w:=by
 refine callsD_of_wpS func13 rfl fun c e a=>?_;apply wpS_seq;apply wpS_region;simp[wpOpsS,go_sem,recoverD,a,ntmps13,Exit.thenS];apply wpS_seq;apply wpS_region;simp[wpOpsS,go_sem,Exit.thenS];refine wpS_cond (t:=false) (by simp[Act.eval,Array.replicate]) ?_;simp only[ji,if_false];refine wpS_of_wp (wp_skip ?_);cases c
 simp_all [bodyPostS,results,results13]
theorem B5 (i:Array Value) (W:World) (b:Nat) (v:Value) (x y z:Int) (m:i.getD 2 undef=Vp b 0) (n:i.getD 3 undef=Vp (b+1) 0) (o:i.getD 4 undef=Vp (b+1+1) 0)
  (j:Holds W b 25 #[v,Vi x]) (k:Holds W (b+1) 3 #[Vi y]) (l:Holds W (b+1+1) 26 #[Vi z]):
  (results Tryz.f5 i).run prog W= .ok (.tuple #[.agg #[v,Vi x],Vi y,Vi z]) W:=by
 have f:Cq W (b+1) 0 (Vi y):=k.cell 0;have e:Cq W (b+1+1) 0 (Vi z):=l.cell 0;have c:i[2]?.getD undef=Vp b 0:=by simpa using m
 have d:i[3]?.getD undef=Vp (b+1) 0:=by simpa using n
 have a:i[4]?.getD undef=Vp (b+1+1) 0:=by simpa using o
 obtain⟨h,g,-⟩:=j.g2;simp[results,results5,go_sem,c,d,a,asAddr,h,g,f,e]
theorem Rk {w:World} {a:Option Addr} {d:List Tok} (h:kt w a d) (f:0<d.length):∃b c,a=some ⟨b,c,none⟩:=by
 obtain⟨b,c,e,_⟩:=h.get 0 f;exact⟨b,c,e⟩
def R9O (l:List UInt8) (w:World) (e:Ending) (w':World):Prop:=
 ∃v L,e=Rt (.tuple #[.agg #[v,Vi (zg l).1.2],Vi (zg l).2.1,Vi (zg l).2.2])∧L.map Prod.fst=(zg l).1.1∧w'.ownsRow w.1.size 63 6 v L.length (vQ L)∧
  (∀q∈L,w'.ownsRow w.1.size 97 9 q.2 q.1.6.length (q.1.6.flatMap cmV))∧Below w.1.size w w'
theorem R9O.pat {l:List UInt8} {w w':World} {e:Ending} (h:R9O l w e w'):R9P l w e w':=by
 obtain⟨v,L,rfl,b,d,g,f⟩:=h;unfold R9P;rcases hp:zg l with⟨⟨j,k⟩,a,c⟩;rw[hp]at b;simp only at b;subst b;exact⟨_,rfl,⟨_,rfl,KW d fun q i=>Cg (g q i)⟩,f⟩
theorem Fh (s:ByteArray) (V:s.size<=140737488351232) (w:World) (N:GL w) (y:List Tok) (p c:Int) (e:zZ s.data.toList=(y,p,c)) (q:c≠0):
  Cs 5 #[.string s] w (R9O s.data.toList w):=by
 have P:zg s.data.toList=(⟨[],0⟩,p,c):=by rw[Bo (by rw[e];exact q),e]
 have Q:=(((Holds.fresh w 25 #[Vn,Vi 0]).alloc (Oc #[Vi 0] 3)).alloc (Oc #[Vi 0] 26));have o:=((Holds.fresh (w.alloc (Oc #[Vn,Vi 0] 25)) 3 #[Vi 0]).alloc (Oc #[Vi 0] 26));have M:=(Holds.fresh ((w.alloc (Oc #[Vn,Vi 0] 25)).alloc (Oc #[Vi 0] 3)) 26 #[Vi 0]);simp only[jl]at o M;have g:=((bA w (Oc #[Vn,Vi 0] 25)).alloc (by simp) (Oc #[Vi 0] 3)).alloc (by simp;omega) (Oc #[Vi 0] 26);have j:=((N.alloc (Oc #[Vn,Vi 0] 25)).alloc (Oc #[Vi 0] 3)).alloc (Oc #[Vi 0] 26);obtain⟨n,O⟩:=xR y.length;have x:=Pz s V y p c n O e _ j;have L:(c !=0)=true:=by simpa using q
 have z:=hiD x;have I:=hiD P;have l:=hiD g;have t:=hiD Q;have u:=hiD o;have v:=hiD M;clear x P g Q o M N j e O q;have J:=hmf1
 go_enter_defers func5,ntmps5
 go_wp2_with fail;refine z.out.mono ?_;rintro a0 f ⟨a,Z,rfl,a2,-,d⟩;have h:=t.out.later d;have k:=u.out.later d;have i:=v.out.later d;obtain⟨F,X,-⟩:=h.g2;have K:Cq f (w.1.size+1) 0 (Vi 0):=k.cell 0;have E:Cq f (w.1.size+1+1) 0 (Vi 0):=i.cell 0;have C:=h.free;have A:=k.free;have H:=i.free;have D:=h.size;have l1:=k.size;have l2:=i.size;have r:=hiD (l.out.trans (d.mono l.out.size));clear d z l;generalize m:w.1.size=b at*;go_wp2_with fail;go_region;have R:Holds (((((((f.setCell (Ad (b+1) 0) (Vi p)).setCell (Ad (b+1+1) 0) (Vi c)).setCell (Ad b 0) Vn).setCell (Ad b 1) (Vi 0)).setCell (Ad (b+1) 0) (Vi p)).setCell (Ad (b+1+1) 0) (Vi c)).drew) b 25 #[Vn,Vi 0]:=
  (((((((h.off (by omega) 0 _).off (by omega) 0 _).set 0 Vn).set 1 (Vi 0)).off (by omega) 0 _).off (by omega) 0 _)).later (qp _ _ 1)
 have S:Holds (((((((f.setCell (Ad (b+1) 0) (Vi p)).setCell (Ad (b+1+1) 0) (Vi c)).setCell (Ad b 0) Vn).setCell (Ad b 1) (Vi 0)).setCell (Ad (b+1) 0) (Vi p)).setCell (Ad (b+1+1) 0) (Vi c)).drew) (b+1) 3 #[Vi p]:=
  (((((((k.set 0 (Vi p)).off (by omega) 0 _).off (by omega) 0 _).off (by omega) 1 _).set 0 (Vi p)).off (by omega) 0 _)).later (qp _ _ 1)
 have T:Holds (((((((f.setCell (Ad (b+1) 0) (Vi p)).setCell (Ad (b+1+1) 0) (Vi c)).setCell (Ad b 0) Vn).setCell (Ad b 1) (Vi 0)).setCell (Ad (b+1) 0) (Vi p)).setCell (Ad (b+1+1) 0) (Vi c)).drew) (b+1+1) 26 #[Vi c]:=
  (((((((i.off (by omega) 0 _).set 0 (Vi c)).off (by omega) 0 _).off (by omega) 1 _).off (by omega) 0 _).set 0 (Vi c))).later (qp _ _ 1)
 have U:Below b w (((((((f.setCell (Ad (b+1) 0) (Vi p)).setCell (Ad (b+1+1) 0) (Vi c)).setCell (Ad b 0) Vn).setCell (Ad b 1) (Vi 0)).setCell (Ad (b+1) 0) (Vi p)).setCell (Ad (b+1+1) 0) (Vi c)).drew):=
  ((((((r.out.setCell (p:=Ad (b+1) 0) (Nat.le_succ _) _).setCell (p:=Ad (b+1+1) 0) (by simp only;omega) _).setCell (p:=Ad b 0) nLe _).setCell (p:=Ad b 1) nLe _).setCell (p:=Ad (b+1) 0) (Nat.le_succ _) _).setCell (p:=Ad (b+1+1) 0) (by simp only;omega) _).trans (qp _ _ 1)
 generalize ((((((f.setCell (Ad (b+1) 0) (Vi p)).setCell (Ad (b+1+1) 0) (Vi c)).setCell (Ad b 0) Vn).setCell (Ad b 1) (Vi 0)).setCell (Ad (b+1) 0) (Vi p)).setCell (Ad (b+1+1) 0) (Vi c)).drew=W at*;clear F X K E C A H D l1 l2 h k i t u v;go_wp2_with fail;refine⟨_,B5 _ W b Vn 0 p c rfl rfl rfl R S T,?_⟩;unfold R9O;rw[I.out,m];exact⟨_,[],rfl,rfl,js _ _ _ _,(fun a1 B=>nomatch B),U⟩
theorem Lr {l:List UInt8} {c:List Tok} (d:zZ l=(c,0,0)):zg l=match pPat c with
  |.error a=>(⟨[],0⟩,a,90)
  |.ok (p,_)=>(p,0,0):=by
 unfold zg;rw[d];rfl
theorem Fg (s:ByteArray) (hs:s.size<=140737488351232) (w:World) (hG:GL w) (i:List Tok) (an:i.length<=4000) (S:zZ s.data.toList=(i,0,0)):
  Cs 5 #[.string s] w (R9O s.data.toList w):=by
 have hp:=Lr S;obtain⟨_,a9,ai,g⟩:=IS S;have z0:=(((Holds.fresh w 25 #[Vn,Vi 0]).alloc (Oc #[Vi 0] 3)).alloc (Oc #[Vi 0] 26));have z1:=((Holds.fresh (w.alloc (Oc #[Vn,Vi 0] 25)) 3 #[Vi 0]).alloc (Oc #[Vi 0] 26));have z2:=(Holds.fresh ((w.alloc (Oc #[Vn,Vi 0] 25)).alloc (Oc #[Vi 0] 3)) 26 #[Vi 0]);simp only[jl]at z1 z2;have a6:=((bA w (Oc #[Vn,Vi 0] 25)).alloc (by simp) (Oc #[Vi 0] 3)).alloc (by simp;omega) (Oc #[Vi 0] 26);have ac:=((hG.alloc (Oc #[Vn,Vi 0] 25)).alloc (Oc #[Vi 0] 3)).alloc (Oc #[Vi 0] 26);have P:=QK s hs _ ac;unfold BF at P;rw[S]at P;simp only at P;have CA:=hiD P;have Q:=hiD hp;have Z:=hiD a6;have Z0:=hiD z0;have Z1:=hiD z1;have Z2:=hiD z2;have HT:=hiD (And.intro a9 ai);clear P hp a6 z0 z1 z2 hG ac S a9 ai;have aq:=hmf1
 go_enter_defers func5,ntmps5
 go_wp2_with fail;refine CA.out.mono ?_;rintro e m ⟨v,rfl,a2,t⟩;obtain⟨ao,n,rfl,am,A⟩:=FK a2 rfl;obtain⟨a,l,rfl⟩:=Rk A g;have al:w.1.size+1+1<a:=by
  have:=(a2.lt a rfl).1;simp at this;omega
 have ap:a<m.1.size:=by
  rcases A with h|⟨b',av,e,V⟩
  ·rw[h]at g;cases g
  ·cases e;exact vz (V 0 g).1
 have y0:=Z0.out.later t;have K:=Z1.out.later t;have M:=Z2.out.later t;have k2:Cq m (w.1.size+1) 0 (Vi 0):=K.cell 0;have k3:Cq m (w.1.size+1+1) 0 (Vi 0):=M.cell 0;have f1:=K.free;have f2:=M.free;have l1:=K.size;have l2:=M.size;have l0:=y0.size;have a0:Below w.1.size w (((m.setCell (Ad (w.1.size+1) 0) (Vi 0)).setCell (Ad (w.1.size+1+1) 0) (Vi 0)).alloc (Oc #[Vs a l i.length n] 54)):=
  (((Z.out.trans (t.mono Z.out.size)).setCell (p:=Ad (w.1.size+1) 0) (Nat.le_succ _) _).setCell (p:=Ad (w.1.size+1+1) 0) (by simp only;omega) _).alloc (by simp;omega) _
 have ae:=(((y0.off (k:=w.1.size+1) (by omega) 0 (Vi 0)).off (k:=w.1.size+1+1) (by omega) 0 (Vi 0)).alloc (Oc #[Vs a l i.length n] 54));have a8:=(((K.set 0 (Vi 0)).off (k:=w.1.size+1+1) (by omega) 0 (Vi 0)).alloc (Oc #[Vs a l i.length n] 54));have af:=(((M.off (k:=w.1.size+1) (by omega) 0 (Vi 0)).set 0 (Vi 0)).alloc (Oc #[Vs a l i.length n] 54));have a3:kt (((m.setCell (Ad (w.1.size+1) 0) (Vi 0)).setCell (Ad (w.1.size+1+1) 0) (Vi 0)).alloc (Oc #[Vs a l i.length n] 54)) (some (Ad a l)) i:=
  ((A.grown (jh _ _ _ _) (fun e=>by have:=Option.some.inj e;omega)).grown (jh _ _ _ _) (fun e=>by have:=Option.some.inj e;omega)).grown (World.grownBy_alloc _ _ none) (by simp)
 have aa:Holds (((m.setCell (Ad (w.1.size+1) 0) (Vi 0)).setCell (Ad (w.1.size+1+1) 0) (Vi 0)).alloc (Oc #[Vs a l i.length n] 54)) m.1.size 54 #[Vs a (l+0*3) (i.length-0) (n-0)]:=by
  have:=Holds.fresh ((m.setCell (Ad (w.1.size+1) 0) (Vi 0)).setCell (Ad (w.1.size+1+1) 0) (Vi 0)) 54 #[Vs a l i.length n];simpa using this
 have q0:Q9 i m.1.size a l n 0 (((m.setCell (Ad (w.1.size+1) 0) (Vi 0)).setCell (Ad (w.1.size+1+1) 0) (Vi 0)).alloc (Oc #[Vs a l i.length n] 54)):=
  ⟨aa,by omega,a3,g,am,an,HT.out.1,HT.out.2⟩
 have cp:=Ja i m.1.size a l n 0 _ q0;have ar:m.1.size<(((m.setCell (Ad (w.1.size+1) 0) (Vi 0)).setCell (Ad (w.1.size+1+1) 0) (Vi 0)).alloc (Oc #[Vs a l i.length n] 54)).1.size:=by simp
 rw[ju]at cp;have N:=hiD cp;have u:=hiD a0;have T:=hiD ae;have U:=hiD a8;have C:=hiD af;clear cp a0 ae a8 af a3 aa q0 a2 A t CA Z Z0 Z1 Z2 y0 K M HT;go_wp2_with fail;generalize ((m.setCell (Ad (w.1.size+1) 0) (Vi 0)).setCell (Ad (w.1.size+1+1) 0) (Vi 0)).alloc (Oc #[Vs a l i.length n] 54)=R at*;obtain⟨b,F⟩:=xR w.1.size;rw[F]at u T U C al l0 l1 l2⊢;have a4:=hiD F;have o:b<=R.1.size:=by omega
 clear k2 k3 f1 f2 F;rcases r:pPat i with x|⟨⟨ss,z⟩,au⟩
 ·refine N.out.mono ?_;rintro e X ⟨y,he⟩;rw[r]at he;subst he;have E:=T.out.grown y (fun e=>by have:=Option.some.inj e;omega);have B:=U.out.grown y (fun e=>by have:=Option.some.inj e;omega);have D:=C.out.grown y (fun e=>by have:=Option.some.inj e;omega);have J:=u.out.grown y o (fun k e=>by have:=Option.some.inj e;omega);have j:=Q.out;rw[r]at j;have H:=hiD j;have M0:=hiD E;have M1:=hiD B;have M2:=hiD D;have MB:=hiD J;clear E B D J j y N u T U C Q r;unfold qF;go_wp2_with fail;refine leaves_cons (f:=13) (args:=#[Vp b 0,Vp (b+1) 0,Vp (b+1+1) 0]) (by simp) (by simp[go_sem]) ?_;refine(N8 b x _ _ _ _ [] X M0.out M1.out M2.out).mono ?_;rintro e u' w4 ⟨rfl,rfl,g1,g2,y,g4⟩;refine⟨_,B5 _ w4 b _ _ _ _ rfl rfl rfl g1 g2 y,?_⟩;unfold R9O;rw[H.out,a4.out];exact⟨_,[],rfl,rfl,js _ _ _ _,(fun q O=>nomatch O),MB.out.trans g4⟩
 ·refine N.out.mono ?_;rintro e X ⟨y,hm⟩;rw[r]at hm;obtain⟨v,L,rfl,rfl,hr,V⟩:=hm;obtain⟨I,c,rfl⟩:=qh hr;have E:=T.out.grown y (fun e=>by have:=Option.some.inj e;omega);have B:=U.out.grown y (fun e=>by have:=Option.some.inj e;omega);have D:=C.out.grown y (fun e=>by have:=Option.some.inj e;omega);have J:=u.out.grown y o (fun k e=>by have:=Option.some.inj e;omega);have j:=Q.out;rw[r]at j;obtain⟨k0,k1,-⟩:=E.g2;have k2:Cq X (b+1) 0 (Vi 0):=B.cell 0;have k3:Cq X (b+1+1) 0 (Vi 0):=D.cell 0;have f0:=E.free;have f1:=B.free;have f2:=D.free;have p0:=E.size;have p1:=B.size;have p2:=D.size;have n0:=((((E.set 0 (Sq I L.length c)).set 1 (Vi z)).off (k:=b+1) (by omega) 0 (Vi 0)).off (k:=b+1+1) (by omega) 0 (Vi 0));have n1:=((((B.off (k:=b) (by omega) 0 (Sq I L.length c)).off (k:=b) (by omega) 1 (Vi z)).set 0 (Vi 0)).off (k:=b+1+1) (by omega) 0 (Vi 0));have n2:=((((D.off (k:=b) (by omega) 0 (Sq I L.length c)).off (k:=b) (by omega) 1 (Vi z)).off (k:=b+1) (by omega) 0 (Vi 0)).set 0 (Vi 0));have n3:=(((J.setCell (p:=Ad b 0) nLe (Sq I L.length c)).setCell (p:=Ad b 1) nLe (Vi z)).setCell (p:=Ad (b+1) 0) (Nat.le_succ _) (Vi 0)).setCell (p:=Ad (b+1+1) 0) (by simp only;omega) (Vi 0);have d:∀(W:World) {e:TypeId} {ah ag k:Nat} {v:Value} {xs:List Value} (a1:Nat) (x:Value),W.ownsRow R.1.size e ah v ag xs->k<R.1.size->(W.setCell (Ad k a1) x).ownsRow R.1.size e ah v ag xs:=fun W {_ _ _ k _ _} a1 x h hk=>
   h.kept (jh W k a1 x) (.inr (yG h hk).symm)
  have a5:=d _ 0 (Vi 0) (d _ 0 (Vi 0) (d _ 1 (Vi z) (d _ 0 (Sq I L.length c) hr (k:=b) (by omega)) (k:=b) (by omega)) (k:=b+1) (by omega)) (k:=b+1+1) (by omega);have ab:=fun q O=>d _ 0 (Vi 0) (d _ 0 (Vi 0) (d _ 1 (Vi z) (d _ 0 (Sq I L.length c) (V q O) (k:=b) (by omega)) (k:=b) (by omega)) (k:=b+1) (by omega)) (k:=b+1+1) (by omega);have a7:=a5.mono o;have ad:∀q∈L,_:=fun q O=>(ab q O).mono o;have N0:=hiD n0;have N1:=hiD n1;have N2:=hiD n2;have N3:=hiD n3;have ak:=hiD a7;have aj:=hiD ad;have H:=hiD j;clear n0 n1 n2 n3 a7 ad j a5 ab d E B D J hr V y N u T U C Q r;go_wp2_with fail;refine leaves_cons (f:=13) (args:=#[Vp b 0,Vp (b+1) 0,Vp (b+1+1) 0]) (by simp) (by simp[go_sem]) ?_;refine(Qe b _).mono ?_;rintro e u' w4 ⟨rfl,rfl,rfl⟩;refine⟨_,B5 _ _ b _ _ _ _ rfl rfl rfl N0.out N1.out N2.out,?_⟩;unfold R9O;rw[H.out,a4.out];exact⟨_,L,rfl,rfl,ak.out,aj.out,N3.out⟩
theorem Lp (s:ByteArray) (e:s.size<=140737488351232) (w:World) (d:GL w):Cs 5 #[.string s] w (R9O s.data.toList w):=by
 rcases ha:zZ s.data.toList with⟨f,p,c⟩;by_cases a:c=0
 ·subst a;obtain⟨rfl,_⟩:=IS ha;refine Fg s e w d f ?_ ha;have g:s.data.toList.length<=2000:=Nat.le_of_not_lt fun h=>by
   unfold zZ at ha;rw[if_pos h]at ha;simp at ha
  unfold zZ at ha;rw[if_neg (by omega)]at ha;split at ha
  ·simp at ha
  ·simp only[Prod.mk.injEq]at ha;have:=Bf _ 0 s.data.toList nLe;rw[<-ha.1];simp only[jZ,List.length_map,List.length_singleton];omega
 ·exact Fh s e w d f p c ha a
theorem Ap (s:ByteArray) (c:s.size<=140737488351232) (w:World) (a:GL w):Cs 5 #[.string s] w (R9P s.data.toList w):=(Lp s c w a).mono fun _ _ h=>h.pat
end
theorem J6 {l c:List Tok} {t:Tm} (h:yP l= .ok (t,c)):0<=t.kind:=by
 cases l with
 |nil=>cases h
 |cons u r=>
   by_cases a:u.kind=2
   ·rw[j7 a]at h;split at h
    ·cases h
    ·obtain⟨_,_,_,h⟩:=qu h;obtain⟨_,_,_,h⟩:=qu h;obtain⟨_,_,_,h⟩:=qu h;obtain⟨_,_,_,h⟩:=qu h;cases h;exact(J7 _).2
   ·rw[AW a]at h;obtain⟨_,_,_,h⟩:=qu h;cases h;exact Int.le_refl _
theorem Uy {l d:List Tok} {c:Cm} (h:pCmp l= .ok (c,d)):0<=c.l.kind∧0<=c.r.kind:=by
 obtain⟨_,_,b,h⟩:=qu h;obtain⟨_,_,_,h⟩:=qu h;obtain⟨_,_,a,h⟩:=qu h;cases h;exact⟨J6 b,J6 a⟩
theorem kind_cs:∀(n:Nat) (l:List Tok),l.length<=n->∀v j,pCs l= .ok (v,j)->∀c∈v,0<=c.l.kind∧0<=c.r.kind:=by
 intro n
 induction n with
 |zero=>
   intro l k v j h;obtain rfl:=jV (Nat.le_zero.1 k);cases h
 |succ n ih=>
   intro l k v j h;rw[Lw]at h;obtain⟨c,l1,g,b⟩:=qu h;have i:=Bb _ _ _ g;have f:=Uy g;split at b
   ·rename_i m;have:=vy m;obtain⟨o,l2,e,d⟩:=qu b;cases d;intro x a;rcases jI.1 a with rfl|a
    ·exact f
    ·exact ih l1.tail (by omega) _ _ e x a
   ·obtain⟨_,l2,e,d⟩:=qu b;cases d;intro x a;obtain rfl:=List.mem_singleton.1 a;exact f
theorem S4 {i:Int} {e:Bool} {l d:List Tok} {s:St} (h:xp i e l= .ok (s,d)):∀c∈s.6,0<=c.l.kind∧0<=c.r.kind:=by
 obtain⟨_,_,_,h⟩:=qu h;obtain⟨_,_,_,h⟩:=qu h;obtain⟨_,_,_,h⟩:=qu h;obtain⟨f,_,a,h⟩:=qu h;cases h;rw[ED]at a;split at a
 ·exact kind_cs _ _ nLe _ _ a
 ·cases a;intro c b;cases b
theorem kind_ss:∀(n:Nat) (l:List Tok),l.length<=n->∀(i:Nat) (o:Bool) v m,pSs i o l= .ok (v,m)->∀s∈v,∀c∈s.6,0<=c.l.kind∧0<=c.r.kind:=by
 intro n
 induction n with
 |zero=>
   intro l p i o v m h;obtain rfl:=jV (Nat.le_zero.1 p);cases h
 |succ n ih=>
   intro l p i o v m h;rw[Lv]at h;obtain⟨s,l1,f,b⟩:=qu h;have g:=kQ _ _ _ _ _ f;have q:=S4 f;have a:∀(x:Int) (r:Bool),isS x l1=true->(qm (pSs (i+1) r l1.tail) fun t l=>.ok (s::t,l))= .ok (v,m)->∀s∈v,∀c∈s.6,0<=c.l.kind∧0<=c.r.kind:=by
    intro x r d b;have:=vy d;obtain⟨u,l2,j,k⟩:=qu b;cases k;intro y e;rcases jI.1 e with rfl|e
    ·exact q
    ·exact ih l1.tail (by omega) _ _ _ _ j y e
   split at b
   ·rename_i d;exact a 59 false d b
   ·split at b
    ·rename_i d;exact a 44 true d b
    ·cases b;intro y e;obtain rfl:=List.mem_singleton.1 e;exact q
theorem told_wf {p:Pt} (h:ptB p=true) (l:∀s∈p.1,∀c∈s.6,0<=c.l.kind∧0<=c.r.kind):∀s∈p.1,stWf s:=by
 intro s j;have a:=(vR h).2.2.2 s j;have g:=Eo a;have k:∀t:Tm,tmB t=true->0<=t.kind->tmWf t:=fun t h i=>by
  have:=AV h;unfold tmWf bnd8 bnd;omega
 refine⟨by unfold bnd;omega,by unfold bnd;omega,by unfold bnd;omega,fun c f=>?_⟩;have b:cmB c=true:=by
  unfold stB at a;simp only[jJ]at a;exact List.all_eq_true.1 a.2 c f
 have e:=EU b;have d:=l s j c f;exact⟨by unfold bnd8;omega,k _ e.2.2.1 d.1,k _ e.2.2.2 d.2⟩
theorem Uf {l:List UInt8} {k:List Tok} {p:Pt} {a:Int} (j:zZ l=(k,0,0)) (i:zg l=(p,a,0)):a=0∧ptB p=true∧(p.1.head?.map (·.strict))=some false∧scan (0,0,0) k=(0,(p.1.length:Int)-1,asks p.1)∧∀s∈p.1,stWf s:=by
 obtain⟨_,_,d,rfl⟩:=Mf j;rcases r:pPat (BJ l)with b|⟨q,m⟩
 ·rw[(kg j).1 _ r]at i;simp at i
 ·rw[(kg j).2 _ _ r]at i;simp only[Prod.mk.injEq,and_true]at i;obtain⟨rfl,rfl⟩:=i;obtain⟨c,e,g⟩:=TV r (JH d) (TY d);refine⟨rfl,c,e,g,told_wf c ?_⟩;rw[GC]at r;obtain⟨n,_,f,r⟩:=qu r;obtain⟨_,_,_,r⟩:=qu r;obtain⟨_,_,_,r⟩:=qu r;obtain⟨_,_,_,r⟩:=qu r;cases r;exact kind_ss _ _ nLe _ _ _ _ f
theorem RG {a:List Tok} {j:Nat} {t:Tok} (d:a[j]?=some t):scan (0,0,0) (a.take (j+1))=BO (scan (0,0,0) (a.take j)) t:=by
 obtain⟨c,rfl⟩:=jG.1 d;rw[ja c,AZ];rfl
theorem ON (d:List Tok):∀j:Nat,(-(j:Int)<=(scan (0,0,0) (d.take j)).1∧(scan (0,0,0) (d.take j)).1<=j)∧(0<=(scan (0,0,0) (d.take j)).2.1∧(scan (0,0,0) (d.take j)).2.1<=j)∧(0<=(scan (0,0,0) (d.take j)).2.2∧(scan (0,0,0) (d.take j)).2.2<=j):=by
 intro j
 induction j with
 |zero=>simp[scan]
 |succ j ih=>
   by_cases e:j<d.length
   ·rw[RG (jB e)];unfold BO AP;simp only;obtain⟨b,a,c⟩:=ih;refine⟨?_,?_,?_⟩
    ·split<;>split<;>omega
    ·split<;>omega
    ·split<;>omega
   ·rw[jy (by omega)];rw[jy (by omega)]at ih;omega
theorem QZ:∀a:List St,0<=asks a
 |[]=>Int.le_refl _
 |s::a=>by
   have:=QZ a;unfold asks at this⊢;rw[List.map_cons,List.sum_cons];omega
theorem N9:∀(c:List St) (s:St),s∈c->(s.6.length:Int)<=asks c
 |[],_,h=>by cases h
 |x::c,s,h=>by
   have a:=QZ c;rcases jI.1 h with rfl|h
   ·unfold asks at a⊢;rw[List.map_cons,List.sum_cons];omega
   ·have:=N9 c s h;unfold asks at this⊢;rw[List.map_cons,List.sum_cons];omega
theorem JI {l:List UInt8} {p:Pt} {a:Int} (o:zg l=(p,a,0)):a=0∧ptB p=true∧strict0 p=false∧okP p∧(∀s∈p.1,stWf s)∧∀s∈p.1,s.6.length<=2001:=by
 rcases ha:zZ l with⟨r,q,c⟩;by_cases b:c=0
 ·subst b;have e:=ha;obtain⟨rfl,u,m,d⟩:=Mf e;obtain⟨h,f,i,k,j⟩:=Uf ha o;refine⟨h,f,?_,?_,j,?_⟩
  ·unfold strict0;rcases n:p.1 with _|⟨s,x⟩
   ·rfl
   ·rw[n]at i;simpa using i
  ·intro s n c b;have:=(j s n).2.2.2 c b;exact⟨by have:=this.2.1;unfold tmWf bnd8 at this;omega,by have:=this.2.2;unfold tmWf bnd8 at this;omega⟩
  ·intro s n;have t:=(ON r r.length).2.2.2;rw[jy nLe,k]at t;have g:r.length<=2001:=by
    have h:=Rl l;have f:=Bf _ 0 l nLe;rw[d];omega
   have:=N9 p.1 s n;simp only at t;omega
 ·rw[Bo (by rw[ha];exact b),ha]at o;simp only[Prod.mk.injEq]at o;exact absurd o.2.2 b
theorem OC (l:List UInt8):0<=(zg l).2.1∧(zg l).2.1<=l.length:=by
 by_cases a:(zZ l).2.2=0
 ·rcases ha:zZ l with⟨o,p,c⟩;rw[ha]at a;simp only at a;subst a;obtain⟨rfl,k,e,rfl⟩:=Mf ha;rcases r:pPat (BJ l)with b|⟨p,f⟩
  ·rw[(kg ha).1 _ r];obtain⟨d,x,f,i,rfl,_⟩:=(QG _).err r (JH e);have g:(BJ l)[d.length]?=some x:=by rw[i];simp
   obtain⟨c,j,m⟩:=Mp g;simp only;omega
  ·rw[(kg ha).2 _ _ r];simp only;omega
 ·rw[Bo a];simp only;unfold zZ;split
  ·simp only;omega
  ·rename_i n;split
   ·rename_i y h;have:=kE _ _ _ nLe y (List.mem_of_find?_eq_some h);simp only;omega
   ·simp only;omega
theorem Rh {l:List UInt8} {p:Pt} {a c:Int} (g:zg l=(p,a,c)) (i:c≠0):p.1=[]:=by
 by_cases d:(zZ l).2.2=0
 ·rcases ha:zZ l with⟨n,q,j⟩;rw[ha]at d;simp only at d;subst d;obtain⟨rfl,f,e,rfl⟩:=Mf ha;rcases r:pPat (BJ l)with b|⟨k,m⟩
  ·rw[(kg ha).1 _ r]at g;simp only[Prod.mk.injEq]at g;rw[<-g.1]
  ·rw[(kg ha).2 _ _ r]at g;simp only[Prod.mk.injEq]at g;exact absurd g.2.2.symm i
 ·rw[Bo d]at g;simp only[Prod.mk.injEq]at g;rw[<-g.1]
theorem great_steps {p:Pt} (h:UN p=false):p.1.length<=40∧∀s∈p.1,s.6.length<=20:=by
 simp only[UN,Bool.or_eq_false_iff,decide_eq_false_iff_not,Nat.not_lt]at h;refine⟨h.2,fun s c=>?_⟩;have a:=List.any_eq_false.1 h.1 s (by rw[jy (by omega)];exact c);simpa using a
theorem OY (s:St) (i:Int) (c:stWf s) (e:s.6.length<=2001) (v:Value) (w:World) (a:yQ w v s.6) (d:GP w):
  Cs 20 #[stA s v,Vi i] w (Rw w (sV (Ao s i))):=by
 by_cases h:stB s=true∧0<=i∧i<26
 ·rw[Rx h.1 h.2.1 h.2.2];exact Hf s i c h.1 h.2.1 h.2.2 e v w a d
 ·rw[T3 h];exact I8 s i c h v w a
theorem JL (s:St) (i:Int) (c:stWf s) (d:s.6.length<=2001):(Ao s i).length<=126203:=by
 unfold Ao;split
 ·have a:=(JM s.neg s.kind s.min s.max i c.1 c.2.1 c.2.2.1).2.2;have b:=NY s.6 c.2.2.2 d;rw[<-G4,TA];simp only[jZ];split<;>simp<;>omega
 ·simp
theorem T8 (s:St) (i:Nat):(sepT s i).length<=1:=by unfold sepT;split;simp;split<;>simp
theorem G2:∀(d:List St) (i:Nat),(∀s∈d,stWf s)->(∀s∈d,s.6.length<=2001)->(stepsT i d).length<=d.length*126204
 |[],_,_,_=>by simp[stepsT]
 |s::d,i,hw,hn=>by
   have c:=JL s i (hw s (by simp)) (hn s (by simp));have a:=T8 s i;have b:=G2 d (i+1) (fun s h=>hw s (by simp[h])) (fun s h=>hn s (by simp[h]));simp only[stepsT,jZ,jF];omega
theorem DD:En0 17:=enters_of func17 rfl rfl
theorem EA (s:St) (v:Value) (w:World):Cs 17 #[stA s v] w (Rw w (Vb s.5)):=by
 obtain⟨a,e,b,c,f,d⟩:=s;simp only[stA];go_enter func17,ntmps17;go_wp2_with fail;go_ret;exact⟨rfl,bB⟩
theorem DB {p:Pt} (h:ptB p=true):(firstI (fun s:St=>s.5) p.1==0)=strict0 p:=by
 obtain⟨d,b⟩:=p;have a:=(vR h).1
 match d,a with
 |s::d,_=>
   simp only[strict0];cases c:s.5
   ·rw[beq_eq_false_iff_ne];unfold firstI;split
    ·simp[List.findIdx_cons,c];omega
    ·decide
   ·unfold firstI;rw[if_pos (by simp[c])];simp[List.findIdx_cons,c]
structure SP (w:World) (b B:Nat) (cs:Array Value) (l:List UInt8) (wc:World):Prop where
 bld:Bld B B l wc
 pat:Holds wc b 25 cs
 below:Bz w wc
section
variable {w wc w' : World} {b B : Nat} {cs : Array Value} {l l' : List UInt8}
theorem SP.write (h:SP w b B cs l wc) (e:b<B) (d:w.1.size<=B) (c:Bld B B l' w') (a:Below B wc w'):SP w b B cs l' w':=
 ⟨c,h.pat.below a e,h.below.trans (a.mono d)⟩
theorem SP.later (h:SP w b B cs l wc) (a:Bz wc w'):SP w b B cs l w':=
 ⟨h.bld.later a,h.pat.later a,h.below.trans (a.mono h.below.size)⟩
theorem SP.size (h:SP w b B cs l wc):B<wc.1.size:=by
 rcases h.bld with⟨_,v,a,_⟩|⟨_,v,a,_⟩<;>exact(jA.1 a).1
theorem SP.put (r:List UInt8) (A:ByteArray) (d:A=⟨r.toArray⟩) (g:b<B) (f:w.1.size<=B) (i:l.length+r.length<=10000000) (h:SP w b B cs l wc):
  Cs 19 #[Vp B 0,.string A] wc fun e w'=>e=Rt (.tuple #[Vi r.length,.nilIface])∧SP w b B cs (l++r) w':=by
 refine(II B B l r A d wc h.bld i (Nat.le_of_lt h.size)).mono ?_;rintro e w' ⟨rfl,c,a,_⟩;exact⟨rfl,h.write g f c a⟩
theorem SP.byte (c:UInt8) (i:b<B) (g:w.1.size<=B) (j:l.length+1<=10000000) (h:SP w b B cs l wc):
  Cs 18 #[Vp B 0,Vu (c.toNat:Int)] wc fun e w'=>e=Rt .nilIface∧SP w b B cs (l++[c]) w'∧Mem 63 wc w':=by
 refine(Gl B B l c wc h.bld j (Nat.le_of_lt h.size)).mono ?_;rintro e w' ⟨rfl,f,a,d⟩;exact⟨rfl,h.write i g f a,F4 (B:=B) h.bld d (by decide) (by decide)⟩
theorem SP.len (h:SP w b B cs l wc):Cs 22 #[Vp B 0] wc fun e w'=>e=Rt (Vi l.length)∧wc=w':=by
 refine(Tryz.Builder_Len_f B B (Lib.byteCells l) wc h.bld).mono ?_;rintro e w' ⟨rfl,rfl⟩;exact⟨by rw[AR],rfl⟩
theorem SP.str (c:w.1.size<=B) (h:SP w b B cs l wc):Cs 23 #[Vp B 0] wc (Rw w (sV l)):=by
 refine(EV B B l wc h.bld (Nat.le_of_lt h.size)).mono ?_;rintro e w' ⟨rfl,_,a,_⟩;exact⟨rfl,h.below.trans (a.mono c)⟩
end
theorem R7 {p:Pt} (h:¬(ptB p=true∧strict0 p=false)):kX p=([],2):=by unfold kX;rw[if_neg h]
theorem Hh {p:Pt} (h:ptB p=true) (a:strict0 p=false) (c:(patT p).length<=2000):kX p=(patT p,0):=by unfold kX;rw[if_pos ⟨h,a⟩,if_pos c]
theorem FY {p:Pt} (h:ptB p=true) (a:strict0 p=false) (c:¬(patT p).length<=2000):kX p=([],91):=by unfold kX;rw[if_pos ⟨h,a⟩,if_neg c]
theorem Hg (p:Pt) (N:∀s∈p.1,stWf s) (h:¬(ptB p=true∧strict0 p=false)) (v:Value) (w:World) (P:PatV w v p):
  Cs 6 #[v] w (Rw w (.tuple #[sV [],Vi 2])):=by
 obtain⟨u,rfl,a,n,rfl,k,c,f,J⟩:=P;have d:Bz w ((w.alloc (Oc #[Sq a p.1.length n,Vi p.2] 25)).alloc (Oc #[.pointer none,Vn] 58)):=bB.alloc (by simp) _;have t:=Bk p _ ((w.alloc (Oc #[Sq a p.1.length n,Vi p.2] 25)).alloc (Oc #[.pointer none,Vn] 58)) ⟨_,rfl,a,n,rfl,k,c,f,J.mono d nLe⟩ N;have o:=fun W E=>Fq 17 DD (fun s:St=>s.5) p.1 (fun i s _ W v _=>EA s v W) a n W (J.mono E nLe) c;have K:=DB (p:=p);have j:ptB p=true->strict0 p=true:=fun e=>by
  cases O:strict0 p with
  |true=>rfl
  |false=>exact absurd ⟨e,O⟩ h
 have M:=((Holds.fresh w 25 #[Sq a p.1.length n,Vi p.2]).alloc (Oc #[.pointer none,Vn] 58));generalize firstI (fun s:St=>s.5) p.1=F at*;generalize ptB p=r at*;generalize strict0 p=A at*;obtain⟨Q,H⟩:=p;simp only at*;obtain⟨m,y⟩:=xR Q.length;rw[y]at t o d M⊢;have z:=hiD t;clear t;have D:=hiD o;clear o;have l:=hiD d;clear d;have B:=hiD M;clear M;clear y k c f J N h;cases r
 ·clear K j;go_enter func6,ntmps6;go_wp2_with fail;refine zE 0 rfl ?_;go_wp2_with fail;refine z.out.mono ?_;rintro e x ⟨rfl,b⟩;go_wp2_with fail;apply wp_goto;refine xS ?_;go_wp2_with fail;rw[dD];go_ret2;exact⟨rfl,l.out.trans (b.mono (by simp;omega))⟩
 ·have C:(F==0)=true:=by rw[K rfl,j rfl]
  clear K j;go_enter func6,ntmps6;go_wp2_with fail;refine zE 0 rfl ?_;go_wp2_with fail;refine z.out.mono ?_;rintro e x ⟨rfl,b⟩;have L:=B.out.later b;have S:=L.size;have R:Cq x w.1.size 0 (Sq a m n):=L.cell 0;have g:=hiD (l.out.trans (b.mono (by simp;omega)));clear L b;go_wp2_with fail;refine(D.out _ g.out).mono ?_;rintro e I ⟨rfl,q⟩;go_wp2_with fail;apply wp_goto;refine xS ?_;go_wp2_with fail;rw[dD];go_ret2;exact⟨rfl,g.out.trans (q.mono g.out.size)⟩
theorem Ll {p:Pt} (h:ptB p=true) (f:∀s∈p.1,stWf s) (e:∀s∈p.1,s.6.length<=2001) (k:Nat):(stepsT 0 (p.1.take k)).length<=3300000:=by
 have c:=G2 (p.1.take k) 0 (fun s d=>f s (List.mem_of_mem_take d)) (fun s d=>e s (List.mem_of_mem_take d));have a:=(vR h).2.1;have b:(p.1.take k).length<=26:=by rw[jb];omega
 omega
theorem T6 (s:St) (k:Nat) (h:k=0):sepT s k=[]:=by unfold sepT;rw[if_pos h]
theorem OM (s:St) (k:Nat) (h:¬k=0) (a:s.5=true):sepT s k=[44]:=by unfold sepT;rw[if_neg h,if_pos a]
theorem T7 (s:St) (k:Nat) (h:¬k=0) (a:s.5=false):sepT s k=[59]:=by unfold sepT;rw[if_neg h,a];rfl
theorem Gt (p:Pt) (hw:∀s∈p.1,stWf s) (ac:bnd p.2) (hg:∀s∈p.1,s.6.length<=2001) (h:ptB p=true) (V:strict0 p=false) (v:Value) (w:World) (hv:PatV w v p) (hG:GP w):
  Cs 6 #[v] w (Rw w (.tuple #[sV (kX p).1,Vi (kX p).2])):=by
 obtain⟨bi,rfl,a,n,rfl,ap,a9,ah,X⟩:=hv;have J:Bz w ((w.alloc (Oc #[Sq a p.1.length n,Vi p.2] 25)).alloc (Oc #[.pointer none,Vn] 58)):=bB.alloc (by simp) _;have U:=Bk p _ ((w.alloc (Oc #[Sq a p.1.length n,Vi p.2] 25)).alloc (Oc #[.pointer none,Vn] 58)) ⟨_,rfl,a,n,rfl,ap,a9,ah,X.mono J nLe⟩ hw;have ci:=fun W y=>Fq 17 DD (fun s:St=>s.5) p.1 (fun bh s _ W v _=>EA s v W) a n W (X.mono y nLe) a9;have hf:=DB h;have Q:=hg;have b6:p.1.length<=40:=by have:=(vR h).2.1;omega
 have r:=fun k=>Ll h hw Q k;have key:∀(wr:World) (k:Nat),Bz w wr->k<p.1.length->∃b o s H I,a=some (Ad b o)∧p.1[k]?=some s∧stWf s∧s.6.length<=2001∧yQ w (Sq H s.6.length I) s.6∧
   (Cq wr b (o+k*6) (Vb s.neg)∧Cq wr b (o+k*6+1) (Vi s.kind)∧Cq wr b (o+k*6+2) (Vi s.min)∧
   Cq wr b (o+k*6+3) (Vi s.max)∧Cq wr b (o+k*6+4) (Vb s.5)∧Cq wr b (o+k*6+5) (Sq H s.6.length I)):=by
  intro wr k y hk;obtain⟨b,o,H,I,e,⟨k0,k1,k2,k3,k4,k5⟩,h1,h2,h3,h4⟩:=X.get k hk;exact⟨b,o,p.1[k],H,I,e,jB hk,hw _ (dI hk),Q _ (dI hk),⟨H,I,rfl,h1,h2,h3,h4⟩,
   qd y nLe k0,qd y nLe k1,qd y nLe k2,qd y nLe k3,qd y nLe k4,qd y nLe k5⟩
 have z0:=((Holds.fresh w 25 #[Sq a p.1.length n,Vi p.2]).alloc (Oc #[.pointer none,Vn] 58));have K:=(Bld.fresh (w:=w.alloc (Oc #[Sq a p.1.length n,Vi p.2] 25)) nLe);rw[jl]at K;have R:=fun hl=>Hh h V hl;have A:=fun hl=>FY h V hl;have z:patT p=stepsT 0 p.1++(Cr++Lib.itoa p.2):=rfl;have aj:=fun k s hs=>Mx (c:=p.1) (k:=k) (s:=s) hs;have aa:p.1.take p.1.length=p.1:=jn;rw[V]at hf;rw[h]at U;generalize firstI (fun s:St=>s.5) p.1=fi at*;generalize hP:kX p=PT at*;generalize patT p=PX at*;obtain⟨D,t⟩:=p;simp only at*;obtain⟨m,hm⟩:=xR D.length;rw[hm]at U ci J z0 ap a9 b6 K aa key⊢;have CR:=hiD U;clear U;have CI:=hiD ci;clear ci;have az:=hiD J;clear J;have Z0:=hiD z0;clear z0;have a':=hiD K;clear K;have af:=hiD r;clear r;have b3:=hiD key;clear key;have HY:=hiD R;clear R;have HN:=hiD A;clear A;have b1:=hiD z;clear z;have b2:=hiD aj;clear aj;have ae:=hiD aa;clear aa;have ba:=hiD Q;clear Q;clear hm ah X hw h V hP hg;have bc:(fi==0)=false:=hf;clear hf;go_enter func6,ntmps6;go_wp2_with fail;refine zE 0 rfl ?_;go_wp2_with fail;refine CR.out.mono ?_;rintro e w1 ⟨rfl,O⟩;have Z:=Z0.out.later O;have hl:=Z.size;have c0:Cq w1 w.1.size 0 (Sq a m n):=Z.cell 0;have a2:=hiD (az.out.trans (O.mono (by simp;omega)));have av:SP w w.1.size (w.1.size+1) #[Sq a m n,Vi t] [] w1:=⟨a'.out.later O,Z,a2.out⟩;have ai:=hiD av;clear av;clear Z O;go_wp2_with fail;refine(CI.out _ a2.out).mono ?_;rintro e w2 ⟨rfl,an⟩;have ab:=ai.out.later an;have d0:Cq w2 w.1.size 0 (Sq a m n):=ab.pat.cell 0;have a3:=hiD ab;clear ab ai a2 an c0;go_wp2_with fail;go_loopw [19] (fun ix wr=>∃q:Nat,q<=m∧ix=Vi q∧SP w w.1.size (w.1.size+1) #[Sq a m n,Vi t] (stepsT 0 (D.take q)) wr) (fun ix _=>m-(intOf ix).toNat);case atStart=>exact⟨0,jg _,rfl,a3.out⟩
 case round=>
  obtain⟨q,hq,rfl,d⟩:=hrel;by_cases b7:q<m
  ·obtain⟨b,o,s,H,I,rfl,aq,a0,ak,a6,r0,r1,r2,r3,r4,r5⟩:=b3.out wr q d.below b7;have au:=b2.out q s aq;have ar:=JL s q a0 ak;have r:=af.out q;obtain⟨SX,eS,sS,rS⟩:=kW (Ao s q) 126203 ar;have cs:=fun W (y:Bz w W)=>OY s q a0 ak _ W (a6.mono y nLe) (hG.mono y);rw[eS]at cs;have aw:=d.later ((Below.refl wr.1.size wr).alloc nLe (Oc (stV s (Sq H s.6.length I)).toArray 63));have z3:=Holds.fresh wr 63 (stV s (Sq H s.6.length I)).toArray;have a4:=T6 s q;have L:=OM s q;have M:=T7 s q;generalize sepT s q=sp at*;generalize b4:Ao s q=ax at*;have al:∀W,SP w w.1.size (w.1.size+1) #[Vs b o m n,Vi t] (stepsT 0 (D.take q)++sp) W->sp.length<=1->Cs 19 #[Vp (w.1.size+1) 0,.string SX] W fun e w'=>e=Rt (.tuple #[Vi ax.length,.nilIface])∧SP w w.1.size (w.1.size+1) #[Vs b o m n,Vi t] (stepsT 0 (D.take (q+1))) w':=fun W hW bf=>by
    have:=hW.put ax SX rS (by omega) (by omega) (by rw[jZ];omega);rw[jk,<-au]at this;exact this
   obtain⟨a5,kd,mn,mx,st,cm⟩:=s;simp only[stA,stV]at*;have bd:=z3.size;have a8:=hiD al;clear al;have CS:=hiD cs;clear cs;have N:=hiD aw;clear aw;have Z3:=hiD z3;clear z3;clear au ar a6 aq a0 eS rS b4;have bg:=d.size;have ag:=hiD d;clear d a3 d0;by_cases P:q=0
   ·have u:=a4 P;subst P;have j:=hiD N.out;clear N a4 L M;simp only[Nat.zero_mul,Nat.add_zero]at r0 r1 r2 r3 r4 r5;have HF:=hiD (a8.out);clear a8;go_wp2_with fail;refine(CS.out _ j.out.below).mono ?_;rintro e l ⟨rfl,B⟩;have c:=j.out.later B;have T:=HF.out _ (by rw[u];simpa using c) (by rw[u];simp);have E:=hiD T;clear T;go_wp2_with fail;refine E.out.mono ?_;rintro e w5 ⟨rfl,g⟩;have C:=hiD g;clear g c B;go_wp2_with fail;go_roundw;case rel=>exact⟨1,by omega,by go_num,C.out⟩
    case measure=>simp[intOf];omega
   ·have be:((q:Int)==0)=false:=by simp only[beq_eq_false_iff_ne];omega
    clear a4;cases st
    ·have u:=M P rfl;clear L M;have S:=N.out.byte 59 (by omega) (by omega) (by omega);have CB:=hiD S;clear S;go_wp2_with fail;refine CB.out.mono ?_;rintro e l ⟨rfl,f,F⟩;have i:=F _ _ Z3.out;have b8:=i.size;obtain⟨x0,x1,x2,x3,x4,x5⟩:Cq l wr.1.size 0 (Vb a5)∧Cq l wr.1.size 1 (Vi kd)∧Cq l wr.1.size 2 (Vi mn)∧Cq l wr.1.size 3 (Vi mx)∧Cq l wr.1.size 4 (Vb false)∧Cq l wr.1.size 5 (Sq H cm.length I):=⟨i.cell 0,i.cell 1,i.cell 2,i.cell 3,i.cell 4,i.cell 5⟩;have j:=hiD f;clear f F i;go_wp2_with fail;refine(CS.out _ j.out.below).mono ?_;rintro e w5 ⟨rfl,x⟩;have c:=j.out.later x;have T:=a8.out _ (by rw[u];exact c) (by rw[u];simp);have E:=hiD T;clear T;go_wp2_with fail;refine E.out.mono ?_;rintro e w6 ⟨rfl,g⟩;have C:=hiD g;clear g c x;go_wp2_with fail;go_roundw;case rel=>exact⟨q+1,by omega,by go_num,C.out⟩
     case measure=>simp[intOf];omega
    ·have u:=L P rfl;clear L M;have S:=N.out.byte 44 (by omega) (by omega) (by omega);have CB:=hiD S;clear S;go_wp2_with fail;refine CB.out.mono ?_;rintro e l ⟨rfl,f,F⟩;have i:=F _ _ Z3.out;have b8:=i.size;obtain⟨x0,x1,x2,x3,x4,x5⟩:Cq l wr.1.size 0 (Vb a5)∧Cq l wr.1.size 1 (Vi kd)∧Cq l wr.1.size 2 (Vi mn)∧Cq l wr.1.size 3 (Vi mx)∧Cq l wr.1.size 4 (Vb true)∧Cq l wr.1.size 5 (Sq H cm.length I):=⟨i.cell 0,i.cell 1,i.cell 2,i.cell 3,i.cell 4,i.cell 5⟩;have j:=hiD f;clear f F i;go_wp2_with fail;refine(CS.out _ j.out.below).mono ?_;rintro e w5 ⟨rfl,x⟩;have c:=j.out.later x;have T:=a8.out _ (by rw[u];exact c) (by rw[u];simp);have E:=hiD T;clear T;go_wp2_with fail;refine E.out.mono ?_;rintro e w6 ⟨rfl,g⟩;have C:=hiD g;clear g c x;go_wp2_with fail;go_roundw;case rel=>exact⟨q+1,by omega,by go_num,C.out⟩
     case measure=>simp[intOf];omega
  ·obtain rfl:q=m:=by omega
   rw[ae.out]at d;have bb:Cq wr w.1.size 1 (Vi t):=d.pat.cell 1;have r:=af.out q;rw[ae.out]at r;have z:=b1.out;obtain⟨ad,eD,sD,rD⟩:=kW (Lib.itoa t) 21 (xt _ ac);have cn:=vI t ac wr (hG.mono d.below);rw[eD]at cn;have cp:∀W,SP w w.1.size (w.1.size+1) #[Sq a q n,Vi t] (stepsT 0 D) W->Cs 19 #[Vp (w.1.size+1) 0,.string (⟨#[32,119,105,116,104,105,110,32]⟩++ad)] W fun e w'=>e=Rt (.tuple #[Vi (Cr++Lib.itoa t).length,.nilIface])∧SP w w.1.size (w.1.size+1) #[Sq a q n,Vi t] PX w':=fun W hW=>by
    have:=hW.put (Cr++Lib.itoa t) (⟨#[32,119,105,116,104,105,110,32]⟩++ad) (by rw[rD,show (⟨#[32,119,105,116,104,105,110,32]⟩:ByteArray)=⟨Cr.toArray⟩from rfl,AS]) (by omega) (by omega) (by have:=xt t ac;simp only[jZ,Cr,jF,jO];omega);rw[<-z]at this;exact this
   have CN:=hiD cn;clear cn;have CP:=hiD cp;clear cp;have ag:=hiD d;clear d z eD rD r a3 d0;go_wp2_with fail;refine CN.out.mono ?_;rintro e l ⟨rfl,B⟩;have f:=ag.out.later B;go_wp2_with fail;refine(CP.out _ f).mono ?_;rintro e w5 ⟨rfl,c⟩;have cl:=c.len;have am:=c.str (by omega);obtain⟨b9,A⟩:=xR PX.length;rw[A]at cl;have CL:=hiD cl;clear cl;have ay:=hiD am;clear am;have ao:=c.below;have b0:=hiD ao;clear ao c f B;by_cases a7:b9<=2000
   ·have R:=HY.out (by rw[A];exact a7);have a1:=hiD R;clear R A;go_wp2_with fail;refine CL.out.mono ?_;rintro e w6 ⟨rfl,rfl⟩;go_wp2_with fail;refine ay.out.mono ?_;rintro e w7 ⟨rfl,b5⟩;go_wp2_with fail;rw[qU];go_ret2;exact⟨by rw[a1.out];rfl,b5⟩
   ·have R:=HN.out (by rw[A];exact a7);have a1:=hiD R;clear R A;go_wp2_with fail;refine CL.out.mono ?_;rintro e w6 ⟨rfl,rfl⟩;go_wp2_with fail;apply wp_label;go_wp2_with fail;rw[qU];go_ret2;exact⟨by rw[a1.out];rfl,b0.out⟩
theorem FX (p:Pt) (c:∀s∈p.1,stWf s) (f:bnd p.2) (e:∀s∈p.1,s.6.length<=2001) (v:Value) (w:World) (a:PatV w v p) (d:GP w):
  Cs 6 #[v] w (Rw w (.tuple #[sV (kX p).1,Vi (kX p).2])):=by
 by_cases h:ptB p=true∧strict0 p=false
 ·exact Gt p c f e h.1 h.2 v w a d
 ·rw[R7 h];exact Hg p c h v w a
section
attribute [local go_sem ↓] Go.wp_at_zero Go.wp_at_succ
theorem st_eq {a b:St}:a=b↔a.neg=b.neg∧a.kind=b.kind∧a.min=b.min∧a.max=b.max∧a.5=b.5∧a.6=b.6:=by
 cases a;cases b;simp
theorem RX (a b:St) (S T:Value) (w:World) (V:yQ w S a.6) (W:yQ w T b.6):
  Cs 24 #[stA a S,stA b T] w (Rw w (Vb (decide (a=b)))):=by
 obtain⟨D,E,rfl,I,J,_,j⟩:=V;obtain⟨H,C,rfl,Q,U,_,L⟩:=W;have c:¬(a.neg=b.neg∧a.kind=b.kind∧a.min=b.min∧a.max=b.max∧a.5=b.5∧a.6.length=b.6.length)->decide (a=b)=false:=fun h=>by
  rw[decide_eq_false_iff_not];rintro rfl;exact h ⟨rfl,rfl,rfl,rfl,rfl,rfl⟩
 have d:a.neg=b.neg->a.kind=b.kind->a.min=b.min->a.max=b.max->a.5=b.5->decide (a=b)=decide (a.6=b.6):=fun l r u v o=>by
  refine decide_eq_decide.2 ?_;rw[st_eq];simp[l,r,u,v,o]
 obtain⟨g,M,q,t,k,P⟩:=a;obtain⟨p,y,N,A,z,B⟩:=b;simp only[stA]at*;generalize decide ((⟨g,M,q,t,k,P⟩:St)=⟨p,y,N,A,z,B⟩)=R at*;obtain⟨m,i⟩:=xR P.length;obtain⟨x,e⟩:=xR B.length;rw[i,e]at c;rw[i]at I J⊢;rw[e]at Q U⊢;have s:=(bA w (Oc #[Vb g,Vi M,Vi q,Vi t,Vb k,Sq D m E] 63)).alloc (by simp) (Oc #[Vb p,Vi y,Vi N,Vi A,Vb z,Sq H x C] 63);have f:=hiD s;clear s;by_cases l:g=p;rotate_left
 ·have n:=c (fun h=>l h.1);rw[n];clear c d j L i e n;have K:(g==p)=false:=by simpa using l
  cases g<;>cases p<;>first|exact absurd rfl l|skip
  all_goals
   go_enter func24,ntmps24;go_wp2_with fail;go_ret;exact⟨rfl,f.out⟩
 subst l;by_cases r:M=y;rotate_left
 ·have n:=c (fun h=>r h.2.1);rw[n];clear c d j L i e n;have O:(M !=y)=true:=by simpa using r
  cases g
  all_goals
   go_enter func24,ntmps24;go_wp2_with fail;go_ret;exact⟨rfl,f.out⟩
 subst r;by_cases u:q=N;rotate_left
 ·have n:=c (fun h=>u h.2.2.1);rw[n];clear c d j L i e n;have O:(q !=N)=true:=by simpa using u
  cases g
  all_goals
   go_enter func24,ntmps24;go_wp2_with fail;go_ret;exact⟨rfl,f.out⟩
 subst u;by_cases v:t=A;rotate_left
 ·have n:=c (fun h=>v h.2.2.2.1);rw[n];clear c d j L i e n;have O:(t !=A)=true:=by simpa using v
  cases g
  all_goals
   go_enter func24,ntmps24;go_wp2_with fail;go_ret;exact⟨rfl,f.out⟩
 subst v;by_cases o:k=z;rotate_left
 ·have n:=c (fun h=>o h.2.2.2.2.1);rw[n];clear c d j L i e n;cases g<;>cases k<;>cases z<;>first|exact absurd rfl o|skip
  all_goals
   go_enter func24,ntmps24;go_wp2_with fail;go_ret;exact⟨rfl,f.out⟩
 subst o;by_cases F:m=x;rotate_left
 ·have n:=c (fun h=>F h.2.2.2.2.2);rw[n];clear c d j L i e n;have O:((m:Int)==(x:Int))=false:=by simp only[beq_eq_false_iff_ne];omega
  have X:((m:Int)!=(x:Int))=true:=by simp only[bne,O];rfl
  cases g<;>cases k
  all_goals
   go_enter func24,ntmps24;go_wp2_with fail;go_ret;exact⟨rfl,f.out⟩
 subst F;rw[d rfl rfl rfl rfl rfl];exact Hb g M q t k P B D H E C m i e J w j L I Q
theorem pt_eq {a b:Pt}:a=b↔a.1=b.1∧a.2=b.2:=by
 cases a;cases b;simp
theorem RY (p q:Pt) (vp vq:Value) (w:World) (hp:PatV w vp p) (hq:PatV w vq q):
  Cs 7 #[vp,vq] w (Rw w (Vb (decide (p=q)))):=by
 obtain⟨_,rfl,N,J,rfl,h1,F,_,U⟩:=hp;obtain⟨_,rfl,O,H,rfl,g1,g2,_,g3⟩:=hq;have j:p.1.length≠q.1.length->decide (p=q)=false:=fun h=>by
  rw[decide_eq_false_iff_not];rintro rfl;exact h rfl
 have l:p.2≠q.2->decide (p=q)=false:=fun h=>by
  rw[decide_eq_false_iff_not];rintro rfl;exact h rfl
 have a5:p.2=q.2->p.1.take p.1.length=q.1.take p.1.length->p.1.length=q.1.length->decide (p=q)=true:=fun e h hl=>by
  rw[jy nLe,jy (by omega)]at h;rw[decide_eq_true_iff,pt_eq];exact⟨h,e⟩
 have ac:∀(k:Nat) (a6 a7:St),p.1[k]?=some a6->q.1[k]?=some a7->decide (a6=a7)=false->decide (p=q)=false:=fun k a6 a7 h1 F U=>by
  rw[decide_eq_false_iff_not]at U⊢;rintro rfl;rw[h1]at F;exact U (Option.some.inj F)
 have key:∀(wr:World) (k:Nat),Bz w wr->k<p.1.length->k<q.1.length->∃b a g d s t E D C B,N=some (Ad b a)∧O=some (Ad g d)∧p.1[k]?=some s∧q.1[k]?=some t∧
   (∀W,Bz w W->Cs 24 #[stA s (Sq E s.6.length D),stA t (Sq C t.6.length B)] W fun e w'=>e=Rt (Vb (decide (s=t)))∧Bz W w')∧
   (Cq wr b (a+k*6) (Vb s.neg)∧Cq wr b (a+k*6+1) (Vi s.kind)∧Cq wr b (a+k*6+2) (Vi s.min)∧
   Cq wr b (a+k*6+3) (Vi s.max)∧Cq wr b (a+k*6+4) (Vb s.5)∧Cq wr b (a+k*6+5) (Sq E s.6.length D))∧
   (Cq wr g (d+k*6) (Vb t.neg)∧Cq wr g (d+k*6+1) (Vi t.kind)∧Cq wr g (d+k*6+2) (Vi t.min)∧
   Cq wr g (d+k*6+3) (Vi t.max)∧Cq wr g (d+k*6+4) (Vb t.5)∧Cq wr g (d+k*6+5) (Sq C t.6.length B)):=by
  intro wr k I hk ab;obtain⟨b,a,E,D,e,⟨k0,r,Z,k3,k4,k5⟩,u,x,x3,x4⟩:=U.get k hk;obtain⟨g,d,C,B,n,⟨j0,j1,j2,j3,j4,j5⟩,P,y2,y3,y4⟩:=g3.get k ab;have c:=fun {af:Addr} {v:Value} (h:w.cell? af=some v)=>qd I nLe h;refine⟨b,a,g,d,_,_,E,D,C,B,e,n,jB hk,jB ab,fun W hW=>?_,⟨c k0,c r,c Z,c k3,c k4,c k5⟩,c j0,c j1,c j2,c j3,c j4,c j5⟩;exact RX _ _ _ _ W (yQ.mono hW nLe ⟨E,D,rfl,u,x,x3,x4⟩) (yQ.mono hW nLe ⟨C,B,rfl,P,y2,y3,y4⟩)
 have z0:=(Holds.fresh w 25 #[Sq N p.1.length J,Vi p.2]).alloc (Oc #[Sq O q.1.length H,Vi q.2] 25);have z1:=Holds.fresh' (w:=w.alloc (Oc #[Sq N p.1.length J,Vi p.2] 25)) (b:=w.1.size+1) (by simp) 25 #[Sq O q.1.length H,Vi q.2];have a0:=(bA w (Oc #[Sq N p.1.length J,Vi p.2] 25)).alloc (by simp) (Oc #[Sq O q.1.length H,Vi q.2] 25);generalize decide (p=q)=R at*;obtain⟨ss,pw⟩:=p;obtain⟨ts,qw⟩:=q;simp only at*;obtain⟨m,hm⟩:=xR ss.length;obtain⟨m',a1⟩:=xR ts.length;rw[hm,a1]at j a5 key z0 z1 a0;rw[hm]at h1 F⊢;rw[a1]at g1 g2⊢;clear hm a1 U g3;have A:=hiD a0;clear a0;have Z0:=hiD z0;clear z0;have Z1:=hiD z1;clear z1;have HK:=hiD key;clear key;have i:=hiD ac;clear ac;have V:=hiD a5;clear a5;by_cases e1:m=m';rotate_left
 ·have o:=j e1;rw[o];clear j l o i V HK;have t2:((m:Int)==(m':Int))=false:=by simp only[beq_eq_false_iff_ne];omega
  have t3:((m:Int)!=(m':Int))=true:=by simp only[bne,t2];rfl
  go_enter func7,ntmps7;go_wp2_with fail;go_ret;exact⟨rfl,A.out⟩
 subst e1;by_cases n:pw=qw;rotate_left
 ·have o:=l n;rw[o];clear j l o i V HK;have t2:(pw !=qw)=true:=by simpa using n
  go_enter func7,ntmps7;go_wp2_with fail;go_ret;exact⟨rfl,A.out⟩
 subst n;clear j l;go_enter func7,ntmps7;go_wp2_with fail;generalize (w.alloc (Oc #[Sq N m J,Vi pw] 25)).alloc (Oc #[Sq O m H,Vi pw] 25)=W at*;go_loopw [5] (fun a4 wr=>∃(k:Nat),k<=m∧a4=Vi k∧Hid (ss.take k=ts.take k)∧Bz W wr) (fun a4 _=>m-(intOf a4).toNat);case atStart=>exact⟨0,jg _,rfl,hiD (by simp),Below.refl _ _⟩
 case round=>
  obtain⟨k,hk,rfl,y,I⟩:=hrel;have y0:Cq wr w.1.size 0 (Sq N m J):=(Z0.out.later I).cell 0;have P:Cq wr (w.1.size+1) 0 (Sq O m H):=(Z1.out.later I).cell 0;have z:=hiD (A.out.trans (I.mono A.out.size));by_cases a8:k<m
  ·obtain⟨b,a,g,d,s,t,E,D,C,B,rfl,rfl,hs,ht,ae,⟨K,L,M,Q,T,X⟩,⟨q0,q1,q2,q3,q4,q5⟩⟩:=HK.out wr k z.out a8 a8;have aa:=i.out k s t hs ht;have ad:decide (s=t)=true->ss.take (k+1)=ts.take (k+1):=fun e=>by
    have e':s=t:=by simpa using e
    subst e';exact JR y.out hs ht
   obtain⟨n1,r,i1,u,s1,cs⟩:=s;obtain⟨n2,Z,i2,x,s2,ds⟩:=t;simp only[stA]at*;have a9:=ae wr.drew (z.out.trans (qp _ wr 1));clear hs ht ae;generalize decide ((⟨n1,r,i1,u,s1,cs⟩:St)=⟨n2,Z,i2,x,s2,ds⟩)=ai at*;generalize cs.length=u1 at*;generalize ds.length=u2 at*;have HC:=hiD a9;clear a9;have a3:=hiD aa;clear aa;have a2:=hiD ad;clear ad;cases ai
   ·have S:=hiD (a3.out rfl);clear a3 a2;have ag:(0:Int)<=(k:Int):=by omega
    have ah:(k:Int)<(m:Int):=by omega
    clear i V y Z0 Z1;go_wp2_with fail;go_region_held3 (fun w'=>Cq w' w.1.size 0 (Vs b a m J)∧Cq w' (w.1.size+1) 0 (Vs g d m H)∧Cq w' b (a+k*6) (Vb n1)∧Cq w' b (a+k*6+1) (Vi r)∧Cq w' b (a+k*6+2) (Vi i1)∧Cq w' b (a+k*6+3) (Vi u)∧Cq w' b (a+k*6+4) (Vb s1)∧Cq w' b (a+k*6+5) (Sq E u1 D)∧Cq w' g (d+k*6) (Vb n2)∧Cq w' g (d+k*6+1) (Vi Z)∧Cq w' g (d+k*6+2) (Vi i2)∧Cq w' g (d+k*6+3) (Vi x)∧Cq w' g (d+k*6+4) (Vb s2)∧Cq w' g (d+k*6+5) (Sq C u2 B))
     (first|exact⟨y0,P,K,L,M,Q,T,X,q0,q1,q2,q3,q4,q5⟩|exact⟨qd f nLe y0,qd f nLe P,qd f nLe K,qd f nLe L,qd f nLe M,qd f nLe Q,qd f nLe T,qd f nLe X,qd f nLe q0,qd f nLe q1,qd f nLe q2,qd f nLe q3,qd f nLe q4,qd f nLe q5⟩|assumption)
     ((go_at_call 24;refine HC.out.mono ?_;rintro e w1 ⟨rfl,f⟩))
    go_wp2_with fail;go_ret;exact⟨by rw[S.out];rfl,z.out.trans (((qp _ wr 1).trans (f.mono nLe)).mono z.out.size)⟩
   ·have S:=hiD (a2.out rfl);clear a3 a2;have ag:(0:Int)<=(k:Int):=by omega
    have ah:(k:Int)<(m:Int):=by omega
    clear i V y;go_wp2_with fail;go_region_held3 (fun w'=>Cq w' w.1.size 0 (Vs b a m J)∧Cq w' (w.1.size+1) 0 (Vs g d m H)∧Cq w' b (a+k*6) (Vb n1)∧Cq w' b (a+k*6+1) (Vi r)∧Cq w' b (a+k*6+2) (Vi i1)∧Cq w' b (a+k*6+3) (Vi u)∧Cq w' b (a+k*6+4) (Vb s1)∧Cq w' b (a+k*6+5) (Sq E u1 D)∧Cq w' g (d+k*6) (Vb n2)∧Cq w' g (d+k*6+1) (Vi Z)∧Cq w' g (d+k*6+2) (Vi i2)∧Cq w' g (d+k*6+3) (Vi x)∧Cq w' g (d+k*6+4) (Vb s2)∧Cq w' g (d+k*6+5) (Sq C u2 B))
     (first|exact⟨y0,P,K,L,M,Q,T,X,q0,q1,q2,q3,q4,q5⟩|exact⟨qd f nLe y0,qd f nLe P,qd f nLe K,qd f nLe L,qd f nLe M,qd f nLe Q,qd f nLe T,qd f nLe X,qd f nLe q0,qd f nLe q1,qd f nLe q2,qd f nLe q3,qd f nLe q4,qd f nLe q5⟩|assumption)
     ((go_at_call 24;refine HC.out.mono ?_;rintro e w1 ⟨rfl,f⟩))
    go_wp2_with fail;go_roundw;case rel=>exact⟨k+1,by omega,by go_num,hiD S.out,I.trans (((qp _ wr 1).trans (f.mono nLe)).mono I.size)⟩
    case measure=>simp[intOf];omega
  ·obtain rfl:k=m:=by omega
   have S:=hiD (V.out trivial y.out trivial);go_wp2_with fail;go_ret;exact⟨by rw[S.out];rfl,z.out⟩
end
section
attribute [local go_sem] Oper.semAt_some
theorem RowV.news {α:Type} {k:Nat} {n:α->List Value} {W:World} {o:Addr} {m c:Nat} {l:List α} (h:RowV k n W (Sq (some o) m c) l) (r:∀x,(n x).length=k) (t:0<k):∀j u,(l.flatMap n)[j]?=some u->W.cell? (o.add j)=some u:=by
 intro j u q;have a:j<(l.flatMap n).length:=(jG.1 q).1;rw[xU r]at a;have p:j/k<l.length:=Nat.div_lt_of_lt_mul (by rw[Nat.mul_comm];exact a);obtain⟨b,s,i,e,-,g⟩:=h.get (jB p);cases e;have y:j%k<k:=Nat.mod_lt _ t;have f:=EO r l (j/k) _ (jB p) (j%k) y;have d:j/k*k+j%k=j:=by rw[Nat.mul_comm];exact Nat.div_add_mod j k
 rw[d,q]at f;have:=g (j%k) u f.symm;rw[Nat.add_assoc,d]at this;have e:(Addr.mk b s none).add j=⟨b,s+j,none⟩:=by
  simp only[Addr.add];split
  ·simp
  ·rfl
 rw[e];exact this
section
variable {F : Fence} {nF : Nat} {P : Program}
theorem AD {w:World} {k:Array Oper} {l:List Oper} {o:Oper} {a:Act} {Q:Exit->Act->World->Prop} (q:o.guard=none) (s x:Operand) (t:TypeId)
  (g:o.op= .call {callee:= .builtin .append,args:=#[s,x],argTypes:=#[t,t]}) (j:Nat) (e:TypeId) (i:TypeInfo) (m:Nat) (z:P.underlying t=some (.slice e)) (r:P.info? e=some i)
  (v:Value) (n:Nat) (p:List Value) (y:a.eval s=v) (u:w.ownsRow j e m v n p) (A:a.eval x= .slice none 0 0)
  (h:wpListIn F nF P k Q l (a.put o.dst v) w):wpListIn F nF P k Q (o::l) a w:=by
 refine wpListIn_plain q fun K f=>?_;have b:=run_append_owned_none (P:=P) (w:=w) j t o.type e i m z r v n p u;unfold Oper.wpIn;refine⟨by simp[Oper.about,g,resolve,Target.leads,Sem.run_pure],?_⟩;rw[Oper.semAt_plain F _ _ (by rw[g];intro c d;cases d)];simp[execOp,g,resolve,invoke,builtin,y,A,b,Result.andThen];exact f _ _ h
theorem Bh {α:Type} {w:World} {L:Array Oper} {M:List Oper} {o:Oper} {a:Act} {Q:Exit->Act->World->Prop} (A:o.guard=none) (s x:Operand) (t:TypeId)
  (D:o.op= .call {callee:= .builtin .append,args:=#[s,x],argTypes:=#[t,t]})
  (m:Nat) (e:TypeId) (i:TypeInfo) (z:Value) (k u:Nat) (J:P.underlying t=some (.slice e)) (B:P.info? e=some i) (W:i.zero=some z)
  (V:i.size=k) (T:i.bytes=u) (X:z.cells.size=k) (I:0<k)
  (v:Value) (n:Nat) (q:List Value) (H:a.eval s=v) (y:w.ownsRow m e k v n q)
  {p:α->List Value} {l:List α} (N:Value) (K:a.eval x=N) (E:RowV k p w N l) (C:∀a4,(p a4).length=k) (O:∀a3∈l.flatMap p,a3.oneCell'=true)
  (R:n+l.length<=maxLen) (U:(n+l.length)*u<=140737488355328) (S:m<=w.1.size)
  (h:∀b w',w'.ownsRow m e k b (n+l.length) (q++l.flatMap p)->w.grownBy w' v.ownBlock->(b.ownBlock=v.ownBlock∨b.ownBlock=some w.1.size)->wpListIn F nF P L Q M (a.put o.dst b) w'):
  wpListIn F nF P L Q (o::M) a w:=by
 obtain⟨r,c,f,a5,a6,d,hl⟩:=id E;subst f;rcases r with _|r
 ·have j:=d rfl;have g:l=[]:=by apply jV;omega
  subst g;subst j;refine AD A s x t D m e i k J B v n q H y K ?_;refine h v w (by simpa using y) ?_ (.inl rfl);exact⟨rfl,rfl,rfl,Nat.le_refl _,fun _ _ _=>rfl⟩
 ·refine wpListIn_append_own_at w A s x t D m e i z k u J B W V T X I v n q H y r l.length c (l.flatMap p) K (xU C l) (E.news C I) O R U S ?_;intro b w' a0 a2 _ a1;exact h b w' a0 a2 a1
end
theorem Ug {W:World} {k:List (Ot×Cl 5)} (h:∀y∈k,otR y.1 y.2.1 W):∀u∈k.flatMap (fun y=>(y.2.1:List Value)),u.oneCell'=true:=by
 intro u a;obtain⟨y,c,a⟩:=List.mem_flatMap.1 a;obtain⟨r,e,d,b⟩:=h y c;rw[d]at a;obtain⟨f,j,rfl,-⟩:=b.1.form;obtain⟨g,i,rfl,-⟩:=b.2.form;simp only[outC,jI,jH,or_false]at a;rcases a with rfl|rfl|rfl|rfl|rfl<;>rfl
end
section
attribute [local go_sem] Oper.semAt_some
attribute [local go_sem ↓] Go.wp_at_zero Go.wp_at_succ
theorem Uh (k:Int) (a:k=1) (w:World):Cs 93 #[Vu k] w fun e w'=>e=Rt (Vb true)∧w=w':=by
 subst a;go_enter func93,ntmps93;go_wp2_with fail;go_ret;exact⟨rfl,rfl⟩
theorem Pg (e:Ev) (d:evWf e) (w:World):Cs 91 #[evA e] w fun r w'=>r=Rt (Vb (!evB e))∧Bz w w':=by
 have C:=hiD (fun W=>Cd e d W);obtain⟨k,j,i,f,g,b⟩:=e;simp only[evA,evV]at C⊢;generalize evB ⟨k,j,i,f,g,b⟩=q at*;go_enter func91,ntmps91;go_wp2_with fail;refine(C.out _).mono ?_;rintro r c ⟨rfl,a⟩;go_wp2_with fail;go_ret;exact⟨rfl,bB.trans (a.mono (by simp))⟩
theorem P1:En0 91:=enters_of func91 rfl rfl
def outB (m:Mt):Prop:=m.row.length=m.2.length∧1<=m.row.length∧m.row.length<=4∧0<=Lib.minOf m.row∧Lib.maxOf m.row<6∧(∀x∈m.2,x=l1∨x=l2)∧∀i x y,m.2[i]?=some x->m.2[i+1]?=some y->lessE x y=true
theorem Sm (m:Mt) (hm:outB m) (r e:Value) (w:World) (o:MtV w r e m):Cs 53 #[.agg (outC 1 r e 0 0).toArray] w fun x w'=>x=Rt (Vb true)∧Bz w w':=by
 obtain⟨L,E⟩:=m;obtain⟨z,Z,h3,h4,h5,N,S⟩:=hm;simp only at z Z h3 h4 h5 N S;obtain⟨ra,D,rfl,C⟩:=o.1.form;obtain⟨K,R,rfl,H⟩:=o.2.form;simp only at C H;obtain⟨l,p,a6,t⟩:∃l p,ra=some ⟨l,p,none⟩∧∀j,j<L.length->w.cell? ⟨l,p+j,none⟩=some (Vi (L.getD j 0)):=by
  obtain⟨b,a7,ab,F,-,ag⟩:=o.1.1.get (jB (show 0<L.length by omega));cases F;refine⟨b,a7,rfl,fun j y=>?_⟩;obtain⟨b',o',c',V,-,h'⟩:=o.1.1.get (jB y);cases V;have:=h' 0 _ rfl;rw[Nat.mul_one,Nat.add_zero]at this;rw[this];simp[List.getD,y]
 subst a6;obtain⟨n,h⟩:=xR L.length;have A:=hiD (fun W (a:Bz w W)=>Go.Proofs.Tryz.slices_Min_int l p n D L W (by omega) (by omega) (by omega) (fun j y=>qd a nLe (t j y)));have U:=hiD (fun W (a:Bz w W)=>Go.Proofs.Tryz.slices_Max_int l p n D L W (by omega) (by omega) (by omega) (fun j y=>qd a nLe (t j y)));have J:L.take n=L:=by rw[<-h];exact jn
 rw[J]at A U;have Q:=hiD (fun W (a:Bz w W)=>PR evV (fun _=>rfl) 91 #[] P1 (fun x=>!evB x) E _ W (o.2.later a).1 (fun i x f W' _=>Pg x ((N x (jY f)).imp id .inl) W'));have g:E.any (fun x=>!evB x)=false:=by
  rw[List.any_eq_false];intro x f;simp[evWf.ok ((N x f).imp id .inl)]
 rw[g,<-z,h]at Q;have X:=hiD (fun W=>Uh 1 rfl W);generalize Lib.minOf L=mn at*;generalize Lib.maxOf L=mx at*;simp only[outC];rw[<-z,h];have HV:=hiD o;have H7:=hiD S;have O:=hiD (h.symm.trans z);rw[h]at Z h3 C;rw[<-z,h]at H;clear o z N S t J g h;have t1:decide (mn<0)=false:=by simp;omega
 have t2:decide (mx≥6)=false:=by simp;omega
 have t3:((n:Int)==0)=false:=by simp;omega
 have t4:decide ((n:Int)>4)=false:=by simp;omega
 have t5:((n:Int)!=n)=false:=by simp
 go_enter func53,ntmps53;go_wp2_with fail;have z0:=Holds.fresh w 129 #[Vu 1,Sq (some ⟨l,p,none⟩) n D,Sq K n R,Vi 0,Vu 0];have a:=bA w (Oc #[Vu 1,Sq (some ⟨l,p,none⟩) n D,Sq K n R,Vi 0,Vu 0] 129);generalize w.alloc (Oc #[Vu 1,Sq (some ⟨l,p,none⟩) n D,Sq K n R,Vi 0,Vu 0] 129)=w0 at*;obtain⟨c0,M,c2,c3,c4,-⟩:=z0.g5;refine zE 0 rfl ?_;go_wp2_with fail;go_quiet (fail);go_wp2_with fail;refine(X.out _).mono ?_;rintro r P ⟨rfl,rfl⟩;go_wp2_with fail;refine(A.out _ (a.trans (qp _ _ _))).mono ?_;rintro r P ⟨rfl,rfl⟩;go_wp2_with fail;refine(U.out _ (a.trans (qp _ _ _))).mono ?_;rintro r P ⟨rfl,rfl⟩;go_wp2_with fail;refine(Q.out _ (a.trans (qp _ _ _))).mono ?_;rintro r P ⟨rfl,B⟩;go_wp2_with fail;replace a:=(a.trans (qp _ _ _)).trans (B.mono a.size);clear B A U Q X c0 M c2 c3 c4 z0;go_loopw [89] (fun q wr=>∃i:Nat,i<=n∧q=Vi i∧Bz w wr) (fun q _=>n-(intOf q).toNat);case atStart=>exact⟨0,jg _,rfl,a⟩
 case round=>
  obtain⟨i,hi,rfl,a⟩:=hrel;by_cases al:i<n
  ·have T:=(HV.out.later a).2.1;cases i with
   |zero=>
     have ah:decide (((0:Nat):Int)>0)=false:=by decide
     go_wp2_with fail;refine qz wr (by kernel_rfl) (by kernel_rfl) bRf ?_
     repeat (go_big_quiet_step (fail))
     refine wpQuiet_nil ?_;rintro _ ⟨⟨w5,s⟩,rfl⟩;go_wp2_with fail;exact⟨⟨1,by omega,rfl,a.trans (s.mono a.size)⟩,by simp[intOf];omega⟩
   |succ k=>
     obtain⟨c,d,ad,F,-,f⟩:=T.get (jB (show k<E.length by have:=O.out;omega));obtain⟨ac,af,ae,V,-,v⟩:=T.get (jB (show k+1<E.length by have:=O.out;omega));cases F;cases V;have I:=H7.out k _ _ (jB (show k<E.length by have:=O.out;omega)) (jB (show k+1<E.length by have:=O.out;omega));generalize E[k]=x at*;generalize E[k+1]=a0 at*;have M:=fun W=>Go.Calls.rel (fun w=>yN x a0 w) W;have A:=hiD (M wr);rw[I]at A;obtain⟨ts,a9,a8,kd,re,im⟩:=x;obtain⟨aa,a2,a1,a4,a5,a3⟩:=a0;simp only[evA,evV]at*;have p0:∀u:Lat wr,u.v.cell? ⟨c,d+k*5,none⟩=some (Vi ts):=fun u=>u.cell (f 0 _ rfl);have p1:∀u:Lat wr,u.v.cell? ⟨c,d+k*5+1,none⟩=some (Vi a9):=fun u=>u.cell (f 1 _ rfl);have p2:∀u:Lat wr,u.v.cell? ⟨c,d+k*5+2,none⟩=some (Vi a8):=fun u=>u.cell (f 2 _ rfl);have p3:∀u:Lat wr,u.v.cell? ⟨c,d+k*5+3,none⟩=some (Vi kd):=fun u=>u.cell (f 3 _ rfl);have p4:∀u:Lat wr,u.v.cell? ⟨c,d+k*5+4,none⟩=some (Vc re im):=fun u=>u.cell (f 4 _ rfl);have q0:∀u:Lat wr,u.v.cell? ⟨c,d+(k+1)*5,none⟩=some (Vi aa):=fun u=>u.cell (v 0 _ rfl);have q1:∀u:Lat wr,u.v.cell? ⟨c,d+(k+1)*5+1,none⟩=some (Vi a2):=fun u=>u.cell (v 1 _ rfl);have q2:∀u:Lat wr,u.v.cell? ⟨c,d+(k+1)*5+2,none⟩=some (Vi a1):=fun u=>u.cell (v 2 _ rfl);have q3:∀u:Lat wr,u.v.cell? ⟨c,d+(k+1)*5+3,none⟩=some (Vi a4):=fun u=>u.cell (v 3 _ rfl);have q4:∀u:Lat wr,u.v.cell? ⟨c,d+(k+1)*5+4,none⟩=some (Vc a5 a3):=fun u=>u.cell (v 4 _ rfl);have hg:decide (((k+1:Nat):Int)>0)=true:=by simp
     have ak:IntKind.i64.wrap (((k+1:Nat):Int)-1)=k:=by rw[IntKind.wrap_i64];omega
     have ai:(k:Int)<n:=by omega
     have aj:((k+1:Nat):Int)<n:=by omega
     clear M f v I T;go_wp2_with fail;refine qz wr (by kernel_rfl) (by kernel_rfl) bRf ?_
     repeat (go_big_quiet_step (first|with_reducible exact Lat.call A.out _))
     refine wpQuiet_nil ?_;rintro _ ⟨⟨w5,s⟩,rfl⟩;go_wp2_with fail;exact⟨⟨k+2,by omega,by push_cast;congr 1,a.trans (s.mono a.size)⟩,by simp[intOf];omega⟩
  ·go_wp2_with fail;rw[qU];go_ret;exact⟨rfl,a⟩
end
section
attribute [local go_sem] Oper.semAt_some
def xJ (m:Mt) (i:Nat):List Int:=if i=0 then [1]else if i=1 then jq m.row.length 1 else if i<2+m.row.length then jq (m.row.getD (i-2) 0) 1 else evB6 (m.2.getD (i-2-m.row.length) ev0)
def Df (l:List Int) (v:Value) (W:World):Prop:=∃b o c,v=Sq (some ⟨b,o,none⟩) l.length c∧zA W .u8 (some ⟨b,o,none⟩) l
structure PartF (m:Mt) (r e:Value) (ob:Nat) (W:World):Prop where
 ho:Holds W ob 129 (outC 1 r e 0 0).toArray
 hm:MtV W r e m
theorem Da {W:World} {j n:Nat} {v:Value} {l:List Int} (h:W.ownsRow j 5 1 v n (l.map (Value.int .u8))) (i:n<=1000) (f:1<=n):Df l v W:=by
 obtain⟨a,c,rfl,g,-,d⟩:=yL h i;subst g;rcases d.2 with e|⟨b,o,rfl,_⟩
 ·subst e;simp at f
 ·exact⟨b,o,c,rfl,d⟩
theorem Gf (e:Ev):(evB6 e).length=20:=by
 simp[evB6,JA,List.range_succ,FE,jq,putN];decide
theorem LT:En0 98:=enters_of func98 rfl rfl
theorem O4 (m:Mt) (hm:outB m) (an e:Value) (ob:Nat):Q4 prog 98 #[Vp ob 0] (fun i vs W=>∃v,vs=#[v]∧Df (xJ m i) v W) (2+2*m.row.length) (PartF m an e ob):=by
 intro am J Jx W hJ ad hF hY S;have aw:=hst1;have HF:=hiD hF;have F:=hiD hJ;have aq:=hiD ad;have K:=hiD hY;obtain⟨L,E⟩:=m;obtain⟨V,h2,h3,h4,h5,T,h7⟩:=hm;simp only at V h2 h3 h4 h5 T h7;have u:=hF 0 W S;obtain⟨ra,rc,rfl,aa⟩:=u.hm.1.form;obtain⟨ea,ec,rfl,ac⟩:=u.hm.2.form;simp only at aa ac;obtain⟨n,o⟩:=xR L.length;have H6:=hiD T;have g:=hiD o;have ae:=hiD (o.symm.trans V);rw[o]at h2 h3 aa;rw[<-V,o]at ac;have a:=u.ho;simp only[outC]at a;rw[o,<-V,o]at a;clear hJ ad hF hY T h7 h4 h5 u o V;obtain⟨M,P,Q,-⟩:=a.g3;have s:=a.size;refine callsIn_of_wp func98 rfl trivial ?_ rfl;simp only[ntmps98,jW,jF,jO,Nat.reduceAdd,Nat.reduceSub,jR,jQ,jX,jU,jD,jE];have a6:=(Below.refl W.1.size W).alloc nLe (Oc #[Vu 1] 5);have a5:=(F.out 0).on S a6;obtain⟨fn,ay,ar,au,N,w⟩:=K.out 0 #[Vs W.1.size 0 1 1] _ (by rw[g.out];omega) a5 ⟨_,rfl,Da (l:=[1]) (World.ownsRow_lit (base:=0) W #[Vu 1] 1 (jg _) (by decide) rfl) (by decide) (by decide)⟩;have t:=hiD (fun i X (h:J i X)=>(⟨by have:=(HF.out i X h).ho;simp only[outC]at this;rw[g.out,<-ae.out]at this;exact this,(HF.out i X h).hm⟩:Holds X ob 129 #[Vu 1,Sq ra n rc,Sq ea n ec,Vi 0,Vu 0]∧MtV X (Sq ra L.length rc) (Sq ea E.length ec) ⟨L,E⟩));clear a;gi_wp2;refine⟨rfl,w.mono ?_⟩;rintro e W1 (⟨rfl,h⟩|⟨rfl,d⟩);case inr=>
  gi_wp2;refine bodyPost_ret (results_none rfl _ _ _) rfl ?_;exact⟨⟨_,rfl⟩,.inr ⟨0,by rw[g.out];omega,d⟩⟩
 clear w N M P Q s a5 a6 S;obtain⟨a,-⟩:=t.out 1 W1 h;have M:=a.cell 0;simp at M;gi_wp2;refine⟨trivial,rfl,(callsIn_wide.2 (LA n 1 (by decide) (by decide) W1)).mono ?_⟩;rintro x W2 ⟨v,rfl,l,A⟩;have B:=(F.out 1).on h A;obtain⟨va,vc,rfl⟩:=qh l;obtain⟨ab,ah,b,ag,N,w⟩:=K.out 1 #[Sq va (putN 1) vc] _ (by rw[g.out];omega) B ⟨_,rfl,by unfold xJ;rw[if_neg (by decide),if_pos rfl,g.out];exact Da l (by decide) (by decide)⟩;gi_wp2;refine⟨rfl,w.mono ?_⟩;rintro e O (⟨rfl,h⟩|⟨rfl,d⟩);case inr=>
  gi_wp2;refine bodyPost_ret (results_none rfl _ _ _) rfl ?_;exact⟨⟨_,rfl⟩,.inr ⟨1,by rw[g.out];omega,d⟩⟩
 clear w N M B A l a;obtain⟨a,-⟩:=t.out 2 O h;obtain⟨-,P,-,s⟩:=a.g2;gi_wp2;clear P s;gi_loopw [44] (fun p wr=>∃k:Nat,k<=n∧p=Vi k∧J (2+k) wr) (fun p wr=>n-(intOf p).toNat);case atStart=>exact⟨0,by omega,rfl,h⟩
 case round=>
  obtain⟨k,hk,rfl,h⟩:=hrel;obtain⟨a,c⟩:=t.out _ wr h;by_cases j:k<n
  ·have f:k<L.length:=by rw[g.out];exact j
   obtain⟨rb,ro,ax,R,-,y⟩:=c.1.1.get (jB f);cases R;have U:=y 0 _ rfl;rw[Nat.mul_one,Nat.add_zero]at U;obtain⟨x,C⟩:=xR (L[k]);rw[C]at U;have r:xJ ⟨L,E⟩ (2+k)=jq x 1:=by
    unfold xJ;simp only;rw[if_neg (by omega),if_neg (by omega),if_pos (by omega),show 2+k-2=k by omega,<-C];simp[List.getD,f]
   have I:=hiD r;clear r C y a c;gi_wp2;refine⟨trivial,rfl,(callsIn_wide.2 (LA x 1 (by decide) (by decide) wr)).mono ?_⟩;rintro ai W2 ⟨v,rfl,l,A⟩;have B:=(F.out (2+k)).on h A;obtain⟨va,vc,rfl⟩:=qh l;obtain⟨ab,ah,b,ag,N,w⟩:=K.out (2+k) #[Sq va (putN 1) vc] _ (by rw[g.out];omega) B ⟨_,rfl,by rw[I.out];exact Da l (by decide) (by decide)⟩;gi_wp2;refine⟨rfl,w.mono ?_⟩;rintro e O (⟨rfl,h⟩|⟨rfl,d⟩)
   ·gi_wp2;go_roundw;case rel=>exact⟨k+1,j,by push_cast;rfl,h⟩
    case measure=>simp[intOf];omega
   ·gi_wp2;refine bodyPost_ret (results_none rfl _ _ _) rfl ?_;exact⟨⟨_,rfl⟩,.inr ⟨2+k,by rw[g.out];omega,d⟩⟩
  ·obtain rfl:k=n:=by omega
   obtain⟨-,-,Q,-,s⟩:=a.g3;clear c a;gi_wp2;clear Q s;gi_loopw [58] (fun p wr=>∃q:Nat,q<=k∧p=Vi q∧J (2+k+q) wr) (fun p wr=>k-(intOf p).toNat);case atStart=>exact⟨0,by omega,rfl,h⟩
   case round=>
    obtain⟨q,hq,rfl,h⟩:=hrel;obtain⟨a,c⟩:=t.out _ wr h;by_cases j:q<k
    ·have f:q<E.length:=by rw[<-ae.out];exact j
     obtain⟨eb,eo,av,R,-,y⟩:=c.2.1.get (jB f);cases R;have hE:=H6.out _ (dI f);have z:=hiD (fun W=>R5 E[q] W);have H:=hiD (fun W=>TM E[q] hE W);have r:xJ ⟨L,E⟩ (2+k+q)=evB6 E[q]:=by
      unfold xJ;simp only;rw[g.out,if_neg (by omega),if_neg (by omega),if_neg (by omega),show 2+k+q-2-k=q by omega];simp[List.getD,f]
     have I:=hiD r;clear r hE;generalize E[q]=x at*;have D:=Gf x;obtain⟨BB,af⟩:=xR (evB6 x);rw[af]at D I H;obtain⟨RR,a0⟩:=xR (rcA (rcOf x));rw[a0]at z H;have aj:=hiD D;obtain⟨ts,a4,a3,kd,re,Z⟩:=x;clear af a0 D;have U:=y 0 _ rfl;have q1:=y 1 _ rfl;have q2:=y 2 _ rfl;have q3:=y 3 _ rfl;have q4:=y 4 _ rfl;rw[Nat.add_zero]at U;simp only[evA,evV]at z;have a9:=(Below.refl wr.1.size wr).alloc nLe (Oc #[Vi ts,Vi a4,Vi a3,Vi kd,Vc re Z] 36);have zx:=Holds.fresh wr 36 #[Vi ts,Vi a4,Vi a3,Vi kd,Vc re Z];have a1:=(F.out _).on h a9;clear y c a;gi_wp2;generalize wr.alloc (Oc #[Vi ts,Vi a4,Vi a3,Vi kd,Vc re Z] 36)=W4 at*;refine⟨trivial,rfl,(callsIn_wide.2 (z.out W4)).mono ?_⟩;rintro ai W5 ⟨rfl,a7⟩;have a2:=(F.out _).on a1 a7;gi_wp2;refine⟨trivial,rfl,(callsIn_wide.2 (H.out W5)).mono ?_⟩;rintro ai W6 ⟨v,nn,rfl,l,a8⟩;have ak:=(F.out _).on a2 a8;obtain⟨ao,ap,rfl⟩:=qh l;have al:nn=20:=by have:=l.1;rw[List.length_map,aj.out]at this;omega
     subst al;obtain⟨ab,ah,b,ag,N,w⟩:=K.out (2+k+q) #[Sq ao 20 ap] _ (by rw[g.out];omega) ak ⟨_,rfl,by rw[I.out];exact Da l (by decide) (by decide)⟩;clear a1 a2 h a9 a7 a8 zx U q1 q2 q3 q4 z H;gi_wp2;refine⟨rfl,w.mono ?_⟩;rintro e O (⟨rfl,h⟩|⟨rfl,d⟩)
     ·gi_wp2;go_roundw;case rel=>exact⟨q+1,j,by push_cast;rfl,h⟩
      case measure=>simp[intOf];omega
     ·gi_wp2;refine bodyPost_ret (results_none rfl _ _ _) rfl ?_;exact⟨⟨_,rfl⟩,.inr ⟨2+k+q,by rw[g.out];omega,d⟩⟩
    ·obtain rfl:q=k:=by omega
     clear c a;gi_wp2;refine⟨rfl,_,results_none rfl _ _ _,⟨_,rfl⟩,.inl ?_⟩;rw[show 2+2*L.length=2+q+q by rw[g.out];omega];exact h
theorem Sl (r e:Value) (l:∃a n c,r=Sq a n c) (k:∃a n c,e=Sq a n c) (w:World):Cs 54 #[.agg (outC 1 r e 0 0).toArray] w fun x w'=>x=Rt (.func (.func 98) #[] #[Vp w.1.size 0])∧Holds w' w.1.size 129 (outC 1 r e 0 0).toArray∧Bz w w':=by
 have b:=hmf1;obtain⟨d,h,i,rfl⟩:=l;obtain⟨g,j,f,rfl⟩:=k;simp only[outC];go_enter func54,ntmps54;go_wp2_with fail;go_ret;exact⟨rfl,Holds.fresh _ _ _,bB⟩
theorem Df.stable {B:Nat} (l:List Int) (v:Value):qe B (Df l v):=by
 rintro W g p ⟨b,o,c,rfl,f,a⟩ j m;refine⟨b,o,c,rfl,f,?_⟩;rcases a with a|⟨d,n,e,h⟩
 ·exact .inl a
 ·exact .inr ⟨d,n,e,fun i k=>qe.cell _ _ W g p (h i k) j m⟩
theorem Dw (m:Mt) (j:Nat):(xJ m j).length<=20:=by
 have a:∀n,(jq n 1).length=1:=fun n=>by simp[jq];decide
 unfold xJ;split
 ·simp
 ·split
  ·rw[a];decide
  ·split
   ·rw[a];decide
   ·rw[Gf];exact Nat.le_refl _
theorem flat_le (m:Mt) (j:Nat):((List.range j).flatMap (xJ m)).length<=20*j:=by
 induction j with
 |zero=>simp
 |succ j ih=>
   rw[List.range_succ,dH,jZ];have:=Dw m j;rw[show (List.flatMap (xJ m) [j])=xJ m j by simp];omega
def Du (m:Mt):List Int:=(List.range (2+2*m.row.length)).flatMap (xJ m)
def OutI (w:World) (m:Mt) (d:Option Addr) (e:Nat) (a:Option Addr) (c g j:Nat) (X:World):Prop:=
 ∃v f,Holds X w.1.size 33 #[v]∧X.ownsRow w.1.size 5 1 v f (((List.range j).flatMap (xJ m)).map (Value.int .u8))∧Holds X g 129 (outC 1 (Sq d m.row.length e) (Sq a m.2.length c) 0 0).toArray∧MtV X (Sq d m.row.length e) (Sq a m.2.length c) m∧Bz w X
theorem out_Put (m:Mt) (r:outB m) (a8 a2:Value) (b o c:Nat) (w:World) (e:∀a6 a9,(outC 1 a8 a2 0 0)[a6]?=some a9->w.cell? ⟨b,o+a6,none⟩=some a9) (u:MtV w a8 a2 m):
  Cs 31 #[.slice (some ⟨b,o,none⟩) 1 c] w fun x w'=>∃v a7,x= .returned (.tuple #[v,Vi 0])∧w'.ownsRow w.1.size 5 1 v a7 ((Du m).map (Value.int .u8))∧Bz w w':=by
 obtain⟨i0,b4,b7,b8,b9⟩:=iP5;have I:=hiD (fun W (l:Bz w W)=>Sm m r a8 a2 W (u.later l));obtain⟨B,A,rfl,bi⟩:=u.1.form;obtain⟨z,D,rfl,bd⟩:=u.2.form;have U:=hiD (fun W=>Sl (.slice B m.row.length A) (.slice z m.2.length D) ⟨_,_,_,rfl⟩ ⟨_,_,_,rfl⟩ W);have q0:=e 0 _ rfl;have q1:=e 1 _ rfl;have q2:=e 2 _ rfl;have q3:=e 3 _ rfl;have q4:=e 4 _ rfl;rw[Nat.add_zero]at q0;simp only[outC]at I U;refine qH func31 rfl ?_;simp only[ntmps31,jW,jF,jO,Nat.reduceAdd,Nat.reduceSub,jR,jQ,jX,jU,jD,jE];go_wp2_with fail;have k:=bA w (.cells #[.slice none 0 0] 33);have zr:=Holds.fresh w 33 #[.slice none 0 0];have p0:=qd k nLe q0;have p1:=qd k nLe q1;have p2:=qd k nLe q2;have p3:=qd k nLe q3;have p4:=qd k nLe q4;have b6:=u.later k;generalize w.alloc (.cells #[.slice none 0 0] 33)=W0 at*;clear q0 q1 q2 q3 q4 e;have HM:=hiD r;have be:m.row.length<=4:=r.2.2.1;clear r;refine wp_loop (fun a wr=>(a={tmps:=#[Vs b o 1 c,undef,.slice none 0 0,Vi 0,Vp w.1.size 0,undef,undef,undef,Vs b o 1 c,Vi 1,Vi 0,undef,undef,undef,undef,undef,undef,undef,undef,undef,undef,undef,undef,undef,undef],defers:=[]}∧wr=W0)∨∃(K:Nat) (v:Value) (d:Nat) (u5 u6 u7 u11 u12 u13 u14 u15 u16 u17 u18 u19 u20 u21 u22 u23 ap:Value),w.1.size<K∧wr.1[K]?=some (.deferred (some []))∧a={tmps:=#[Vs b o 1 c,undef,.slice none 0 0,Vi 0,Vp w.1.size 0,u5,u6,u7,Vs b o 1 c,Vi 1,Vi 1,u11,u12,u13,u14,u15,u16,u17,u18,u19,u20,u21,u22,u23,ap],defers:=[mark K]}∧Holds wr w.1.size 33 #[v]∧wr.ownsRow w.1.size 5 1 v d ((Du m).map (Value.int .u8))∧Bz w wr)
  (fun a _=>1-(intOf (a.tmps.getD 10 undef)).toNat) (.inl ⟨rfl,rfl⟩) ?_
 rintro a wr (⟨rfl,rfl⟩|⟨K,v,d,u5,u6,u7,u11,u12,u13,u14,u15,u16,u17,u18,u19,u20,u21,u22,u23,ap,i,a4,rfl,b2,ac,b1⟩)
 ·have s:=k.alloc k.size (.cells #[Vu 1,.slice B m.row.length A,.slice z m.2.length D,Vi 0,Vu 0] 129);have n:=Holds.fresh wr 129 #[Vu 1,.slice B m.row.length A,.slice z m.2.length D,Vi 0,Vu 0];have C:=zr.alloc (.cells #[Vu 1,.slice B m.row.length A,.slice z m.2.length D,Vi 0,Vu 0] 129);go_wp2_with fail;have f:=b6.later ((Below.refl wr.1.size wr).alloc nLe (.cells #[Vu 1,.slice B m.row.length A,.slice z m.2.length D,Vi 0,Vu 0] 129));have b5:=k.size;generalize bg:wr.1.size=ob at*;generalize wr.alloc (.cells #[Vu 1,.slice B m.row.length A,.slice z m.2.length D,Vi 0,Vu 0] 129)=w1 at*;refine(I.out _ s).mono ?_;rintro x w2 ⟨rfl,t⟩;replace n:=n.later t;replace C:=C.later t;replace f:=f.later t;replace s:=s.trans (t.mono s.size);obtain⟨c0,c1,c2,c3,c4,-⟩:=n.g5;go_wp2_with fail;refine(U.out w2).mono ?_;rintro x w3 ⟨rfl,zp,P⟩;replace C:=C.later P;replace f:=f.later P;replace s:=s.trans (P.mono s.size);have bh:w.1.size<w2.1.size:=by have:=zr.size;have:=t.size;have:=n.size;omega
  generalize w2.1.size=H at*;clear c0 c1 c2 c3 c4 n t P I U b5;have ar:=hiD (O4 m HM.out (.slice B m.row.length A) (.slice z m.2.length D) H);have bk:=C.size;go_wp2_with fail;refine kF rfl LT ar.out (by rintro a6 vs X ⟨v,rfl,_⟩;rfl)
   (OutI w m B A z D H)
   (fun _ _ _=>False) ?_ (fun _ _=>qe.pure _) ?_ ⟨_,0,C,js _ _ _ _,zp,f,s⟩
   (fun j a' X=>∃v,Df (xJ m j) v X∧a'={tmps:=#[Vs b o 1 c,undef,.slice none 0 0,Vi 0,Vp w.1.size 0,undef,Vp ob 0,v,Vs b o 1 c,Vi 1,Vi 0,.bool true,Vp b o,.agg #[Vu 1,.slice B m.row.length A,.slice z m.2.length D,Vi 0,Vu 0],.agg #[Vu 1,.slice B m.row.length A,.slice z m.2.length D,Vi 0,Vu 0],.bool true,.bool false,.agg #[Vu 1,.slice B m.row.length A,.slice z m.2.length D,Vi 0,Vu 0],.func (.func 98) #[] #[Vp H 0],v,undef,undef,undef,undef,undef],defers:=[]}) ?_ ?_ ?_ ?_ (fun _ _ _ _ _ _ a3 _=>a3.elim)
  ·intro j;exact qe.ex fun v=>qe.ex fun d=>(qi _ _ _).and ((qe.own _ _ _ _ _ _).and ((qi _ _ _).and (((MtV.kept _ _ _).stable _).and (qe.below s.size nLe))))
  ·rintro j X ⟨v,d,N,J,T,Z,V⟩;exact⟨T,Z⟩
  ·intro j a';exact qe.ex fun v=>(Df.stable _ _).and (qe.pure _)
  ·rintro ba j vs X K q ⟨v,d,N,J,T,Z,V⟩ ⟨pv,rfl,M⟩ i;have ag:=fun a ha=>i a X (KeepsFrom.refl _ _) ⟨v,d,N,J,T,Z,V⟩ ⟨pv,M,ha⟩;have au:=hiD ag;obtain⟨bl,bn,bm,rfl,_⟩:=M;clear ag i N J T Z V;gi_wp2;exact au.out _ rfl
  ·rintro ba j a' X hl q ⟨v,d,N,J,T,Z,V⟩ ⟨pv,M,rfl⟩;have bf:d<=200:=by
    have e1:=J.1;have e2:=flat_le m j;rw[List.length_map]at e1;omega
   have al:=Dw m j;have ak:(((List.range (j+1)).flatMap (xJ m)).map (Value.int .u8))=(((List.range j).flatMap (xJ m)).map (Value.int .u8))++(xJ m j).map (Value.int .u8):=by
    rw[List.range_succ,dH,dC];simp
   have aa:=hiD ak;clear ak;obtain⟨bb,bo,bc,rfl,a5⟩:=M;obtain⟨PL,ah⟩:=xR (xJ m j);rw[ah]at a5 al aa⊢;obtain⟨E,a0⟩:=xR PL.length;have aj:(PL.map (Value.int .u8)).length=E*1:=by simp[a0]
   rw[a0]at al⊢;have ax:=hiD a5.news;have aw:=hiD aj;have h:=hiD J;have ab:=V.size;have a1:=hiD N;have c0:=N.cell 0;simp at c0;have bj:=N.size;clear ah a0 aj J a5;gi_wp2_with (gi_at_builtin;refine wpListIn_append_own_at _ rfl (.tmp 20) (.tmp 21) 33 rfl w.1.size 5 i0 (Vu 0) 1 1 underlying33 b4 b7 b8 b9 rfl (by decide) v d _ rfl h.out (Ad bb bo) E bc (PL.map (Value.int .u8)) rfl aw.out ax.out ?c1 ?c2 ?c3 ab ?_);case c1=>intro a9 hu;obtain⟨x,_,rfl⟩:=List.mem_map.1 hu;rfl
   case c2=>unfold maxLen;omega
   case c3=>omega
   intro v2 Q y g _ az;obtain⟨O,S,rfl⟩:=qh y;have b0:some w.1.size≠v.ownBlock:=Boxed.not_row a1.out (by decide) h.out;have f:Boxed Q w.1.size 33 v:=Holds.grown a1.out g b0;have kv:=f.cell;have kf:=f.frozen;have kz:=Holds.size f;have L:qg (BoxD w.1.size v) X (Q.setCell (Ad w.1.size 0) (.slice O (d+E) S)):=(qg.row g (fun b l=>.inr l)).trans (qg.set (.inl rfl) _ _);have R:∀F,F≠33->F≠5->∀b,BoxD w.1.size v b->∀cs ao,X.1[b]?≠some (.cells cs F ao):=fun F f1 f2=>BoxD.apart a1.out h.out f1 f2;have ae:=T.keepsN L (fun a3=>R 129 (by decide) (by decide) _ a3 _ _ T);have af:MtV (Q.setCell (Ad w.1.size 0) (.slice O (d+E) S)) (.slice B m.row.length A) (.slice z m.2.length D) m:=⟨Z.1.keptT L (R 3 (by decide) (by decide)),Z.2.keptT L (R 36 (by decide) (by decide))⟩;have an:Holds (Q.setCell (Ad w.1.size 0) (.slice O (d+E) S)) w.1.size 33 #[.slice O (d+E) S]:=Holds.set f 0 _;have am:=y.kept (grownBy_setCell' Q w.1.size (.slice O (d+E) S)) (.inr (f.not_row (by decide) y).symm);have t:=((Below.refl w.1.size X).grown g ab (fun b l=>qE h.out b l)).setCell (p:=Ad w.1.size 0) nLe (.slice O (d+E) S);have ai:KeepsOthers X (Q.setCell (Ad w.1.size 0) (.slice O (d+E) S)):=(KeepsOthers.of_grownBy g fun j o ej q=>by
    obtain⟨cs,ao,hh⟩:=qP h.out ej;rw[hh]at q;cases q;rfl).trans (KeepsOthers.setCell Q (Ad w.1.size 0) _)
   have aq:=hiD (⟨ai.from _,_,d+E,an,by rw[aa.out];exact am,ae,af,V.trans t⟩:KeepsFrom w3.1.size X (Q.setCell (Ad w.1.size 0) (.slice O (d+E) S))∧OutI w m B A z D H (j+1) (Q.setCell (Ad w.1.size 0) (.slice O (d+E) S)));clear L R ae af an am t ai y g az;gi_wp2;exact aq.out
  ·rintro K X i ⟨v,d,N,J,T,Z,V⟩ ay;have h:=hiD J;clear J;show Exit.inBlock _ _ _ _ _;go_wp2_with fail;exact⟨.inr ⟨K,v,d,_,_,_,_,_,_,_,_,_,_,_,_,_,_,_,_,_,by omega,ay,rfl,N,h.out,V⟩,by simp[intOf]⟩
 ·obtain⟨av,ad,rfl⟩:=qh ac;have e:=b2.cell 0;simp at e;go_wp2_with fail;have b3:∃v a7,Ending.returned (.tuple #[.slice av d ad,Vi 0])=Ending.returned (.tuple #[v,Vi 0])∧(wr.putObj K (.deferred none)).ownsRow w.1.size 5 1 v a7 ((Du m).map (Value.int .u8))∧Bz w (wr.putObj K (.deferred none)):=⟨_,d,rfl,ownsRow_putObj ac _ a4 rfl,qB b1 a4 (Nat.le_of_lt i)⟩;exact qZ (v:= .tuple #[.slice av d ad,Vi 0]) a4 (by simp[results,results31,go_sem]) b3
end
end Go.Proofs.YtnmpcdnbklmhkaaGreatDoor
