import Derived.Test.YtnmpcdnbklmhkaaGreatDoorQAw
namespace Go.Proofs.YtnmpcdnbklmhkaaGreatDoor
open Go.Proofs.Tryz Go.RowKit
set_option maxRecDepth 100000
set_option linter.all false
set_option maxHeartbeats 8000000
section
attribute [local go_sem] Oper.semAt_some
attribute [local go_sem ↓] Go.wp_at_zero Go.wp_at_succ
theorem Cw {w:World} {v:Value} {l:List Mt} (h:qv 2 127 mtR w v l) {k:Nat} (u:k<l.length):∃b n c x f j i g,v=Sq (some ⟨b,n,none⟩) l.length c∧l[k]?=some x∧MtV w (Sq f x.row.length j) (Sq i x.2.length g) x∧
  w.cell? ⟨b,n+k*2,none⟩=some (Sq f x.row.length j)∧w.cell? ⟨b,n+k*2+1,none⟩=some (Sq i x.2.length g):=by
 have m:l[k]?=some l[k]:=jB u;obtain⟨q,n,c,y,p,s,o,t,a⟩:=h.get m;obtain⟨r,e,rfl,d⟩:=t;obtain⟨f,j,rfl,_⟩:=d.1.form;obtain⟨i,g,rfl,_⟩:=d.2.form;exact⟨q,n,c,_,f,j,i,g,p,m,d,a 0 _ rfl,a 1 _ rfl⟩
theorem eqf_mt (s:List Mt) (U:s=[]∨s=[lM]) (v u:Value) (w:World) (T:qv 2 127 mtR w v s) (n:qv 2 127 mtR w u s):
  Cs 225 #[v,u,.func (.func 226) #[] #[]] w (Rw w (Vb true)):=by
 rcases U with rfl|rfl
 ·obtain⟨a,W,rfl,z⟩:=T.form;obtain⟨b,A,rfl,l⟩:=n.form;simp only[jO]at*;clear T n;go_enter func225,ntmps225;go_wp2_with fail;refine wp_loop_rounds 1 ?_;rw[rounds_succ];go_wp2_with fail;go_ret;exact⟨rfl,Below.refl _ _⟩
 ·obtain⟨O,R,M,x,C,H,D,K,I,E,g,N,Q⟩:=Cw T (k:=0) (by decide);obtain⟨S,P,V,y,o,h,q,p,B,F,f,r,t⟩:=Cw n (k:=0) (by decide);cases E;cases F;subst I B;have d:=bA w (Oc #[Sq C lM.row.length H,Sq D lM.2.length K] 127);have c:=d.alloc d.size (Oc #[Sq o lM.row.length h,Sq q lM.2.length p] 127);have J:=hiD (Po lM rfl _ _ _ _ _ ⟨g.1.later c,g.2.later c⟩ ⟨f.1.later c,f.2.later c⟩);replace r:=qd d nLe r;replace t:=qd d nLe t;simp only[Nat.zero_mul,Nat.add_zero,jF,jO]at*;clear T n g f;generalize lM.row.length=i at*;generalize lM.2.length=j at*;go_enter func225,ntmps225;go_wp2_with fail;refine wp_loop_rounds 2 ?_;rw[rounds_succ];go_wp2_with fail;refine J.out.mono ?_;rintro e L ⟨rfl,m⟩;go_wp2_with fail;rw[rounds_succ];go_wp2_with fail;go_ret;exact⟨rfl,c.trans (m.mono c.size)⟩
theorem Nm (s:List Mt) (k:s=[]∨s=[lM]) (v u:Value) (w:World) (j:qv 2 127 mtR w v s) (i:qv 2 127 mtR w u s):
  Cs 194 #[v,u] w (Rw w (Vb true)):=by
 have C:=hiD (eqf_mt s k v u w j i);obtain⟨a,l,rfl,d⟩:=j.form;obtain⟨b,e,rfl,c⟩:=i.form;clear j i;go_enter func194,ntmps194;go_wp2_with fail;refine C.out.mono ?_;rintro r g ⟨rfl,f⟩;go_wp2_with fail;go_ret;exact⟨rfl,f⟩
theorem Nb (a:Option Addr) (n c:Nat) (w:World):Cs 386 #[Sq a n c] w fun e w'=>e=Rt (.func (.func 392) #[] #[Vp w.1.size 0])∧w'=w.alloc (Oc #[Sq a n c] 112):=by
 have b:=hmf1;go_enter func386,ntmps386;go_wp2_with fail;go_ret;exact⟨rfl,rfl⟩
theorem Jl:En0 392:=enters_of func392 rfl rfl
theorem Na (B:Nat) (v:Value) (s:List Ev):Iter prog 392 #[Vp B 0] (fun i=>#[evA (s.getD i ev0),evA (s.getD (i+1) ev0)]) (s.length-1)
  (fun W=>Holds W B 112 #[v]∧RowV 5 evV W v s):=by
 intro a4 J z W r P hF H t;have L:=hiD hF;have n:=hiD r;have S:=(hF 0 W t).2.small;obtain⟨a,l,rfl,C⟩:=(hF 0 W t).2.form;clear hF;have d:∀k,k<s.length->s[k]?=some (s.getD k ev0):=fun k I=>by simp[List.getD,I]
 refine callsIn_of_wp func392 rfl trivial ?_ rfl;simp only[ntmps392,jW,jF,jO,Nat.reduceAdd,Nat.reduceSub,jR,jQ,jX,jU,jD,jE];gi_wp2;gi_loopw [3] (fun p wr=>∃i:Nat,i<=s.length-1∧p=Vi ((i:Int)+1)∧J i wr) (fun p wr=>s.length-(intOf p).toNat);case atStart=>exact⟨0,by omega,rfl,t⟩
 case round=>
  obtain⟨i,hi,rfl,c⟩:=hrel;have g:=(L.out i wr c);have hc:Cq wr B 0 (Sq a s.length l):=g.1.cell 0;by_cases w:i+1<s.length
  ·obtain⟨fn,a8,a1,a2,u,N⟩:=H i wr.drew (by omega) ((r i).on c bRf.drew);obtain⟨b,a5,a3,ts,a7,a6,kd,re,im,e,_,y,p0,p1,p2,p3,a0⟩:=yq g.2 (show i<s.length by omega);obtain⟨b',A,c',V,F,a9,Q,R,M,U,_,f,q0,q1,q2,X,q4⟩:=yq g.2 w;rw[d i (by omega)]at y;rw[d (i+1) (by omega)]at f;rw[Option.some.inj y,Option.some.inj f]at u;simp only[evA,evV]at u;cases e;cases U;clear y f g;have j:Hid (i<s.length-1):=hiD (by omega);have E:i<s.length:=by omega
   have K:0<=(i:Int)+1:=by omega
   have D:(i:Int)+1<(s.length:Int):=by omega
   have O:decide ((i:Int)+1<(s.length:Int))=true:=by simp;omega
   have T:IntKind.i64.wrap (i:Int)=(i:Int):=by rw[IntKind.wrap_i64];omega
   gi_wp2;refine BH 15 (by kernel_rfl) (by kernel_rfl) ?_;simp only[jm,dF,dE,ju]
   repeat still_step
   refine wpStill_nil ?_;change (Instr.yield _ _).run _ wr.drew=_ at u;gi_wp2;refine⟨rfl,N.mono ?_⟩;rintro e Z (⟨rfl,o⟩|⟨rfl,m⟩)
   ·gi_wp2;go_roundw;case rel=>exact⟨i+1,j.out,by simp,o⟩
    case measure=>simp[intOf];omega
   ·gi_wp2;go_end0;exact⟨⟨_,rfl⟩,.inr ⟨i,j.out,m⟩⟩
  ·have h:=fun q=>(r i).on c (qp wr.1.size wr q);have j:Hid (i=s.length-1):=hiD (by omega);have O:decide ((i:Int)+1<(s.length:Int))=false:=by simp;omega
   have x:=hiD h;clear h g;gi_wp2;refine wpIn_wide.2 ?_;go_quiet (fail);gi_wp2;go_end0;have e:=j.out;subst e;exact⟨⟨_,rfl⟩,.inl (x.out _)⟩
theorem LG (r g:List Int) (j i o:Value) (m:Nat) (w:World) (l:RowV 1 intV w j r) (k:RowV 1 intV w i g) (n:Holds w m 127 #[i,o]):
  Cs 384 #[j,Vp m 0] w (Rw w (Vb (decide (r=g)))):=by
 have C:=hiD (D3 r g j i w l k);obtain⟨f,e,rfl,_⟩:=l.form;obtain⟨p,q,rfl,_⟩:=k.form;have c:=n.cell 0;simp at c;generalize decide (r=g)=b at*;go_enter func384,ntmps384;go_wp2_with fail;refine C.out.mono ?_;rintro x d ⟨rfl,a⟩;go_wp2_with fail;go_ret;exact⟨rfl,a⟩
theorem Uc {w:World} {v:Value} {l:List (List Int)} (h:qv 1 125 rowR w v l) {k:Nat} (q:k<l.length):∃b n c x d e,v=Sq (some ⟨b,n,none⟩) l.length c∧l[k]?=some x∧RowT 1 3 intV w (Sq d x.length e) x∧w.cell? ⟨b,n+k,none⟩=some (Sq d x.length e):=by
 have f:l[k]?=some l[k]:=jB q;obtain⟨i,n,c,r,o,j,m,⟨u,rfl,p⟩,a⟩:=h.get f;obtain⟨d,e,rfl,_⟩:=p.form;have g:=a 0 _ rfl;rw[Nat.add_zero,Nat.mul_one]at g;exact⟨i,n,c,_,d,e,o,f,p,g⟩
theorem UK (n:List Int) (v o u:Value) (m:Nat) (w:World) (t:qv 1 125 rowR w v [n]) (s:RowT 1 3 intV w o n) (p:Holds w m 127 #[o,u]):
  Cs 385 #[v,.func (.func 384) #[] #[Vp m 0]] w (Rw w (Vb true)):=by
 obtain⟨h,y,c,x,j,l,rfl,i,b,f⟩:=Uc t (k:=0) (by simp);cases i;have e:=LG n n _ o u m w b.1 s.1 p;rw[decide_eq_true rfl]at e;have e:=hiD e;rw[Nat.add_zero]at f;clear t s p b;have d:Cs 391 #[Vs h y 1 c,.func (.func 384) #[] #[Vp m 0]] w (Rw w (Vi 0)):=by
  go_enter func391,ntmps391;go_wp2_with fail;go_loopw [8] (fun q wr=>q=Vi 0∧wr=w) (fun _ _=>0);case atStart=>exact⟨rfl,rfl⟩
  case round=>
   obtain⟨rfl,rfl⟩:=hrel;go_wp2_with fail;refine e.out.mono ?_;rintro r g ⟨rfl,a⟩;go_wp2_with fail;go_ret;exact⟨rfl,a⟩
 have C:=hiD d;clear d e f;go_enter func385,ntmps385;go_wp2_with fail;refine C.out.mono ?_;rintro r g ⟨rfl,a⟩;go_wp2_with fail;go_ret;exact⟨rfl,a⟩
theorem Nd (p:Pt) (hp:PtOk p) (m:Mt) (v r ab:Value) (w:World) (hv:PatV w v p) (L:MtSm p m) (K:MtV w r ab m):
  Cs 375 #[v,.agg #[r,ab]] w fun x w'=>x=Rt (Vb true)∧Bz w w':=by
 have b2:=hmf1;obtain⟨b7,rfl,f⟩:=hv;obtain⟨t,o,rfl,b0,b4⟩:=f.form;obtain⟨l,q,rfl,_⟩:=K.1.form;obtain⟨c,e,rfl,b1⟩:=K.2.form;have u:m.2.length=m.row.length:=by rw[L];rfl
 have ag:zN p=[m.row]:=by rw[L];rfl
 have ad:∀j,j<m.2.length-1->lessE (m.2.getD j ev0) (m.2.getD (j+1) ev0)=true:=by
  rw[L];intro j hj;obtain rfl:j=0:=by have:lM.2.length=2:=rfl;omega
  decide
 have z:=(bA w (Oc #[Sq t p.1.length o,Vi p.2] 25)).alloc (by simp) (Oc #[Sq l m.row.length q,Sq c m.2.length e] 127);have zp:=(Holds.fresh w 25 #[Sq t p.1.length o,Vi p.2]).alloc (Oc #[Sq l m.row.length q,Sq c m.2.length e] 127);have zm:=Holds.fresh' (w:=w.alloc (Oc #[Sq t p.1.length o,Vi p.2] 25)) (b:=w.1.size+1) (by simp) 127 #[Sq l m.row.length q,Sq c m.2.length e];have U:=hiD (fun g (Q:Bz w g)=>yZ p hp (.agg #[Sq t p.1.length o,Vi p.2]) g ⟨_,rfl,f.mono Q nLe⟩);have k:=hiD (fun g (Q:Bz w g)=>BX p hp (.agg #[Sq t p.1.length o,Vi p.2]) g ⟨_,rfl,f.mono Q nLe⟩);have HM:=hiD K;have ac:=hiD ad;clear f K ad L;refine qH func375 rfl ?_;simp only[ntmps375,jW,jF,jO,Nat.reduceAdd,Nat.reduceSub,jR,jQ,jX,jU,jD,jE];have an:((m.row.length:Int)!=(m.2.length:Int))=false:=by simp[u]
 have aj:(m.row.length !=m.2.length)=false:=by simp[u]
 have Z:=hiD u;clear u;go_wp2_with fail;refine zE 0 rfl ?_;go_wp2_with fail;refine(U.out _ z).mono ?_;rintro x w1 ⟨rfl,E⟩;have I:=z.trans (E.mono z.size);have a5:=zp.later E;have a1:=zm.later E;clear U zp zm;obtain⟨q0,q1,-⟩:=a5.g2;go_wp2_with fail;refine(k.out _ I).mono ?_;rintro x w2 ⟨rv,rfl,a,a9⟩;have F:=I.trans (a9.mono I.size);have B:=a1.later a9;rw[ag]at a;obtain⟨ra,rc,rfl,_⟩:=a.deep.form;have V:=hiD (UK m.row _ _ _ (w.1.size+1) w2 a.deep (HM.out.1.later F) B);clear a a5 a1 k q0 q1 ag;go_wp2_with fail;refine V.out.mono ?_;rintro x J ⟨rfl,a2⟩;have C:=F.trans (a2.mono F.size);have a3:=B.later a2;clear V B;obtain⟨p0,p1,-⟩:=a3.g2;go_wp2_with fail;refine(Nb _ _ _ _).mono ?_;rintro x w4 ⟨rfl,rfl⟩;have T:=Holds.fresh J 112 #[Sq c m.2.length e];have a0:Bz J (J.alloc (Oc #[Sq c m.2.length e] 112)):=bB;have a7:=C.trans (a0.mono C.size);have ae:=HM.out.2.later a7;have b6:=C.size;clear p0 p1 a3;obtain⟨A,a8⟩:=xR J.1.size;rw[a8]at T;generalize aa:J.alloc (Oc #[Sq c m.2.length e] 112)=w4 at*;have b3:w4.1.size=A+1:=by rw[<-aa,<-a8];simp
 clear aa a0;go_wp2_with fail;have ai:=hiD Z.out;obtain⟨s,f⟩:=xR m.2;rw[f]at T ae ac⊢;have ap:=hiD (Na A (Sq c s.length e) s);clear f ai Z an aj;refine Ak rfl Jl ap.out (fun _=>rfl)
  (fun _ W=>Holds W A 112 #[Sq c s.length e]∧RowV 5 evV W (Sq c s.length e) s∧Bz w W)
  (fun _ _ _=>False) ?_ ?_ ?_ ⟨T,ae.1,a7⟩
  (fun i N W=>∃X n,A<X∧A<n∧Holds W X 36 #[Vi (s.getD i ev0).ts,Vi (s.getD i ev0).src,Vi (s.getD i ev0).seq,Vi (s.getD i ev0).kind,Vc (s.getD i ev0).re (s.getD i ev0).im]∧Holds W n 36 #[Vi (s.getD (i+1) ev0).ts,Vi (s.getD (i+1) ev0).src,Vi (s.getD (i+1) ev0).seq,Vi (s.getD (i+1) ev0).kind,Vc (s.getD (i+1) ev0).re (s.getD (i+1) ev0).im]∧
   N={tmps:=#[.agg #[Sq t p.1.length o,Vi p.2],.agg #[Sq l m.row.length q,Sq c s.length e],Vp w.1.size 0,Vp (w.1.size+1) 0,Vb false,.func (.func 384) #[] #[Vp (w.1.size+1) 0],Vp X 0,Vp n 0,.func (.func 384) #[] #[Vp (w.1.size+1) 0],Vp (w.1.size+1) 0,Sq l m.row.length q,Vi m.row.length,Vp (w.1.size+1) 1,Sq c s.length e,Vi s.length,Vb false,Vb false,.agg #[Sq t p.1.length o,Vi p.2],Vb true,Vb false,Vb false,Vb false,.agg #[Sq t p.1.length o,Vi p.2],Sq ra 1 rc,.func (.func 384) #[] #[Vp (w.1.size+1) 0],Vb true,Vb false,Vb false,Vp (w.1.size+1) 1,Sq c s.length e,.func (.func 392) #[] #[Vp A 0],.agg #[Vi (s.getD i ev0).ts,Vi (s.getD i ev0).src,Vi (s.getD i ev0).seq,Vi (s.getD i ev0).kind,Vc (s.getD i ev0).re (s.getD i ev0).im],.agg #[Vi (s.getD (i+1) ev0).ts,Vi (s.getD (i+1) ev0).src,Vi (s.getD (i+1) ev0).seq,Vi (s.getD (i+1) ev0).kind,Vc (s.getD (i+1) ev0).re (s.getD (i+1) ev0).im],undef,undef,undef,undef],defers:=[]}) ?_ ?_ ?_ ?_ ?_
 ·intro i;exact(qi _ _ _).and ((FQ _ _).and (qe.below (by omega) nLe))
 ·intro am i;exact qe.pure _
 ·rintro i W h;exact⟨h.1,h.2.1⟩
 ·intro i N;exact qe.ex fun X=>qe.ex fun n=>(qe.pure _).and ((qe.pure _).and ((qi _ _ _).and ((qi _ _ _).and (qe.pure _))))
 ·intro af i W ay hi H D;have al:A<W.1.size:=H.1.size;have b5:=hst1;have a6:=fun R S=>(⟨(H.1.alloc R).alloc S,(H.2.1.later (bRf.alloc nLe R)).later (bRf.alloc nLe S),(H.2.2.alloc H.2.2.size R).alloc (by have:=H.2.2.size;simp;omega) S⟩:_∧_∧_);have HI:=hiD a6;clear a6 H;simp only[evA,evV];generalize s.getD i ev0=x at*;generalize s.getD (i+1) ev0=y at*;obtain⟨ts,aw,av,kd,re,im⟩:=x;obtain⟨ax,a4,ak,ar,au,aq⟩:=y;gi_wp2;exact D _ _ (((KeepsOthers.alloc W _).trans (KeepsOthers.alloc _ _)).from _) (HI.out _ _) ⟨W.1.size,W.1.size+1,al,by omega,(Holds.fresh _ _ _).alloc _,Holds.fresh' (by simp) _ _,rfl⟩
 ·rintro af i N W u ao ⟨i1,i2,M⟩ ⟨X,n,az,a',O,P,rfl⟩;have k:=fun w=>yN (s.getD i ev0) (s.getD (i+1) ev0) w;rw[ac.out i (by omega)]at k;have k:=hiD k;generalize s.getD i ev0=x at*;generalize s.getD (i+1) ev0=y at*;obtain⟨ts,aw,av,kd,re,im⟩:=x;obtain⟨ax,a4,ak,ar,au,aq⟩:=y;simp only[evA,evV]at k O P;obtain⟨p0,p1,p2,p3,p4,-⟩:=O.g5;obtain⟨q0,q1,q2,q3,q4,-⟩:=P.g5;clear O P;gi_wp2;refine⟨trivial,rfl,(CallsIn.inRound af (callsIn_wide.2 (k.out _))).mono ?_⟩;rintro r W1 ⟨rfl,d⟩;gi_wp2;exact⟨(Kqb d).from _,i1.later d,i2.later d,M.trans (d.mono M.size)⟩
 ·rintro ah W hD ⟨i1,i2,M⟩ D;go_wp2_with fail;rw[qU];exact qZ (v:=Vb true) D (by simp[results,results375,go_sem]) ⟨rfl,qB M D (by omega)⟩
 ·rintro ah am i W hD ao h;exact h.elim
end
end Go.Proofs.YtnmpcdnbklmhkaaGreatDoor
