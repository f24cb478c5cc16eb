import Derived.Test.YtnmpcdnbklmhkaaGreatDoorQAl
import Derived.Deep.DeepCutAuto
import Derived.Maps.Ext
import Derived.Maps.RangeWalk
import Derived.Maps.OwnOps
import Derived.WideKeyEntry
import Derived.Test.YtnmpcdnbklmhkaaGreatDoorQAu
import Derived.Test.YtnmpcdnbklmhkaaGreatDoorQAx
import Derived.ScopeJumps
namespace Go.Proofs.YtnmpcdnbklmhkaaGreatDoor
open Go.Proofs.Tryz Go.RowKit
set_option maxRecDepth 100000
set_option linter.all false
set_option maxHeartbeats 8000000
section
attribute [local go_sem] Oper.semAt_some
theorem RQ.bad {α:Type} {k:List Tok} {a d j e c:Nat} {r:Res α} {w w':World} {f:α->Value} {p:Int} (g:w.grownBy w' (some a)) (i:r= .error p):RQ k a d j e c r w f (qF p) w':=
 ⟨g,by subst i;rfl⟩
theorem RQ.good {α:Type} {d:List Tok} {c f j g e a:Nat} {r:Res α} {w w':World} {i:α->Value} {v:α} (k:w.grownBy w' (some c)) (n:r= .ok (v,d.drop a)) (l:e<=a) (m:Q9 d c f j g a w'):RQ d c f j g e r w i (.returned (i v)) w':=
 ⟨k,by subst n;exact⟨rfl,a,l,rfl,m⟩⟩
theorem Q9.far {j:List Tok} {c a g f d:Nat} {w:World} (h:Q9 j c a g f d w) {b i:Nat} (k:c≠b) (l:a≠b) (v:Value):Q9 j c a g f d (w.setCell ⟨b,i,none⟩ v):=
 h.grown (jh w b i v) (fun e=>k (Option.some.inj e)) (fun e=>l (Option.some.inj e))
structure K9 (w:World) (ts:List Tok) (pb blk off cap:Nat) (rt:TypeId) (rb:Nat) (rc:Array Value) (at0:Nat) (W:World):Prop where
 q:Q9 ts pb blk off cap at0 W
 r:Holds W rb rt rc
 g:w.grownBy W (some pb)
 n1:pb<w.1.size∧blk<w.1.size
 n2:w.1.size<=rb
section
variable {w W W' : World} {ts : List Tok} {pb blk off cap rb at0 at1 : Nat} {rt : TypeId} {rc : Array Value}
theorem K9.move (h:K9 w ts pb blk off cap rt rb rc at0 W) (c:Q9 ts pb blk off cap at1 W') (a:W.grownBy W' (some pb)):K9 w ts pb blk off cap rt rb rc at1 W':=
 ⟨c,h.r.grown a (fun e=>by have:=Option.some.inj e;have:=h.n1;have:=h.n2;omega),h.g.trans a,h.n1,h.n2⟩
theorem K9.setR (h:K9 w ts pb blk off cap rt rb rc at0 W) (i:Nat) (v:Value):K9 w ts pb blk off cap rt rb (rc.setIfInBounds i v) at0 (W.setCell ⟨rb,i,none⟩ v):=
 ⟨h.q.far (by have:=h.n1;have:=h.n2;omega) (by have:=h.n1;have:=h.n2;omega) v,h.r.set i v,Jg h.g h.n2 v,h.n1,h.n2⟩
theorem K9.alloc (h:K9 w ts pb blk off cap rt rb rc at0 W) (o:Obj):K9 w ts pb blk off cap rt rb rc at0 (W.alloc o):=h.move (h.q.alloc o) (World.grownBy_alloc _ _ _)
end
theorem Q9.pb_lt {i:List Tok} {c a f e d:Nat} {w:World} (h:Q9 i c a f e d w):c<w.1.size∧a<w.1.size:=by
 refine⟨h.hold.size,?_⟩;obtain⟨g,_,_⟩:=h.tok (jB h.lt);exact vz g
theorem K9.start {j:List Tok} {f c e d a:Nat} {w:World} (h:Q9 j f c e d a w) (i:TypeId) (g:Array Value):K9 w j f c e d i w.1.size g a (w.alloc (Oc g i)):=
 ⟨h.alloc _,Holds.fresh _ _ _,World.grownBy_alloc _ _ _,h.pb_lt,Nat.le_refl _⟩
theorem Pd {k:Int} (c:(k==5||k==6)=false) (l:List Tok):xq k l=qm (zH 40 l) fun _ l=>qm (qX 2 l) fun a l=>qm (zH 41 l) fun _ l=>qm (kA l) fun n l=>.ok (⟨k,n,a,0⟩,l):=by
 rw[JV,c];congr 1;funext _ l;unfold AL;cases qX 2 l with
 |error p=>rfl
 |ok a=>rfl
theorem Pb {k:Int} (c:(k==5||k==6)=true) (l:List Tok):xq k l=qm (zH 40 l) fun _ l=>qm (qX 2 l) fun a l=>qm (zH 44 l) fun _ l=>qm (qX 2 l) fun b l=>qm (zH 41 l) fun _ l=>qm (kA l) fun n l=>.ok (⟨k,n,a,b⟩,l):=by
 rw[JV,c];congr 1;funext _ l;unfold AL;cases qX 2 l with
 |error p=>rfl
 |ok a=>
   obtain⟨a,l⟩:=a;simp only[qr,if_true];cases zH 44 l with
   |error p=>rfl
   |ok b=>
     obtain⟨_,l⟩:=b;simp only[qr];cases qX 2 l with
     |error p=>rfl
     |ok b=>rfl
theorem MZ (a:List Tok) (E h u j y:Nat) (w:World) (ag:Q9 a E h u j y w) (k:Int) (H:Bool) (ah:(k==5||k==6)=H) (nm:Int) (az:nm=if H=true then 2 else 1) (kb R:Nat) (tk tn:TypeId)
  (hk:Holds w kb tk #[Vu k]) (hn:Holds w R tn #[Vi nm]) (b4:R≠E):
  Cs 143 #[Vp E 0,Vp kb 0,Vp R 0] w (RQ a E h u j y (xq k (a.drop y)) w fun t=>.agg #[Vu t.kind,Vi t.n,Vi t.s,Vi t.r]):=by
 have Q:=K9.start ag 95 #[Vu 0,Vi 0,Vi 0,Vi 0];have kc:Cq (w.alloc (Oc #[Vu 0,Vi 0,Vi 0,Vi 0] 95)) kb 0 (Vu k):=(hk.grown (World.grownBy_alloc _ _ none) (by simp)).cell 0;have zf:=Q.r.free;have zl:=Q.r.size;have z0:Cq (w.alloc (Oc #[Vu 0,Vi 0,Vi 0,Vi 0] 95)) w.1.size 0 (Vu 0):=Q.r.cell 0;have k1:=K9.start ag 95 #[Vu k,Vi 0,Vi 0,Vi 0];have c1:=j9 a E h u j y 40 (by decide) {data:=#[40]} rfl _ k1.q;have hN:∀af:World,w.grownBy af (some E)->Cq af R 0 (Vi nm):=fun af g=>(hn.grown g (fun e=>b4 (Option.some.inj e))).cell 0;have HN:=hiD hN;have K1:=hiD k1;have U:=hiD c1;have B:Hid (xq k (a.drop y)=qm (zH 40 (a.drop y)) fun _ l=>qm (qX 2 l) fun ax l=>if H=true then qm (zH 44 l) fun _ l=>qm (qX 2 l) fun b l=>qm (zH 41 l) fun _ l=>qm (kA l) fun n l=>.ok (⟨k,n,ax,b⟩,l)else qm (zH 41 l) fun _ l=>qm (kA l) fun n l=>.ok (⟨k,n,ax,0⟩,l)):=by
  cases H
  ·exact hiD (Pd ah _)
  ·exact hiD (Pb ah _)
 clear Q k1 c1 ag hk hn ah hN;go_enter func143,ntmps143;go_wp2_with fail;generalize w.alloc (Oc #[Vu k,Vi 0,Vi 0,Vi 0] 95)=W1 at*;generalize w.1.size=T at*;rcases r1:zH 40 (a.drop y)with p|⟨v1,l1⟩
 ·refine U.out.mono ?_;rintro e w1 K;obtain⟨rfl,g⟩:=K.err r1;have D:=RQ.bad (k:=a) (d:=h) (j:=u) (e:=j) (c:=y) (f:=fun t:Tm=>.agg #[Vu t.kind,Vi t.n,Vi t.s,Vi t.r]) (K1.out.g.trans g) (B.out.trans (by rw[r1];rfl));unfold qF at D⊢;exact⟨rfl,D⟩
 have ab:=B.out;simp only[r1,qr]at ab;refine U.out.mono ?_;rintro e w1 K;obtain⟨rfl,g1,au,ar,rfl,q1⟩:=K.ok r1;have K2:=hiD (K1.out.move q1 g1);have c2:=yi a E h u j au 2 (by omega) (by omega) _ q1;have V:=hiD c2;have A:=hiD ab;have al:=hiD ar;clear c2 g1 q1 K r1 B U ab ar K1;go_wp2_with fail;rcases r2:qX 2 (a.drop au)with p|⟨s,l2⟩
 ·refine V.out.mono ?_;rintro e w2 L;obtain⟨rfl,g⟩:=L.err r2;have D:=RQ.bad (k:=a) (d:=h) (j:=u) (e:=j) (c:=y) (f:=fun t:Tm=>.agg #[Vu t.kind,Vi t.n,Vi t.s,Vi t.r]) (K2.out.g.trans g) (A.out.trans (by rw[r2];rfl));unfold qF at D⊢;exact⟨rfl,D⟩
 have a9:=A.out;simp only[r2,qr]at a9;refine V.out.mono ?_;rintro e w2 L;obtain⟨rfl,g2,ac,am,rfl,q2⟩:=L.ok r2;have k3:=K2.out.move q2 g2;obtain⟨-,-,y2,yf,yl⟩:=k3.r.g3;have M:=hiD (k3.setR 2 (Vi s));have b5:=HN.out _ M.out.g;have m:=hiD a9;have aa:=hiD (jS al.out am);clear k3 g2 q2 L r2 A V a9 am K2 al
 go_upto_if 14 with(fail)
 generalize w2.setCell (Ad T 2) (Vi s)=W2 at*;go_cut [] (fun wc=>∃(b:Int) (i:Nat),K9 w a E h u j 95 T #[Vu k,Vi 0,Vi s,Vi b] i wc∧y<=i∧Hid (xq k (a.drop y)=qm (zH 41 (a.drop i)) fun _ l=>qm (kA l) fun n l=>.ok (⟨k,n,s,b⟩,l)));case first=>
  cases H
  ·subst az;go_wp2_with fail;go_meet;exact⟨0,ac,M.out,aa.out,m⟩
  ·subst az;have hp:=m.out;simp only[if_true]at hp;have HP:=hiD hp;clear hp m;have c3:=j9 a E h u j ac 44 (by decide) {data:=#[44]} rfl _ M.out.q;have W:=hiD c3;clear c3;go_wp2_with fail;rcases r3:zH 44 (a.drop ac)with p|⟨v3,l3⟩
   ·refine W.out.mono ?_;rintro e w3 N;obtain⟨rfl,g⟩:=N.err r3;have D:=RQ.bad (k:=a) (d:=h) (j:=u) (e:=j) (c:=y) (f:=fun t:Tm=>.agg #[Vu t.kind,Vi t.n,Vi t.s,Vi t.r]) (M.out.g.trans g) (HP.out.trans (by rw[r3];rfl));unfold qF at D⊢;exact⟨rfl,D⟩
   have aj:=HP.out;simp only[r3,qr]at aj;refine W.out.mono ?_;rintro e w3 N;obtain⟨rfl,g3,a3,a7,rfl,q3⟩:=N.ok r3;have K4:=hiD (M.out.move q3 g3);have c4:=yi a E h u j a3 2 (by omega) (by omega) _ q3;have X:=hiD c4;have an:=hiD aj;have b0:=hiD (jS aa.out a7);clear c4 g3 q3 N r3 W aj a7;go_wp2_with fail;rcases r4:qX 2 (a.drop a3)with p|⟨b,l4⟩
   ·refine X.out.mono ?_;rintro e w4 O;obtain⟨rfl,g⟩:=O.err r4;have D:=RQ.bad (k:=a) (d:=h) (j:=u) (e:=j) (c:=y) (f:=fun t:Tm=>.agg #[Vu t.kind,Vi t.n,Vi t.s,Vi t.r]) (K4.out.g.trans g) (an.out.trans (by rw[r4];rfl));unfold qF at D⊢;exact⟨rfl,D⟩
   have ak:=an.out;simp only[r4,qr]at ak;refine X.out.mono ?_;rintro e w4 O;obtain⟨rfl,g4,b3,a5,rfl,q4⟩:=O.ok r4;have k5:=K4.out.move q4 g4;obtain⟨-,-,-,x3,xf,xl⟩:=k5.r.g4;have K5:=hiD (k5.setR 3 (Vi b));have a':=hiD ak;have b1:=hiD (jS b0.out a5);clear k5 g4 q4 O r4 X ak a5;go_wp2_with fail;go_meet;exact⟨b,b3,K5.out,b1.out,a'⟩
 case rest=>
  obtain⟨b,i,k7,a2,ad⟩:=hcut;have c7:=j9 a E h u j i 41 (by decide) {data:=#[41]} rfl _ k7.q;have Z:=hiD c7;have K7:=hiD k7;have aw:=hiD a2;clear c7 k7 a2 m M aa b5;go_wp2_with fail;rcases r7:zH 41 (a.drop i)with p|⟨v7,l7⟩
  ·refine Z.out.mono ?_;rintro e w8 P;obtain⟨rfl,g⟩:=P.err r7;have D:=RQ.bad (k:=a) (d:=h) (j:=u) (e:=j) (c:=y) (f:=fun t:Tm=>.agg #[Vu t.kind,Vi t.n,Vi t.s,Vi t.r]) (K7.out.g.trans g) (ad.out.trans (by rw[r7];rfl));unfold qF at D⊢;exact⟨rfl,D⟩
  have r:=ad.out;simp only[r7,qr]at r;refine Z.out.mono ?_;rintro e w8 P;obtain⟨rfl,g8,f,ap,rfl,S⟩:=P.ok r7;have K8:=hiD (K7.out.move S g8);obtain⟨t,ht⟩:∃t,a[f]?=some t:=⟨_,jB S.lt⟩;have J:=vG a E h u j f {data:=#[43,45]} (by decide) (by decide) t ht _ S;have hm:=Si ht;rw[hm]at r;replace J:Cs 34 #[Vp E 0,.string {data:=#[43,45]}] w8 fun e w'=>e=Rt (Vu (anyOf [43,45] t))∧w8.grownBy w' (some E)∧Q9 a E h u j (if anyOf [43,45] t=0 then f else f+1) w':=J;have C9:=hiD J;have ae:=hiD r;have a6:=hiD (jS aw.out ap);clear J g8 S P r7 Z r ap ad aw ht hm K7;generalize anyOf [43,45] t=c at*;go_wp2_with fail;refine C9.out.mono ?_;rintro e w9 ⟨rfl,g9,q9⟩;have z:=K8.out.move q9 g9;clear g9 q9 C9;by_cases F:c=0
  ·subst F;obtain⟨z0,z1,z2,z3,zf,zl⟩:=z.r.g4;have d:=ae.out;simp only[if_true,qr]at d;have o:=hiD d;have I:=hiD ((((z.setR 0 (Vu k)).setR 1 (Vi 0)).setR 2 (Vi s)).setR 3 (Vi b));clear z d;go_wp2_with fail;refine bodyPost_ret (xB rfl _ _ T 95 #[Vu k,Vi 0,Vi s,Vi b] _ rfl I.out.r underlying95 rfl rfl) rfl ?_;exact RQ.good (i:=fun t:Tm=>.agg #[Vu t.kind,Vi t.n,Vi t.s,Vi t.r]) (v:=⟨k,0,s,b⟩) I.out.g o.out a6.out I.out.q
  ·have e1:(c !=0)=true:=by simpa using F
   have d:=ae.out;simp only[if_neg F]at d z;have aq:=EB a E h u j (f+1) c _ z.q;have a8:=hiD aq;have o:=hiD d;have ao:=hiD z;have E0:=hiD F;clear aq d z F ae;go_wp2_with fail;rcases r10:pNum (c==45) (a.drop (f+1))with p|⟨x,b7⟩
   ·refine a8.out.mono ?_;rintro e b6 q;obtain⟨rfl,g⟩:=q.err r10;have D:=RQ.bad (k:=a) (d:=h) (j:=u) (e:=j) (c:=y) (f:=fun t:Tm=>.agg #[Vu t.kind,Vi t.n,Vi t.s,Vi t.r]) (ao.out.g.trans g) (o.out.trans (by rw[r10];rfl));unfold qF at D⊢;exact⟨rfl,D⟩
   have ai:=o.out;simp only[r10,qr]at ai;refine a8.out.mono ?_;rintro e b6 q;obtain⟨rfl,ay,a0,a1,rfl,av⟩:=q.ok r10;have C:=ao.out.move av ay;obtain⟨z0,z1,z2,z3,zf,zl⟩:=C.r.g4;have b2:=hiD ai;have a4:=hiD (show y<=a0 by have:=a6.out;omega);have I:=hiD (((((C.setR 1 (Vi x)).setR 0 (Vu k)).setR 1 (Vi x)).setR 2 (Vi s)).setR 3 (Vi b));clear C ai ay av q r10 a8 a1;go_wp2_with fail;refine bodyPost_ret (xB rfl _ _ T 95 #[Vu k,Vi x,Vi s,Vi b] _ rfl I.out.r underlying95 rfl rfl) rfl ?_;exact RQ.good (i:=fun t:Tm=>.agg #[Vu t.kind,Vi t.n,Vi t.s,Vi t.r]) (v:=⟨k,x,s,b⟩) I.out.g b2.out a4.out I.out.q
end
section
open Go.Maps Go.ChangeMaps
open Go.WideElems (Fit findIdx_born findIdx_arr modify_last set_self)
abbrev clos (a c:Nat):Value:= .func (.func 143) #[] #[Vp a 0,Vp c 0]
def BP (a c:Nat):DataW Unit:= .slice [.lit (.int .i64 a),.lit (.int .i64 c)] []
theorem Sc {a b c d:Nat} (h:BP a b=BP c d):a=c∧b=d:=by
 unfold BP at h;simp at h;omega
open Classical in
noncomputable def Cj (v:Value):Option (DataW Unit×List MemPlace):=
 if v= .nilFunc then some (.nil,[])else if h:∃p:Nat×Nat,v=clos p.1 p.2 then some (BP h.choose.1 h.choose.2,[])else none
theorem Kr:Cj .nilFunc=some (.nil,[]):=by unfold Cj;rw[if_pos rfl]
theorem D9 (c d:Nat):Cj (clos c d)=some (BP c d,[]):=by
 have a:∃p:Nat×Nat,clos c d=clos p.1 p.2:=⟨(c,d),rfl⟩;unfold Cj;rw[if_neg (by simp),dif_pos a];have h:=a.choose_spec;generalize a.choose=q at h;simp at h;rw[<-h.1,<-h.2]
theorem closR_inv {v:Value} {d:DataW Unit} {f:List MemPlace} (h:Cj v=some (d,f)):(v= .nilFunc∧d= .nil)∨∃a c,v=clos a c∧d=BP a c:=by
 unfold Cj at h;split at h
 ·rename_i e;simp at h;exact .inl ⟨e,h.1.symm⟩
 ·split at h
  ·rename_i e;simp at h;exact .inr ⟨_,_,e.choose_spec,h.1.symm⟩
  ·cases h
def KAt (W:World) (B:Nat) (D:DataW Unit) (n k:Int) (d:Bool):Prop:=
 if k=0 then D.atKey (.int .i64 n) .nil= .nil else
  ∃a c:Nat,B<=a∧B<=c∧D.atKey (.int .i64 n) .nil=BP a c∧Holds W a 5 #[.int .u8 k]∧Holds W c 3 #[.int .i64 (if d=true then 2 else 1)]
theorem KAt.kept {W l:World} {B:Nat} {D:DataW Unit} {n k:Int} {q:Bool} {p:Option Nat} (h:KAt W B D n k q) (m:W.grownBy l p) (o:∀j,p=some j->j<B):KAt l B D n k q:=by
 unfold KAt at*;split
 ·rename_i e;rw[if_pos e]at h;exact h
 ·rename_i e;rw[if_neg e]at h;obtain⟨b,a,f,c,g,d,i⟩:=h;exact⟨b,a,f,c,g,d.grown m (fun e=>by have:=o b e.symm;omega),i.grown m (fun e=>by have:=o a e.symm;omega)⟩
theorem KAt.other {W:World} {B:Nat} {D:DataW Unit} {n m k:Int} {a:Bool} (h:KAt W B D n k a) (c:n≠m) (d:DataW Unit):KAt W B (D.put (.int .i64 m) d) n k a:=by
 unfold KAt at*;have e:(D.put (.int .i64 m) d).atKey (.int .i64 n) .nil=D.atKey (.int .i64 n) .nil:=atKey_put_other (fun e=>c (by simpa using e)) d .nil;rw[e];exact h
theorem KAt.same {W:World} {B:Nat} {D:DataW Unit} (j:IsMap D) {n k:Int} (l:WideAt.IsKeyLit (.int .i64 n)) (m:k≠0) {d:Bool} {a c:Nat} (e:B<=a) (f:B<=c) (g:Holds W a 5 #[.int .u8 k]) (i:Holds W c 3 #[.int .i64 (if d=true then 2 else 1)]):
  KAt W B (D.put (.int .i64 n) (BP a c)) n k d:=by
 unfold KAt;rw[if_neg m];exact⟨a,c,e,f,atKey_put_same j l _ _,g,i⟩
def BQ (n:Int):Int:=if n=19 then 1 else if n=23 then 2 else if n=24 then 3 else if n=13 then 4 else 0
def B9 (left:Lit->Bool) (n:Int):Int:=if left (.int .u8 (n+97))=true then 0 else BQ n
def D4:DataW Unit:=((((DataW.map []).put (.int .u8 116) (.lit (.int .u8 1))).put (.int .u8 120) (.lit (.int .u8 2))).put (.int .u8 121) (.lit (.int .u8 3))).put (.int .u8 110) (.lit (.int .u8 4))
theorem D4_has:has D4 (.int .u8 116)=true∧has D4 (.int .u8 120)=true∧has D4 (.int .u8 121)=true∧has D4 (.int .u8 110)=true:=by decide
theorem Nk (n:Int):B9 (has D4) n=0:=by
 obtain⟨g,e,h,f⟩:=D4_has;unfold B9 BQ;by_cases c:n=19
 ·subst c;exact if_pos g
 by_cases b:n=23
 ·subst b;exact if_pos e
 by_cases a:n=24
 ·subst a;exact if_pos h
 by_cases d:n=13
 ·subst d;exact if_pos f
 rw[if_neg c,if_neg b,if_neg a,if_neg d];split<;>rfl
theorem SS {left:Lit->Bool} (h:∀kl,left kl=false) (n:Int):B9 left n=BQ n:=by
 unfold B9;rw[h];rfl
theorem D4_hat {x c:Int} (f:∀g,D4.atKey (.int .u8 x) g= .lit (.int .u8 c)):BQ (x-97)=c∧c≠0∧97<=x∧x<=122:=by
 by_cases a:x=110
 ·subst a;have:=f .nil;simp[D4,DataW.atKey,DataW.put,DataW.insert,Lit.sameKey,Lit.before]at this;subst this;decide
 by_cases e:x=121
 ·subst e;have:=f .nil;simp[D4,DataW.atKey,DataW.put,DataW.insert,Lit.sameKey,Lit.before]at this;subst this;decide
 by_cases d:x=120
 ·subst d;have:=f .nil;simp[D4,DataW.atKey,DataW.put,DataW.insert,Lit.sameKey,Lit.before]at this;subst this;decide
 by_cases b:x=116
 ·subst b;have:=f .nil;simp[D4,DataW.atKey,DataW.put,DataW.insert,Lit.sameKey,Lit.before]at this;subst this;decide
 have:=f .nil;rw[D4,atKey_put_other (by simpa using a),atKey_put_other (by simpa using e),atKey_put_other (by simpa using d),atKey_put_other (by simpa using b)]at this;cases this
theorem PE {left:Lit->Bool} (x:Int):B9 (fun z=>left z&&!z.sameKey (.int .u8 x)) (x-97)=BQ (x-97):=by
 unfold B9;rw[show x-97+97=x by omega];simp[Lit.sameKey]
theorem Nl {left:Lit->Bool} {x n:Int} (h:n≠x-97):B9 (fun z=>left z&&!z.sameKey (.int .u8 x)) n=B9 left n:=by
 unfold B9;have:(Lit.int .u8 (n+97)).sameKey (.int .u8 x)=false:=sameKey_ne (fun e=>h (by simp at e;omega));simp only[this,Bool.not_false,Bool.and_true]
theorem Uz (n:Int):yt n=if n=3 then 5 else if n=2 then 6 else BQ n:=by
 unfold yt BQ;by_cases a:n=3
 ·subst a;rfl
 by_cases b:n=2
 ·subst b;rfl
 simp only[if_neg a,if_neg b]
theorem UA (n:Int):(BQ n==5||BQ n==6)=false:=by
 unfold BQ
 repeat' split
 all_goals rfl
def Gp (W:World) (B b:Nat):Prop:=B<=b∧∃n D,W.ownsMap prog 3 Cj b n D∧∀i,KAt W B D i (yt i) (yt i==5||yt i==6)
theorem Gp.kept {W f:World} {B b:Nat} {l:Option Nat} (h:Gp W B b) (g:W.grownBy f l) (k:∀j,l=some j->j<B):Gp f B b:=by
 obtain⟨c,n,D,d,a⟩:=h;exact⟨c,n,D,d.kept g (fun e=>by have:=k b e.symm;omega),fun i=>(a i).kept g k⟩
section
variable {H : Type} {P : Program} {w : World} {t k e : TypeId} {R : Value -> Option (DataW H × List MemPlace)} {b n : Nat} {D : DataW H}
theorem G7 (w:World) (b:Nat) (o a:Obj):setBlock (setBlock w b o) b a=setBlock w b a:=by
 simp[setBlock]
theorem Nz (K:Keyed P k) (I:P.underlying t=some (.map k e)) {z:Value} (Q:∀u:World,(zeroValue e).run P u= .ok z u) {C:Array MapEntry} {n:Nat} (D:w.1[b]?=some (.map C n)) (F:Fit P k R C n)
  {key:Value} {kl:Lit} (H:keyOf P k key=some kl) (val:Value):
  ∃(S:Value) (L:Nat) (M N:World),(Instr.mapEntry t (.map (some b)) key).run P w= .ok (.tuple #[S,Vi L]) M∧(Instr.entryStore t (.map (some b)) (Vi L) val).run P M= .ok () N∧
   (Instr.mapUpdate t (.map (some b)) key val).run P w= .ok () N:=by
 obtain⟨A,r,_⟩:=F.stamped;rcases K.find w H C.toList F.keys with⟨o,h⟩|⟨j,E,o,h,p⟩
 ·have m:(setBlock w b (.map (C.push ⟨key,z,n⟩) (n+1))).1[b]?=some (.map (C.push ⟨key,z,n⟩) (n+1)):=heap_setBlock_same D _;have d:(C.push ⟨key,z,n⟩).findIdx? (fun e=>((e.born:Nat):Int)==((n:Nat):Int))=some C.size:=by
   rw[findIdx_arr];refine findIdx_born (l:=(C.push ⟨key,z,n⟩).toList) (j:=C.size) (e0:=⟨key,z,n⟩) ?_ (by simp);simp only[Array.toList_push,dC,List.map_cons,List.map_nil];refine List.nodup_append.2 ⟨r,by simp,fun a O c v B=>?_⟩;simp only[List.mem_singleton]at v;obtain⟨x,y,rfl⟩:=List.mem_map.1 O;have:=A x y;omega
  have f:(C.push ⟨key,z,n⟩).modify C.size (fun e=>{e with val:=val})=C.push ⟨key,val,n⟩:=by
   apply Array.ext';rw[Array.toList_modify,Array.toList_push,Array.toList_push,<-Array.length_toList,modify_last]
  refine⟨z,n,setBlock w b (.map (C.push ⟨key,z,n⟩) (n+1)),setBlock w b (.map (C.push ⟨key,val,n⟩) (n+1)),?_,?_,?_⟩
  ·simp[Instr.mapEntry,run_underlying I,MapKept.run_getObj_map D,K.check w false H,o,Q,MapKept.run_setObj_map _ D,Result.andThen,setBlock,goInt]
  ·rw[<-G7 w b (.map (C.push ⟨key,z,n⟩) (n+1)) (.map (C.push ⟨key,val,n⟩) (n+1))];generalize setBlock w b (.map (C.push ⟨key,z,n⟩) (n+1))=W at*;simp[Instr.entryStore,MapKept.run_getObj_map m,asInt,asIntOf,d,f,MapKept.run_setObj_map _ m,Result.andThen,setBlock]
  ·simp[Instr.mapUpdate,run_underlying I,MapKept.run_getObj_map D,K.check w false H,o,MapKept.run_setObj_map _ D,Result.andThen,setBlock]
 ·have J:C[j]?=some E:=by simpa using h
  have i:C.modify j (fun e=>{e with key:=key})=C:=by
   apply Array.ext';rw[Array.toList_modify,modify_eq_set _ _ _ _ h,show ({E with key:=key}:MapEntry)=E by rw[<-p]];exact set_self _ _ _ h
  have d:C.findIdx? (fun e=>((e.born:Nat):Int)==((E.born:Nat):Int))=some j:=by
   rw[findIdx_arr];exact findIdx_born r h
  have f:C.modify j (fun e=>{e with val:=val})=C.modify j (fun q=>{q with key:=key,val:=val}):=by
   apply Array.ext';rw[Array.toList_modify,Array.toList_modify,modify_eq_set _ _ _ _ h,modify_eq_set _ _ _ _ h,<-p]
  have g:setBlock w b (.map C n)=w:=by
   have s:=(jA.1 D).1;have T:=(jA.1 D).2;have:w.1.setIfInBounds b (.map C n)=w.1:=by
    apply Array.ext';rw[Array.toList_setIfInBounds];exact set_self _ _ _ (by simpa using D)
   unfold setBlock;rw[this]
  refine⟨E.val,E.born,w,setBlock w b (.map (C.modify j (fun q=>{q with key:=key,val:=val})) n),?_,?_,?_⟩
  ·rw[<-g];simp[Instr.mapEntry,run_underlying I,g,MapKept.run_getObj_map D,K.check w false H,o,J,p,K.stays w H,i,MapKept.run_setObj_map _ D,Result.andThen,goInt];exact g
  ·simp[Instr.entryStore,MapKept.run_getObj_map D,asInt,asIntOf,d,f,MapKept.run_setObj_map _ D,Result.andThen,setBlock]
  ·simp[Instr.mapUpdate,run_underlying I,MapKept.run_getObj_map D,K.check w false H,o,J,p,K.stays w H,MapKept.run_setObj_map _ D,Result.andThen,setBlock]
theorem DU (h:w.ownsMap P k R b n D) (K:Keyed P k) (A:P.underlying t=some (.map k e)) {z:Value} (E:∀u:World,(zeroValue e).run P u= .ok z u) (B:n<maxLen) {key x:Value} {kl:Lit} {d:DataW H} {I:List MemPlace}
  (y:keyOf P k key=some kl) (C:R x=some (d,I)):
  ∃(s:Value) (r:Nat) (c f:World),(Instr.mapEntry t (.map (some b)) key).run P w= .ok (.tuple #[s,Vi r]) c∧(Instr.entryStore t (.map (some b)) (Vi r) x).run P c= .ok () f∧
   f.ownsMap P k R b (n+1) (D.put kl d)∧w.grownBy f (some b):=by
 obtain⟨w',a,j,p⟩:=h.update K A B y C;obtain⟨q,g,m,F,_,_⟩:=h;obtain⟨s,r,c,f,o,l,i⟩:=Nz K A E m F y x;rw[a]at i;cases i;exact⟨s,r,c,w',o,l,j,p⟩
end
end
section
open Go.Maps
attribute [local go_sem] Oper.semAt_some
theorem wf8 {n:Int} (c:0<=n) (d:n<=255):(Lit.int .u8 n).wf=true:=by
 have a:IntKind.u8.min=0:=by decide
 have b:IntKind.u8.max=255:=by decide
 simp only[Lit.wf,a,b,jJ,decide_eq_true_eq];omega
theorem wf64 {n:Int} (c:-9223372036854775808<=n) (d:n<=9223372036854775807):(Lit.int .i64 n).wf=true:=by
 have a:IntKind.i64.min=-9223372036854775808:=by decide
 have b:IntKind.i64.max=9223372036854775807:=by decide
 simp only[Lit.wf,a,b,jJ,decide_eq_true_eq];omega
theorem lawI:Keyed prog 3:=int_keyed underlying3
theorem lawB:Keyed prog 5:=int_keyed underlying5
theorem TL (w:World):(zeroValue 214).run prog w= .ok .nilFunc w:=by kernel_rfl
theorem KAt.le {W:World} {B g:Nat} {D:DataW Unit} {n k:Int} {i:Bool} (h:KAt W B D n k i) (j:g<=B):KAt W g D n k i:=by
 unfold KAt at*;split
 ·rename_i e;rw[if_pos e]at h;exact h
 ·rename_i e;rw[if_neg e]at h;obtain⟨b,a,f,d,c⟩:=h;exact⟨b,a,by omega,by omega,c⟩
theorem Lm (k f:Int) (w:World):Cs 142 #[Vu k,Vi f] w fun e w'=>
  ∃c d,w.1.size<=c∧w.1.size<=d∧e=Rt (clos c d)∧Holds w' c 5 #[Vu k]∧Holds w' d 3 #[Vi f]∧w.grownBy w' none:=by
 have a:=hmf1;go_enter func142,ntmps142;go_wp2_with fail;go_ret;refine⟨w.1.size,w.1.size+1,Nat.le_refl _,Nat.le_succ _,rfl,(Holds.fresh _ _ _).alloc _,?_,(World.grownBy_alloc _ _ _).trans (World.grownBy_alloc _ _ _)⟩;have:=Holds.fresh (w.alloc (Oc #[Vu k] 5)) 3 #[Vi f];simpa using this
theorem M3 (w:World):Cs 109 #[] w fun e w'=>∃b,e=Rt (.map (some b))∧w.grownBy w' none∧Gp w' w.1.size b:=by
 have aq:= @run_makeMap prog;have e1:(w.alloc (.map #[] 0)).1.size=w.1.size+1:=by simp
 have s:=World.ownsMap_made (H:=Unit) (w.alloc (.map #[] 0)) prog 5 (plainElem prog 5);rw[e1]at s;have q:=(World.ownsMap_made w prog 3 Cj).alloc (.map #[] 0);have g:w.grownBy ((w.alloc (.map #[] 0)).alloc (.map #[] 0)) none:=(World.grownBy_alloc _ _ _).trans (World.grownBy_alloc _ _ _);have C:=hiD Lm;have d:∀n:Int,0<=n->n<=255->(Lit.int .u8 n).wf=true:=fun n h0 Q=>wf8 h0 Q;obtain⟨w1,r1,o1,g1⟩:=s.update (t:=216) (key:= .int .u8 116) (val:= .int .u8 1) lawB underlying216 (by unfold maxLen;omega) (keyOf_int_mk underlying5 (d _ (by decide) (by decide))) (plainElem_int underlying5 (d _ (by decide) (by decide)));obtain⟨w2,r2,o2,y⟩:=o1.update (t:=216) (key:= .int .u8 120) (val:= .int .u8 2) lawB underlying216 (by unfold maxLen;omega) (keyOf_int_mk underlying5 (d _ (by decide) (by decide))) (plainElem_int underlying5 (d _ (by decide) (by decide)));obtain⟨V,r3,o3,h⟩:=o2.update (t:=216) (key:= .int .u8 121) (val:= .int .u8 3) lawB underlying216 (by unfold maxLen;omega) (keyOf_int_mk underlying5 (d _ (by decide) (by decide))) (plainElem_int underlying5 (d _ (by decide) (by decide)));obtain⟨Z,r4,a1,g4⟩:=o3.update (t:=216) (key:= .int .u8 110) (val:= .int .u8 4) lawB underlying216 (by unfold maxLen;omega) (keyOf_int_mk underlying5 (d _ (by decide) (by decide))) (plainElem_int underlying5 (d _ (by decide) (by decide)));have a0:=((g1.andThen (row:=some (w.1.size+1)) y (fun j c=>.inr c)).andThen (row:=some (w.1.size+1)) h (fun j c=>.inr c)).andThen (row:=some (w.1.size+1)) g4 (fun j c=>.inr c);have a5:w.grownBy Z none:=g.andThen a0 (fun j c=>.inl (by cases c;omega));have a6:=q.kept a0 (by simp);clear g q g1 y h g4 o1 o2 o3 s;have g:=a5;have q:=a6;have s:Z.ownsMap prog 5 (plainElem prog 5) (w.1.size+1) 4 D4:=a1;clear a5 a6 a1;go_enter func109,ntmps109;go_wp2_with (first
  |(at_range;refine wpList_range_own _ rfl _ 216 rfl 5 5 lawB underlying216 _ (w.1.size+1) _ _ rfl s ?_;intro w0 f o al)
  |go_in)
 go_frame
 have ak:=s.lt;obtain⟨r,hr⟩:=xR Z.1.size;rw[hr]at f al ak⊢;go_loopw [3] (fun _ wr=>∃(left:Lit->Bool) (z W:Nat) (F:DataW Unit),wr.ranges prog 5 (plainElem prog 5) (w.1.size+1) r 4 D4 left z∧W+z<=4∧
   wr.ownsMap prog 3 Cj w.1.size W F∧(∀i,KAt wr (r+1) F i (B9 left i) false)∧w.grownBy wr none)
  (fun _ wr=>wr.rangeLeft (w.1.size+1) r)
 case atStart=>
  refine⟨_,_,0,.map [],f,by decide,q.kept o (by simp),fun i=>?_,g.trans o⟩;unfold KAt;rw[if_pos (show B9 (has D4) i=0 from Nk i)];rfl
 case round=>
  obtain⟨left,z,W,F,p,ao,v,X,O⟩:=hrel;have ay:=p.lt;go_wp2_with (first
   |(at_next;refine wpList_next_ranges_ii _ rfl _ rfl 5 5 .u8 .u8 lawB underlying5 underlying5 (w.1.size+1) r 4 D4 _ _ rfl p ?_ ?_)
   |go_in)
  ·intro L ag;have R:∀i,KAt wr (r+1) F i (BQ i) false:=fun i=>by have:=X i;rwa [SS ag]at this
   have HA:=hiD R;clear X R o g f;go_wp2_with fail;refine(C.out 5 2 _).mono ?_;rintro e wa ⟨u,P,l1,l2,rfl,Q,S,m⟩;have a9:=hiD (fun i=>(HA.out i).kept m (fun j c=>by cases c));go_wp2_with fail;refine(C.out 6 2 _).mono ?_;rintro e wb ⟨T,U,l3,l4,rfl,h3,h4,I⟩;have K:=(v.kept m (by simp)).kept I (by simp);have av:=p.lt;have am:=m.size;have ax:=I.size;obtain⟨v0,st,w1,w2,r1,r2,M,y⟩:=DU (t:=183) (key:= .int .i64 3) (kl:= .int .i64 3) K lawI underlying183 TL (by unfold maxLen;omega) (keyOf_int_mk underlying3 (by decide)) (D9 u P);go_wp2_with (first
    |(at_mapUpdate;refine wpList_mapUpdate_own _ rfl _ _ _ 183 rfl 3 214 lawI underlying183 Cj w.1.size _ _ rfl M (by unfold maxLen;omega) _ _ _ rfl rfl (keyOf_int_mk underlying3 (by decide)) _ [] (D9 T U) ?_;intro V aj h)
    |go_in)
   go_ret;have J:=(y.andThen (row:=some w.1.size) h (fun j c=>.inr c));have l:∀j,some w.1.size=some j->j<r+1:=fun j c=>by cases c;omega
   refine⟨w.1.size,rfl,((O.trans m).trans I).andThen J (fun j c=>.inl (by cases c;exact Nat.le_refl _)),Nat.le_refl _,_,_,aj,fun i=>?_⟩;have af:=Q.grown (I.but (some w.1.size)) (fun e=>by have:=Option.some.inj e;omega);have ac:=S.grown (I.but (some w.1.size)) (fun e=>by have:=Option.some.inj e;omega);have f1:KAt V w.1.size ((F.put (.int .i64 3) (BP u P)).put (.int .i64 2) (BP T U)) 3 5 true:=
    (KAt.same (B:=w.1.size) (d:=true) K.isMap trivial (by decide) (by omega) (by omega) (af.grown J (fun e=>by have:=Option.some.inj e;omega)) (ac.grown J (fun e=>by have:=Option.some.inj e;omega))).other (by decide) _
   have f2:KAt V w.1.size ((F.put (.int .i64 3) (BP u P)).put (.int .i64 2) (BP T U)) 2 6 true:=
    KAt.same (B:=w.1.size) (d:=true) M.isMap trivial (by decide) (by omega) (by omega) (h3.grown J (fun e=>by have:=Option.some.inj e;omega)) (h4.grown J (fun e=>by have:=Option.some.inj e;omega))
   by_cases N:i=3
   ·subst N;exact f1
   by_cases D:i=2
   ·subst D;exact f2
   have e4:yt i=BQ i:=by rw[Uz,if_neg N,if_neg D]
   rw[e4,UA];exact(((((a9.out i).kept I (fun j c=>by cases c)).kept J l).le (by omega)).other N _).other D _
  ·intro x ad w1 ab b0 a' ai A k ah E aw ap;obtain⟨a2,L,b1,b2⟩:=D4_hat A;have d:IntKind.u8.wrap (x-97)=x-97:=IntWalk.u8_in _ (by omega);have az:IntKind.i64.wrap (x-97)=x-97:=IntWalk.i64_in _ (by omega);have a7:=v.kept E (fun e=>by have:=Option.some.inj e;omega);have ae:=hiD (fun i=>(X i).kept E (fun j c=>by cases c;omega));have an:=hiD A;have aa:=hiD a2;clear A X a2 ai o g f;go_wp2_with fail;refine(C.out ad 1 _).mono ?_;rintro e w2 ⟨u,P,l1,l2,rfl,Q,S,m⟩;have a3:=a7.kept m (by simp);go_wp2_with (first
    |(at_mapUpdate;refine wpList_mapUpdate_own _ rfl _ _ _ 183 rfl 3 214 lawI underlying183 Cj w.1.size _ _ rfl a3 (by unfold maxLen;omega) _ _ _ rfl rfl (keyOf_int_mk (a:=x-97) underlying3 (wf64 (by omega) (by omega))) _ [] (D9 u P) ?_;intro V a8 h)
    |go_in)
   have am:=m.size;have au:=k.lt;have ar:r≠w.1.size+1:=k.ne;have l:∀j,some w.1.size=some j->j<r+1:=fun j c=>by cases c;omega
   have a4:=(k.kept m (by simp) (by simp)).kept h (fun e=>by have:=Option.some.inj e;omega) (fun e=>by have:=Option.some.inj e;omega);go_roundw;case rel=>
    refine⟨_,_,_,_,_,_,_,_,_,_,_,_,_,_,⟨_,ab,W+1,_,a4,by omega,a8,fun i=>?_,((O.andThen E (fun j c=>.inl (by cases c;omega))).trans m).andThen h (fun j c=>.inl (by cases c;exact Nat.le_refl _))⟩,rfl⟩;by_cases e:i=x-97
    ·subst e;rw[PE,aa.out];exact KAt.same (d:=false) a3.isMap trivial L (by omega) (by omega) (Q.grown h (fun e=>by have:=Option.some.inj e;omega)) (S.grown h (fun e=>by have:=Option.some.inj e;omega))
    ·rw[Nl e];exact(((ae.out i).kept m (fun j c=>by cases c)).kept h l).other e _
   case measure=>rw[a4.left_eq,p.left_eq];exact ah
theorem neqF0 (w:World):(binOp .neq 214 .nilFunc .nilFunc).run prog w= .ok (Vb false) w:=by kernel_rfl
theorem neqF1 (a c:Nat) (w:World):(binOp .neq 214 (clos a c) .nilFunc).run prog w= .ok (Vb true) w:=by kernel_rfl
theorem Sd {d:List Tok} {c:Nat} {t:Tok} (e:d[c]?=some t) (f:t.kind≠2):
  yP (d.drop c)=qm (pNum (anyOf [45] t==45) (d.drop (if anyOf [45] t=0 then c else c+1))) fun n l=>.ok (⟨0,n,0,0⟩,l):=by
 have a:=Bzq e;rw[Dd,show ((UInt8.toNat 45:Nat):Int)=45 from rfl];have b:yP (d.drop c)=qm (if isS 45 (d.drop c)=true then pNum true (d.drop (c+1))else pNum false (d.drop c)) fun n l=>.ok (⟨0,n,0,0⟩,l):=by
  rw[a];unfold yP;simp only[if_neg f]
 rw[b,Cb e];cases ((t.kind==5)&&(t.n==45))<;>rfl
theorem Hk (o:List Tok) (L H p J n:Nat) (t:Tok) (M:o[n]?=some t) (N:t.kind≠2) (w:World) (h:Q9 o L H p J n w) (W:Nat):
  Cs 110 #[Vp L 0,.map (some W)] w (RQ o L H p J n (yP (o.drop n)) w fun t=>.agg #[Vu t.kind,Vi t.n,Vi t.s,Vi t.r]):=by
 have i:=K9.start h 95 #[Vu 0,Vi 0,Vi 0,Vi 0];have V:Cq (w.alloc (Oc #[Vu 0,Vi 0,Vi 0,Vi 0] 95)) L 0 (Vs H (p+n*3) (o.length-n) (J-n)):=i.q.hold.cell 0;obtain⟨X,K,Z⟩:=i.q.tok M;have a0:=h.lt;have m:0<o.length-n:=by omega
 have Q:=i.alloc (Oc #[Vu t.kind,Vi t.n,Vi t.at'] 88);have u:=(Holds.fresh (w.alloc (Oc #[Vu 0,Vi 0,Vi 0,Vi 0] 95)) 88 #[Vu t.kind,Vi t.n,Vi t.at']).cell 0;rw[jl]at u;have a6:(t.kind==2)=false:=by simpa using N
 have a:=Sd M N;have f:=vG o L H p J n {data:=#[45]} (by decide) (by decide) t M _ Q.q;replace f:Cs 34 #[Vp L 0,.string {data:=#[45]}] ((w.alloc (Oc #[Vu 0,Vi 0,Vi 0,Vi 0] 95)).alloc (Oc #[Vu t.kind,Vi t.n,Vi t.at'] 88)) fun e w'=>e=Rt (Vu (anyOf [45] t))∧_∧Q9 o L H p J (if anyOf [45] t=0 then n else n+1) w':=f;have E:n<=(if anyOf [45] t=0 then n else n+1):=by split<;>omega
 generalize (if anyOf [45] t=0 then n else n+1)=B at*;generalize anyOf [45] t=c at*;obtain⟨a9,O⟩:=xR (o.length-n);obtain⟨aa,l⟩:=xR (p+n*3);rw[O,l]at V;rw[l]at X K Z;rw[O]at m;have s:=hiD Q;have A:=hiD f;have d:=hiD a;obtain⟨a3,kn,a7⟩:=t;simp only at*;clear i Q f a h M N O l;go_enter func110,ntmps110;go_wp2_with fail;refine A.out.mono ?_;rintro e a2 ⟨rfl,S,r⟩;have y:=hiD (s.out.move r S);have R:=EB o L H p J B c _ r;have k:=hiD R;clear R r S A s u;generalize w.1.size=D at*;go_wp2_with fail;rcases r2:pNum (c==45) (o.drop B)with ab|⟨x,l2⟩
 ·refine k.out.mono ?_;rintro e F j;obtain⟨rfl,g⟩:=j.err r2;have U:=RQ.bad (k:=o) (d:=H) (j:=p) (e:=J) (c:=n) (f:=fun t:Tm=>.agg #[Vu t.kind,Vi t.n,Vi t.s,Vi t.r]) (y.out.g.trans g) (d.out.trans (by rw[r2];rfl));unfold qF at U⊢;exact⟨rfl,U⟩
 have P:=d.out;simp only[r2,qr]at P;refine k.out.mono ?_;rintro e F j;obtain⟨rfl,T,a1,C,rfl,z⟩:=j.ok r2;have b:=y.out.move z T;have a8:=b.r.free;have a4:=b.r.size;obtain⟨z0,a5,z2,z3,-⟩:=b.r.g4;have q:=hiD ((((b.setR 0 (Vu 0)).setR 1 (Vi x)).setR 2 (Vi 0)).setR 3 (Vi 0));have I:=hiD P;clear b P T z j r2 k;go_wp2_with fail;refine bodyPost_ret (xB rfl _ _ D 95 #[Vu 0,Vi x,Vi 0,Vi 0] _ rfl q.out.r underlying95 rfl rfl) rfl ?_;exact RQ.good (i:=fun t:Tm=>.agg #[Vu t.kind,Vi t.n,Vi t.s,Vi t.r]) (v:=⟨0,x,0,0⟩) q.out.g I.out (by omega) q.out.q
theorem Gu (o:List Tok) (L y r J n:Nat) (t:Tok) (K:o[n]?=some t) (R:t.kind=2) (M:yt t.n=0) (w:World) (h:Q9 o L y r J n w) (B T:Nat) (W:Gp w B T):
  Cs 110 #[.pointer (some ⟨L,0,none⟩),.map (some T)] w (RQ o L y r J n (yP (o.drop n)) w fun t=>.agg #[.int .u8 t.kind,.int .i64 t.n,.int .i64 t.s,.int .i64 t.r]):=by
 have i:=h.ok _ (jY K);have j:=K9.start h 95 #[.int .u8 0,.int .i64 0,.int .i64 0,.int .i64 0];have U:Cq (w.alloc (Oc #[.int .u8 0,.int .i64 0,.int .i64 0,.int .i64 0] 95)) L 0 (Vs y (r+n*3) (o.length-n) (J-n)):=j.q.hold.cell 0;obtain⟨X,A,Z⟩:=j.q.tok K;have a3:=h.lt;have l:0<o.length-n:=by omega
 have Q:=j.alloc (Oc #[.int .u8 t.kind,.int .i64 t.n,.int .i64 t.at'] 88);have q:=Holds.fresh (w.alloc (Oc #[.int .u8 0,.int .i64 0,.int .i64 0,.int .i64 0] 95)) 88 #[.int .u8 t.kind,.int .i64 t.n,.int .i64 t.at'];obtain⟨u,V,-⟩:=q.g2;rw[jl]at u V;obtain⟨_,I,D,g,d⟩:=W;obtain⟨v,ps,a2,P⟩:=((g.alloc (Oc #[.int .u8 0,.int .i64 0,.int .i64 0,.int .i64 0] 95)).alloc (Oc #[.int .u8 t.kind,.int .i64 t.n,.int .i64 t.at'] 88)).lookup (t:=183) (key:= .int .i64 t.n) (kl:= .int .i64 t.n) lawI underlying183 (TL _) Kr (keyOf_int_mk underlying3 (by have:=i.2.1;exact wf64 (by omega) (by omega)));have c:=d t.n;unfold KAt at c;rw[if_pos M]at c;rw[c]at P;obtain rfl:v= .nilFunc:=by
  rcases closR_inv P with⟨rfl,_⟩|⟨a,b,_,N⟩
  ·rfl
  ·cases N
 have f:yP (o.drop n)= .error t.at':=by rw[Hn (Bzq K) R,if_pos M]
 have p:=ke o L y r J n false t K _ Q.q;obtain⟨a0,O⟩:=xR (o.length-n);obtain⟨a1,k⟩:=xR (r+n*3);rw[O,k]at U;rw[k]at X A Z;rw[O]at l;have s:=hiD Q;have z:=hiD p;have m:=hiD f;obtain⟨H,kn,C⟩:=t;simp only at*;subst R;clear j Q p f h K O k d c P M i q;have E:=neqF0;go_enter func110,ntmps110;go_wp2_with fail;refine z.out.mono ?_;rintro e F ⟨x,N⟩;subst x;obtain rfl:e=qF C:=by simpa using N
 have S:=RQ.bad (k:=o) (d:=y) (j:=r) (e:=J) (c:=n) (f:=fun t:Tm=>.agg #[.int .u8 t.kind,.int .i64 t.n,.int .i64 t.s,.int .i64 t.r]) s.out.g m.out;unfold qF at S⊢;exact⟨rfl,S⟩
theorem Gv (f:List Tok) (k i g j a:Nat) (t:Tok) (l:f[a]?=some t) (r:t.kind=2) (p:yt t.n≠0) (w:World) (h:Q9 f k i g j a w) (B mb:Nat) (ae:Gp w B mb) (an:k<B):
  Cs 110 #[.pointer (some ⟨k,0,none⟩),.map (some mb)] w (RQ f k i g j a (yP (f.drop a)) w fun t=>.agg #[.int .u8 t.kind,.int .i64 t.n,.int .i64 t.s,.int .i64 t.r]):=by
 have a6:=h.ok _ (jY l);have z:=K9.start h 95 #[.int .u8 0,.int .i64 0,.int .i64 0,.int .i64 0];have I:Cq (w.alloc (Oc #[.int .u8 0,.int .i64 0,.int .i64 0,.int .i64 0] 95)) k 0 (Vs i (g+a*3) (f.length-a) (j-a)):=z.q.hold.cell 0;obtain⟨t0,Z,t2⟩:=z.q.tok l;have am:=h.lt;have a9:0<f.length-a:=by omega
 have o:=z.alloc (Oc #[.int .u8 t.kind,.int .i64 t.n,.int .i64 t.at'] 88);have T:=Holds.fresh (w.alloc (Oc #[.int .u8 0,.int .i64 0,.int .i64 0,.int .i64 0] 95)) 88 #[.int .u8 t.kind,.int .i64 t.n,.int .i64 t.at'];obtain⟨W,Q,-⟩:=T.g2;rw[jl]at W Q;obtain⟨_,n0,ah,c,a0⟩:=ae;obtain⟨v,ps,ag,u⟩:=((c.alloc (Oc #[.int .u8 0,.int .i64 0,.int .i64 0,.int .i64 0] 95)).alloc (Oc #[.int .u8 t.kind,.int .i64 t.n,.int .i64 t.at'] 88)).lookup (t:=183) (key:= .int .i64 t.n) (kl:= .int .i64 t.n) lawI underlying183 (TL _) Kr (keyOf_int_mk underlying3 (by have:=a6.2.1;exact wf64 (by omega) (by omega)));have d:=a0 t.n;unfold KAt at d;rw[if_neg p]at d;obtain⟨J,S,ak,al,a5,a3,a1⟩:=d;rw[a5]at u;obtain rfl:v=clos J S:=by
  rcases closR_inv u with⟨_,n⟩|⟨ai,b,rfl,n⟩
  ·cases n
  ·obtain⟨rfl,rfl⟩:=Sc n;rfl
 have a2:yP (f.drop a)=xq (yt t.n) (f.drop (a+1)):=by rw[Hn (Bzq l) r,if_neg p]
 have V:=ke f k i g j a true t l _ o.q;have M:=yi f k i g j a 2 (by omega) (by omega) _ o.q;have a7:qX 2 (f.drop a)= .ok (t.n,f.drop (a+1)):=by rw[A5 l,if_pos r,if_neg (by decide)]
 obtain⟨ar,s⟩:=xR (f.length-a);obtain⟨au,E⟩:=xR (g+a*3);rw[s,E]at I;rw[E]at t0 Z t2;rw[s]at a9;have K1:=hiD o;have X:=hiD V;have y:=hiD M;have a4:=hiD a2;have a8:=hiD a7;have D:=hiD (And.intro a3 a1);generalize ac:yt t.n=K at*;obtain⟨kk,kn,kx⟩:=t;simp only at*;subst r;clear z o V M a2 a7 h l s E a0 a5 u p a6 T a3 a1 ac;have ao:=neqF1 J S;go_enter func110,ntmps110;go_wp2_with fail;refine X.out.mono ?_;rintro e w1 ⟨hw,n⟩;subst hw;obtain rfl:e=Rt (.tuple #[]):=by simpa using n
 generalize (w.alloc (Oc #[.int .u8 0,.int .i64 0,.int .i64 0,.int .i64 0] 95)).alloc (Oc #[.int .u8 2,.int .i64 kn,.int .i64 kx] 88)=W1 at*;clear X;go_wp2_with fail;refine y.out.mono ?_;rintro e w2 h2;obtain⟨rfl,g2,ab,ap,aa,N⟩:=h2.ok a8.out;have C:=K1.out.move N g2;have O:=MZ f k i g j ab w2 N K (K==5||K==6) rfl _ rfl J S 5 3 (D.out.1.grown C.g (fun e=>by have:=Option.some.inj e;omega)) (D.out.2.grown C.g (fun e=>by have:=Option.some.inj e;omega)) (by omega);rw[aa]at O;have m:=hiD O;have H:=hiD C;clear C O g2 N h2 y I t0 Z t2 W Q ag c;generalize w.1.size=rb at*;go_wp2_with fail;rcases r3:xq K (f.drop (a+1))with av|⟨af,l3⟩
 ·rw[r3]at m;refine m.out.mono ?_;rintro e w3 A;obtain⟨rfl,ad⟩:=A.err rfl;have hr:=RQ.bad (k:=f) (d:=i) (j:=g) (e:=j) (c:=a) (f:=fun t:Tm=>.agg #[.int .u8 t.kind,.int .i64 t.n,.int .i64 t.s,.int .i64 t.r]) (H.out.g.trans ad) (a4.out.trans r3);unfold qF at hr⊢;exact⟨rfl,hr⟩
 rw[r3]at m;refine m.out.mono ?_;rintro e w3 A;obtain⟨rfl,g3,aj,aq,rfl,U⟩:=A.ok rfl;have q:=H.out.move U g3;have zf:=q.r.free;have zl:=q.r.size;obtain⟨z0,z1,z2,z3,-⟩:=q.r.g4;obtain⟨F,L,x,P⟩:=af;have R:=hiD ((((q.setR 0 (.int .u8 F)).setR 1 (.int .i64 L)).setR 2 (.int .i64 x)).setR 3 (.int .i64 P));have HP:=hiD (a4.out.trans r3);clear q g3 U A r3 m;go_wp2_with fail;refine bodyPost_ret (xB rfl _ _ rb 95 #[.int .u8 F,.int .i64 L,.int .i64 x,.int .i64 P] _ rfl R.out.r underlying95 rfl rfl) rfl ?_;exact RQ.good (i:=fun t:Tm=>.agg #[.int .u8 t.kind,.int .i64 t.n,.int .i64 t.s,.int .i64 t.r]) (v:=⟨F,L,x,P⟩) R.out.g HP.out (by omega) R.out.q
theorem Hl (d:List Tok) (e f j g c:Nat) (w:World) (h:Q9 d e f j g c w) (B i:Nat) (l:Gp w B i) (m:e<B):
  Cs 110 #[Vp e 0,.map (some i)] w (RQ d e f j g c (yP (d.drop c)) w fun t=>.agg #[Vu t.kind,Vi t.n,Vi t.s,Vi t.r]):=by
 have k:d[c]?=some (d[c]'h.lt):=jB h.lt;by_cases a:(d[c]'h.lt).kind=2
 ·by_cases b:yt (d[c]'h.lt).n=0
  ·exact Gu d e f j g c _ k a b w h B i l
  ·exact Gv d e f j g c _ k a b w h B i l m
 ·exact Hk d e f j g c _ k a w h i
end
section
attribute [local go_sem] Oper.semAt_some
theorem Dk {P:Program} {Q:Exit->Act->World->Prop} {a:Act} {w:World} {c f:Code} (l:Nat) (J:Act->World->Prop) (μ:Act->World->Nat) (i:findLabel c l=some (Code.skip.seq f))
  (g:∀a w,J a w->f.wp P (Exit.jump l (fun b w'=>J b w'∧μ b w'<μ a w) Q) a w)
  (first:(∀a w,J a w->f.wp P (Exit.jump l J Q) a w)->c.wp P (Exit.jump l J Q) a w):(Code.scope c).wp P Q a w:=by
 refine wp_scope_jumps l J μ i (first fun a w h=>Code.wp_mono (fun e b w' d=>?_) (g a w h)) fun a w h=>wp_seq (wp_skip (g a w h));cases e<;>first|exact d|exact⟨d.1,d.2.1⟩
theorem Ka {l:Nat} {J:Act->World->Prop} {Q:Exit->Act->World->Prop} {a:Act} {w:World} (h:Q .ret a w):Exit.jump l J Q .ret a w:=h
structure C9 (w:World) (ts:List Tok) (pb blk off cap cb:Nat) (v:Value) (cs:List Cm) (c:List Value) (at0:Nat) (W:World):Prop where
 k:K9 w ts pb blk off cap 97 cb c.toArray at0 W
 row:W.ownsRow (cb+1) 97 9 v cs.length (cs.flatMap cmV)
section
variable {w W W' : World} {ts : List Tok} {pb blk off cap cb at0 at1 : Nat} {v v' : Value} {cs : List Cm} {c : List Value}
theorem C9.move (h:C9 w ts pb blk off cap cb v cs c at0 W) (d:Q9 ts pb blk off cap at1 W') (a:W.grownBy W' (some pb)):C9 w ts pb blk off cap cb v cs c at1 W':=
 ⟨h.k.move d a,h.row.kept a (.inr (yG h.row (by have:=h.k.n1;have:=h.k.n2;omega)).symm)⟩
theorem C9.set (h:C9 w ts pb blk off cap cb v cs c at0 W) (i:Nat) (x:Value):C9 w ts pb blk off cap cb v cs (c.set i x) at0 (W.setCell ⟨cb,i,none⟩ x):=by
 have:=h.k.setR i x;rw[show c.toArray.setIfInBounds i x=(c.set i x).toArray by simp]at this;exact⟨this,h.row.kept (jh W cb i x) (.inr (yG h.row (Nat.lt_succ_self _)).symm)⟩
theorem C9.alloc (h:C9 w ts pb blk off cap cb v cs c at0 W) (o:Obj):C9 w ts pb blk off cap cb v cs c at0 (W.alloc o):=h.move (h.k.q.alloc o) (World.grownBy_alloc _ _ _)
theorem C9.app {x:Cm} (h:C9 w ts pb blk off cap cb v cs (cmV x) at0 W) (c:W.grownBy W' v.ownBlock) (d:W'.ownsRow (cb+1) 97 9 v' (cs.length+1) (cs.flatMap cmV++cmV x)):C9 w ts pb blk off cap cb v' (cs++[x]) (cmV x) at0 W':=by
 have b:=h.k.n1;have a:=h.k.n2;refine⟨⟨h.k.q.grown c (yG h.row (by omega)) (yG h.row (by omega)),h.k.r.grown c (yG h.row (by omega)),h.k.g.andThen c (fun j e=>.inl (jS (by omega) (h.row.lt j e).1)),b,a⟩,?_⟩;rw[jZ,dH,List.flatMap_singleton];exact d
end
def RC (d:List Tok) (c g j i f:Nat) (r:Res (List Cm)) (w:World) (e:Ending) (w':World):Prop:=
 w.grownBy w' (some c)∧match r with
  |.ok (cs,l)=>∃v a,e=Rt v∧f<=a∧d.drop a=l∧Q9 d c g j i a w'∧w'.ownsRow w.1.size 97 9 v cs.length (cs.flatMap cmV)
  |.error p=>e=qF p
theorem RC.bad {j:List Tok} {a d i e c:Nat} {r:Res (List Cm)} {w w':World} {p:Int} (f:w.grownBy w' (some a)) (g:r= .error p):RC j a d i e c r w (qF p) w':=⟨f,by subst g;rfl⟩
theorem RC.good {e:List Tok} {d g j i f a:Nat} {r:Res (List Cm)} {w w':World} {c:List Cm} {v:Value} (k:w.grownBy w' (some d)) (o:r= .ok (c,e.drop a)) (l:f<=a) (n:Q9 e d g j i a w')
  (m:w'.ownsRow w.1.size 97 9 v c.length (c.flatMap cmV)):RC e d g j i f r w (.returned v) w':=⟨k,by subst o;exact⟨v,a,rfl,l,rfl,n,m⟩⟩
def CL (w:World) (i:List Tok) (e n q o j:Nat) (a:Act) (wr:World):Prop:=∃(f:World) (m k:Nat) (v:Value) (g:List Cm) (c:Cm) (d:Nat),
 w.grownBy f (some e)∧Gp f w.1.size m∧e<w.1.size∧C9 f i e n q o k v g (cmV c) d wr∧j<=d∧g.length<=d∧Hid (pCs (i.drop j)=qm (pCs (i.drop d)) fun p l=>.ok (g++p,l))∧
 ∃u1 u5 u6 u7 u8 u9 u10 u11 u12 u13 u14 u15 u16 u17 u18 u19 u20 u21 u22 u23 u24 u25 u26 r:Value,
  a={tmps:=#[Vp e 0,u1,v,.map (some m),Vp k 0,u5,u6,u7,u8,u9,u10,u11,u12,u13,u14,u15,u16,u17,u18,u19,u20,u21,u22,u23,u24,u25,u26,r],defers:=[]}
def QL (a:Nat) (wr:World):Nat:=match wr.cell? ⟨a,0,none⟩with
 |some (.slice _ n _)=>n
 |_=>0
theorem Q9.left {d:List Tok} {c e g f a:Nat} {w:World} (h:Q9 d c e g f a w):QL c w=d.length-a:=by
 have i:Cq w c 0 (Vs e (g+a*3) (d.length-a) (f-a)):=h.hold.cell 0;unfold QL;rw[i]
theorem Ui {i:List Tok} {n j m k g:Nat} {w:World} (h:Q9 i n j m k g w) {f:Int} {l:List Tok} (e:qX 4 (i.drop g)= .ok (f,l)):0<=f∧f<7:=by
 obtain⟨t,c,a,b⟩:=vr (by decide) e;have:=h.ok t (List.mem_of_mem_drop (by rw[c];exact List.mem_cons_self));subst b;have d:=this.2.2.2.1 a;have:=this.2.1;omega
theorem and_at {c:List Tok} {a:Nat} {t:Tok} (d:c[a]?=some t):isS 38 (c.drop a)=decide (anyOf [38] t≠0):=by
 rw[Dd,Cb d];cases h:((t.kind==5)&&(t.n==38))
 ·have:((t.kind==5)&&(t.n==((38:UInt8).toNat:Int)))=false:=h;rw[this];rfl
 ·have:((t.kind==5)&&(t.n==((38:UInt8).toNat:Int)))=true:=h;rw[this];rfl
theorem O8 (a:List Tok) (n h l j s:Nat) (w:World) (aw:Q9 a n h l j s w):
  Cs 61 #[Vp n 0] w (RC a n h l j s (pCs (a.drop s)) w):=by
 obtain⟨i0,hi,ba,bb,bc⟩:=info_parts U1;have a5:=hiD aw;have HK:=hiD (M3 w);clear aw;go_enter func61,ntmps61;go_wp2_with fail;refine Dk 0 (CL w a n h l j s) (fun _ wr=>QL n wr) rfl ?_ ?_
 ·rintro a6 wr ⟨A,Z,b,v,O,c,a2,ax,o,a3,N,b7,b5,HP,u1,u5,u6,u7,u8,u9,bn,bo,bp,bq,br,bs,bt,bu,bv,bw,bx,bz,b',c0,c5,c6,c8,ca,rfl⟩;have bg:=N.k.q.len;have bh:=N.k.q.lt;have HM:=hiD N.k.q.left;have a1:=hiD o;have an:∀am,some n=some am->am<w.1.size:=fun am e=>by cases e;exact a3
  have c1:=Hl a n h l j a2 wr N.k.q w.1.size Z (o.kept N.k.g an) a3;have C1:=hiD c1;have HC:=hiD N;have f:=HP.out;rw[Lw (a.drop a2)]at f;unfold pCmp at f;have ad:=hiD f;have i:=hiD ax;have b1:=hiD an;clear c1 N o ax a5 HK f HP an;obtain⟨co,⟨lk,ln,ls,lr⟩,⟨rk,rn,rs,rr⟩⟩:=c;go_wp2_with fail;rcases r1:yP (a.drop a2)with p|⟨⟨y,z,C,B⟩,l1⟩
  ·refine C1.out.mono ?_;rintro e K Q;obtain⟨rfl,g⟩:=Q.err r1;have x:=RC.bad (j:=a) (d:=h) (i:=l) (e:=j) (c:=s) ((i.out.trans HC.out.k.g).trans g) (ad.out.trans (by rw[r1];rfl));unfold qF at x⊢;exact⟨rfl,x⟩
  have aj:=ad.out;simp only[r1,qr]at aj;refine C1.out.mono ?_;rintro e K Q;obtain⟨rfl,P,al,aa,rfl,q1⟩:=Q.ok r1;have L:=HC.out.move q1 P;have z1:Cq K b 1 (Vu lk):=L.k.r.cell 1;have z2:Cq K b 2 (Vi ln):=L.k.r.cell 2;have z3:Cq K b 3 (Vi ls):=L.k.r.cell 3;have z4:Cq K b 4 (Vi lr):=L.k.r.cell 4;have zf:=L.k.r.free;have zl:=L.k.r.size;have k2:C9 A a n h l j b v O [Vu co,Vu y,Vi z,Vi C,Vi B,Vu rk,Vi rn,Vi rs,Vi rr] al
    ((((K.setCell (Ad b 1) (Vu y)).setCell (Ad b 2) (Vi z)).setCell (Ad b 3) (Vi C)).setCell (Ad b 4) (Vi B)):=(((L.set 1 _).set 2 _).set 3 _).set 4 _
  have S:=hiD k2;have ah:=hiD aj;have au:=hiD (jS b7 aa);have aq:=hiD (jS b5 aa);have E1:=hiD (Fw _ _ _ r1);clear L k2 aj P q1 Q r1 C1 ad aa;go_upto_region 4 with(fail);generalize (((K.setCell (Ad b 1) (Vu y)).setCell (Ad b 2) (Vi z)).setCell (Ad b 3) (Vi C)).setCell (Ad b 4) (Vi B)=w2 at*;clear z1 z2 z3 z4 zf zl;have c2:=yi a n h l j al 4 (by omega) (by omega) _ S.out.k.q;have C2:=hiD c2;clear c2;go_wp2_with fail;rcases r2:qX 4 (a.drop al)with p|⟨u,l2⟩
  ·refine C2.out.mono ?_;rintro e w3 R;obtain⟨rfl,g⟩:=R.err r2;have x:=RC.bad (j:=a) (d:=h) (i:=l) (e:=j) (c:=s) ((i.out.trans S.out.k.g).trans g) (ah.out.trans (by rw[r2];rfl));unfold qF at x⊢;exact⟨rfl,x⟩
  have bk:=Ui S.out.k.q r2;have hw:IntKind.u8.wrap u=u:=IntWalk.u8_in _ (by omega);have ai:=ah.out;simp only[r2,qr]at ai;refine C2.out.mono ?_;rintro e w3 R;obtain⟨rfl,g3,af,a4,rfl,q3⟩:=R.ok r2;have X:=S.out.move q3 g3;have z0:Cq w3 b 0 (Vu co):=X.k.r.cell 0;have zf:=X.k.r.free;have zl:=X.k.r.size;have k4:C9 A a n h l j b v O [Vu u,Vu y,Vi z,Vi C,Vi B,Vu rk,Vi rn,Vi rs,Vi rr] af
    (w3.setCell (Ad b 0) (Vu u)):=X.set 0 _
  have T:=hiD k4;have ab:=hiD ai;have av:=hiD (jS au.out a4);have ar:=hiD (jS aq.out a4);have A3:=hiD a4;clear X k4 ai g3 q3 R r2 C2 ah a4 au aq S;go_upto_region 5 with(fail);generalize w3.setCell (Ad b 0) (Vu u)=w4 at*;clear z0 zf zl hw;have c3:=Hl a n h l j af w4 T.out.k.q w.1.size Z (a1.out.kept T.out.k.g b1.out) a3;have C3:=hiD c3;clear c3;go_wp2_with fail;rcases r3:yP (a.drop af)with p|⟨⟨D,E,H,F⟩,l3⟩
  ·refine C3.out.mono ?_;rintro e M W;obtain⟨rfl,g⟩:=W.err r3;have x:=RC.bad (j:=a) (d:=h) (i:=l) (e:=j) (c:=s) ((i.out.trans T.out.k.g).trans g) (ab.out.trans (by rw[r3];rfl));unfold qF at x⊢;exact⟨rfl,x⟩
  have ag:=ab.out;simp only[r3,qr]at ag;refine C3.out.mono ?_;rintro e M W;obtain⟨rfl,g5,d,ay,rfl,q5⟩:=W.ok r3;have J:=T.out.move q5 g5;have z5:Cq M b 5 (Vu rk):=J.k.r.cell 5;have z6:Cq M b 6 (Vi rn):=J.k.r.cell 6;have z7:Cq M b 7 (Vi rs):=J.k.r.cell 7;have z8:Cq M b 8 (Vi rr):=J.k.r.cell 8;have zf:=J.k.r.free;have zl:=J.k.r.size;have k6:C9 A a n h l j b v O (cmV ⟨u,⟨y,z,C,B⟩,⟨D,E,H,F⟩⟩) d
    ((((M.setCell (Ad b 5) (Vu D)).setCell (Ad b 6) (Vi E)).setCell (Ad b 7) (Vi H)).setCell (Ad b 8) (Vi F)):=(((J.set 5 _).set 6 _).set 7 _).set 8 _
  have k:=hiD k6;have ao:=hiD ag;have E3:=hiD (Fw _ _ _ r3);have b3:=hiD (jS av.out ay);have b2:=hiD (jS ar.out ay);clear J k6 ag g5 q5 W r3 C3 ab av ar T;go_upto_region 6 with(fail);generalize (((M.setCell (Ad b 5) (Vu D)).setCell (Ad b 6) (Vi E)).setCell (Ad b 7) (Vi H)).setCell (Ad b 8) (Vi F)=r at*;clear z5 z6 z7 z8 zf zl;have y0:Cq r b 0 (Vu u):=k.out.k.r.cell 0;have y1:Cq r b 1 (Vu y):=k.out.k.r.cell 1;have y2:Cq r b 2 (Vi z):=k.out.k.r.cell 2;have y3:Cq r b 3 (Vi C):=k.out.k.r.cell 3;have y4:Cq r b 4 (Vi B):=k.out.k.r.cell 4;have y5:Cq r b 5 (Vu D):=k.out.k.r.cell 5;have y6:Cq r b 6 (Vi E):=k.out.k.r.cell 6;have y7:Cq r b 7 (Vi H):=k.out.k.r.cell 7;have y8:Cq r b 8 (Vi F):=k.out.k.r.cell 8;have b6:=k.out.k.q.lt;have bf:=b2.out;have b8:b+1<=(r.alloc (Oc #[Vu u,Vu y,Vi z,Vi C,Vi B,Vu D,Vi E,Vi H,Vi F] 97)).1.size:=by have:=k.out.k.r.size;simp;omega
  go_wp2_with (at_builtin;refine wpList_append_own _ rfl (.tmp 18) (.tmp 20) 61 rfl (b+1) 97 i0 (.agg #[Vu 0,Vu 0,Vi 0,Vi 0,Vi 0,Vu 0,Vi 0,Vi 0,Vi 0]) 9 72 underlying61 hi ba bb bc rfl (by decide) v O.length (O.flatMap cmV) rfl (k.out.alloc _).row (Ad r.1.size 0) 1 1 (cmV ⟨u,⟨y,z,C,B⟩,⟨D,E,H,F⟩⟩) rfl rfl ?c1 ?c2 ?c3 ?c4 b8 ?_);case c1=>exact A8 r (cmV ⟨u,⟨y,z,C,B⟩,⟨D,E,H,F⟩⟩) 97
  case c2=>
   intro bm hu;simp only[cmV,jI,jH,or_false]at hu;rcases hu with rfl|rfl|rfl|rfl|rfl|rfl|rfl|rfl|rfl<;>rfl
  case c3=>unfold maxLen;omega
  case c4=>omega
  intro v' w7 a' b0 _;have k7:=(k.out.alloc (Oc #[Vu u,Vu y,Vi z,Vi C,Vi B,Vu D,Vi E,Vi H,Vi F] 97)).app b0 a';obtain⟨t,ht⟩:∃t,a[d]?=some t:=⟨_,jB b6⟩;have c7:=vG a n h l j d {data:=#[38]} (by decide) (by decide) t ht _ k7.k.q;replace c7:Cs 34 #[Vp n 0,.string {data:=#[38]}] w7 fun e w'=>e=Rt (Vu (anyOf [38] t))∧w7.grownBy w' (some n)∧Q9 a n h l j (if anyOf [38] t=0 then d else d+1) w':=c7;have ae:=ao.out;rw[and_at ht]at ae;have C7:=hiD c7;have K7:=hiD k7;have ap:=hiD ae;clear c7 k7 ae a' b0 ht y0 y1 y2 y3 y4 y5 y6 y7 y8 ao k;generalize anyOf [38] t=c at*;go_wp2_with fail;refine C7.out.mono ?_;rintro e w8 ⟨rfl,g8,q8⟩;have I:=K7.out.move q8 g8;have q:=ap.out;have bd:=b3.out;clear g8 q8 C7 ap K7;by_cases V:c=0
  ·subst V;simp only[if_true,ne_eq,not_true_eq_false,decide_false,ji,if_false]at I q;have c9:=j9 a n h l j d 93 (by decide) {data:=#[93]} rfl _ I.k.q;have a9:=hiD c9;have U:=hiD I;have a8:=hiD q;clear c9 I q;go_wp2_with fail;rcases r9:zH 93 (a.drop d)with p|⟨v9,l9⟩
   ·refine a9.out.mono ?_;rintro e w9 h9;obtain⟨rfl,g⟩:=h9.err r9;have x:=RC.bad (j:=a) (d:=h) (i:=l) (e:=j) (c:=s) ((i.out.trans U.out.k.g).trans g) (a8.out.trans (by rw[r9];rfl));unfold qF at x⊢;exact⟨rfl,x⟩
   have m:=a8.out;simp only[r9,qr]at m;refine a9.out.mono ?_;rintro e w9 h9;obtain⟨rfl,g9,be,bl,rfl,q9⟩:=h9.ok r9;have k9:=U.out.move q9 g9;have a0:=hiD k9;have ak:=hiD m;clear k9 m g9 q9 h9 r9 a9 a8 U;go_wp2_with fail;refine Ka ?_;go_ret;have:=i.out.size;have:=a0.out.k.n2;exact RC.good (i.out.trans a0.out.k.g) ak.out (by omega) a0.out.k.q (a0.out.row.mono (by omega))
  ·have e1:(c !=0)=true:=by simpa using V
   rw[if_neg V]at I;rw[show decide (c≠0)=true by simpa using V,if_pos rfl,List.tail_drop]at q;have m:pCs (a.drop s)=qm (pCs (a.drop (d+1))) fun ac a7=>.ok ((O++[⟨u,⟨y,z,C,B⟩,⟨D,E,H,F⟩⟩])++ac,a7):=by
    rw[q];cases pCs (a.drop (d+1))with
    |error p=>rfl
    |ok a6=>obtain⟨a6,a7⟩:=a6;simp[qm]
   have U:=hiD I;have ak:=hiD m;have hm:=I.k.q.left;have bi:=I.k.q.lt;have bj:a2<=d:=by
    have Q:=E1.out;have R:=E3.out;have W:=A3.out;simp only[jj]at Q R;omega
   clear I q m V;go_wp2_with fail;apply wp_goto;refine⟨rfl,⟨A,Z,b,v',_,_,_,i.out,a1.out,a3,U.out,by omega,by simp;omega,ak,_,_,_,_,_,_,_,_,_,_,_,_,_,_,_,_,_,_,_,_,_,_,_,_,rfl⟩,?_⟩;rw[hm,HM.out];omega
 ·intro az;have b4:=hiD az;clear az;go_wp2_with fail;refine HK.out.mono ?_;rintro e A ⟨Z,rfl,P,o⟩;have b9:=a5.out.pb_lt;have q1:=a5.out.grown P (by simp) (by simp);have k0:C9 A a n h l j A.1.size Vn [] (cmV ⟨0,⟨0,0,0,0⟩,⟨0,0,0,0⟩⟩) s (A.alloc (Oc #[Vu 0,Vu 0,Vi 0,Vi 0,Vi 0,Vu 0,Vi 0,Vi 0,Vi 0] 97)):=
   ⟨K9.start q1 97 _,js _ _ _ _⟩
  have K0:=hiD k0;have f:pCs (a.drop s)=qm (pCs (a.drop s)) fun ac a7=>.ok ([]++ac,a7):=by
   cases pCs (a.drop s)with
   |error p=>rfl
   |ok a6=>rfl
  have HP:=hiD f;have HG:=hiD (P.but (some n));have a1:=hiD o;clear k0 q1 f P o HK a5;go_wp2_with fail;refine wp_label ?_;rename_i hK;refine hK _ _ (b4.out _ _ ⟨A,Z,A.1.size,_,[],_,s,HG.out,a1.out,b9.1,K0.out,Nat.le_refl _,jg _,HP,_,_,_,_,_,_,_,_,_,_,_,_,_,_,_,_,_,_,_,_,_,_,_,_,rfl⟩)
def RS (d:List Tok) (c g j i f:Nat) (r:Res St) (w:World) (e:Ending) (w':World):Prop:=
 w.grownBy w' (some c)∧match r with
  |.ok (s,l)=>∃v a,e=Rt (.agg (stV s v).toArray)∧f<=a∧d.drop a=l∧Q9 d c g j i a w'∧w'.ownsRow w.1.size 97 9 v s.6.length (s.6.flatMap cmV)
  |.error p=>e=qF p
theorem RS.bad {j:List Tok} {a d i e c:Nat} {r:Res St} {w w':World} {p:Int} (f:w.grownBy w' (some a)) (g:r= .error p):RS j a d i e c r w (qF p) w':=⟨f,by subst g;rfl⟩
theorem RS.good {d:List Tok} {c f i g e a:Nat} {r:Res St} {w w':World} {s:St} {v:Value} (j:w.grownBy w' (some c)) (n:r= .ok (s,d.drop a)) (k:e<=a) (m:Q9 d c f i g a w')
  (l:w'.ownsRow w.1.size 97 9 v s.6.length (s.6.flatMap cmV)):RS d c f i g e r w (.returned (.agg (stV s v).toArray)) w':=⟨j,by subst n;exact⟨v,a,rfl,k,rfl,m,l⟩⟩
theorem RC.ok {m:List Tok} {k o q p n:Nat} {r:Res (List Cm)} {w w':World} {e:Ending} {j:List Cm} {l:List Tok} (h:RC m k o q p n r w e w') (s:r= .ok (j,l)):
  ∃v a,e=Rt v∧w.grownBy w' (some k)∧n<=a∧m.drop a=l∧Q9 m k o q p a w'∧w'.ownsRow w.1.size 97 9 v j.length (j.flatMap cmV):=by
 subst s;obtain⟨g,v,a,d,b,f,c,i⟩:=h;exact⟨v,a,d,g,b,f,c,i⟩
theorem RC.err {j:List Tok} {a d i f c:Nat} {r:Res (List Cm)} {w w':World} {e:Ending} {p:Int} (h:RC j a d i f c r w e w') (g:r= .error p):e=qF p∧w.grownBy w' (some a):=by
 subst g;exact⟨h.2,h.1⟩
theorem LK {d:List Tok} {a:Nat} {t:Tok} (f:d[a]?=some t) (c:UInt8) (e:c.toNat≠0):isS c.toNat (d.drop a)=(anyOf [c] t !=0):=by
 rw[Dd,Cb f];cases h:((t.kind==5)&&(t.n==(c.toNat:Int)))
 ·rfl
 ·have:((c.toNat:Int)!=0)=true:=by simpa using e
  rw[if_pos rfl,this]
theorem SR {c:List Tok} {a:Nat} {t:Tok} (d:c[a]?=some t) (i:Int):ve i (c.drop a)=if t.kind=2∧t.n=i then .ok ((),c.drop (a+1))else .error t.at':=by
 rw[Bzq d];rfl
theorem Se {d:List Tok} {c:Nat} {t:Tok} (f:d[c]?=some t) (i:Int):xp i false (d.drop c)=vB i false (anyOf [33] t !=0) (d.drop (if anyOf [33] t=0 then c else c+1)):=by
 have h:=LK f 33 (by decide);rw[EC,show (33:Int)=((33:UInt8).toNat:Int)from rfl,h];by_cases e:anyOf [33] t=0
 ·rw[e];rfl
 ·have a:(anyOf [33] t !=0)=true:=by simpa using e
  rw[a,if_pos rfl,if_neg e,List.tail_drop]
theorem Pa {d:List Tok} {c:Nat} {t:Tok} (e:d[c]?=some t):kD (d.drop c)=if (anyOf [123] t !=0)=true then qm (qX 1 (d.drop (c+1))) fun a l=>qm (zH 44 l) fun _ l=>qm (qX 1 l) fun b l=>qm (zH 125 l) fun _ l=>.ok ((a,b),l)else .ok ((1,1),d.drop c):=by
 have h:=LK e 123 (by decide);unfold kD;rw[show (123:Int)=((123:UInt8).toNat:Int)from rfl,h,List.tail_drop]
theorem Sj {c:List Tok} {a:Nat} {t:Tok} (d:c[a]?=some t):Aq (c.drop a)=if (anyOf [91] t !=0)=true then pCs (c.drop (a+1))else .ok ([],c.drop a):=by
 have h:=LK d 91 (by decide);rw[ED,show (91:Int)=((91:UInt8).toNat:Int)from rfl,h,List.tail_drop]
theorem O7 (a:List Tok) (x o n p c:Nat) (i:Int) (w:World) (h:Q9 a x o n p c w):
  Cs 33 #[Vp x 0,Vi i] w (RS a x o n p c (xp i false (a.drop c)) w):=by
 have k0:=K9.start h 63 #[Vb false,Vi 0,Vi 0,Vi 0,Vb false,Vn];obtain⟨t,J⟩:∃t,a[c]?=some t:=⟨_,jB h.lt⟩;have c1:=vG a x o n p c {data:=#[33]} (by decide) (by decide) t J _ k0.q;replace c1:Cs 34 #[Vp x 0,.string {data:=#[33]}] (w.alloc (Oc #[Vb false,Vi 0,Vi 0,Vi 0,Vb false,Vn] 63)) fun e w'=>e=Rt (Vu (anyOf [33] t))∧_∧Q9 a x o n p (if anyOf [33] t=0 then c else c+1) w':=c1;have ai:=Se J i;have bh:c<=(if anyOf [33] t=0 then c else c+1):=by split<;>omega
 generalize (if anyOf [33] t=0 then c else c+1)=b8 at*;generalize anyOf [33] t=c6 at*;obtain⟨D,bi⟩:=xR (c6 !=0);rw[bi]at ai;unfold vB at ai;have C1:=hiD c1;have K0:=hiD k0;have ar:=hiD ai;clear c1 k0 ai h J;go_enter func33,ntmps33;go_wp2_with fail;refine C1.out.mono ?_;rintro e w1 ⟨rfl,g1,q1⟩;have k1:=K0.out.move q1 g1;obtain⟨z0,M,H⟩:=k1.r.g1;have K1:=hiD (k1.setR 0 (Vb D));clear k1 g1 q1 C1 K0;go_upto_region 2 with(fail);generalize w1.setCell (Ad w.1.size 0) (Vb D)=w2 at*;generalize w.1.size=K at*;clear z0 M H bi;have c2:=yi a x o n p b8 1 (by omega) (by omega) _ K1.out.q;have C2:=hiD c2;clear c2;go_wp2_with fail;rcases r2:qX 1 (a.drop b8)with ag|⟨k,l2⟩
 ·refine C2.out.mono ?_;rintro e w3 h3;obtain⟨rfl,g⟩:=h3.err r2;have F:=RS.bad (j:=a) (d:=o) (i:=n) (e:=p) (c:=c) (K1.out.g.trans g) (ar.out.trans (by rw[r2];rfl));unfold qF at F⊢;exact⟨rfl,F⟩
 have a':=ar.out;simp only[r2,qr]at a';refine C2.out.mono ?_;rintro e w3 h3;obtain⟨rfl,g3,m,bj,rfl,q3⟩:=h3.ok r2;have k3:=K1.out.move q3 g3;obtain⟨-,z1,M,H⟩:=k3.r.g2;have S:=hiD (k3.setR 1 (Vi k));have b6:=hiD (jS bh bj);have ad:=hiD a';clear k3 a' g3 q3 h3 r2 C2 ar bj bh K1;go_upto_region 3 with(fail);generalize w3.setCell (Ad K 1) (Vi k)=w4 at*;clear z1 M H;obtain⟨t,J⟩:∃t,a[m]?=some t:=⟨_,jB S.out.q.lt⟩;have c4:Cq w4 x 0 (Vs o (n+m*3) (a.length-m) (p-m)):=S.out.q.hold.cell 0;obtain⟨t0,t1,t2⟩:=S.out.q.tok J;have c8:0<a.length-m:=by have:=S.out.q.lt;omega
 have cm:=fun is=>ke a x o n p m is t J w4 S.out.q;have ct:=yi a x o n p m 2 (by omega) (by omega) _ S.out.q;have C:=SR J i;have A:=A5 J 2;have Z:=hiD cm;have CT:=hiD ct;have ak:=hiD C;have au:=hiD A;obtain⟨kk,W,kx⟩:=t;simp only at t0 t1 t2 ak au Z;obtain⟨cj,hn⟩:=xR (a.length-m);obtain⟨ck,ho⟩:=xR (n+m*3);rw[hn,ho]at c4;rw[ho]at t0 t1 t2;rw[hn]at c8;clear cm ct C A J hn ho;have b9:¬(kk=2∧W=i)->RS a x o n p c (xp i false (a.drop c)) w (qF kx) w4:=fun c9=>by
  have:=ak.out;rw[if_neg c9]at this;exact RS.bad S.out.g (ad.out.trans (by rw[this];rfl))
 have a9:=hiD b9;clear b9;by_cases hk:kk=2;case neg=>
  have e1:(kk==2)=false:=by simpa using hk
  have F:=a9.out (fun h=>hk h.1);go_wp2_with fail;refine(Z.out false).mono ?_;rintro e w5 ⟨rfl,he⟩;obtain rfl:e=qF kx:=by simpa using he
  unfold qF at F⊢;exact⟨rfl,F⟩
 subst hk;by_cases hi:W=i;case neg=>
  have e1:(W==i)=false:=by simpa using hi
  have F:=a9.out (fun h=>hi h.2);clear hi;go_wp2_with fail;refine(Z.out false).mono ?_;rintro e w5 ⟨rfl,he⟩;obtain rfl:e=qF kx:=by simpa using he
  unfold qF at F⊢;exact⟨rfl,F⟩
 subst hi;have C:=ak.out;rw[if_pos ⟨rfl,rfl⟩]at C;have A:=au.out;rw[if_pos rfl,if_neg (by decide)]at A;have ab:=ad.out;simp only[C,qr]at ab;have b4:=hiD ab;have a4:=hiD A;clear C A ab ad ak au a9;go_wp2_with fail;refine(Z.out true).mono ?_;rintro e w5 ⟨rfl,he⟩;obtain rfl:e=Rt (.tuple #[]):=by simpa using he
 clear Z;go_wp2_with fail;refine CT.out.mono ?_;rintro e w6 h6;obtain⟨rfl,g6,q,bk,bg,q6⟩:=h6.ok a4.out;have k6:=S.out.move q6 g6;have ah:=b4.out;rw[<-bg]at ah;obtain⟨t,J⟩:∃t,a[q]?=some t:=⟨_,jB q6.lt⟩;rw[Pa J]at ah;obtain⟨-,-,z2,z3,M,H⟩:=k6.r.g4;have K6:=hiD ((k6.setR 2 (Vi 1)).setR 3 (Vi 1));have a0:=hiD ah;have aw:=hiD (jS b6.out bk);clear k6 ah g6 q6 h6 bg b4 a4 CT S c4 t0 t1 t2 bk b6;go_upto_region 6 with(fail);generalize (w6.setCell (Ad K 2) (Vi 1)).setCell (Ad K 3) (Vi 1)=w7 at*;clear z2 z3 M H;have c7:=vG a x o n p q {data:=#[123]} (by decide) (by decide) t J _ K6.out.q;replace c7:Cs 34 #[Vp x 0,.string {data:=#[123]}] w7 fun e w'=>e=Rt (Vu (anyOf [123] t))∧w7.grownBy w' (some x)∧Q9 a x o n p (if anyOf [123] t=0 then q else q+1) w':=c7;have C7:=hiD c7;clear c7 J;generalize anyOf [123] t=c2 at*
 go_upto_if 39 with(fail)
 refine C7.out.mono ?_;rintro e w8 ⟨rfl,g8,q8⟩;have K8:=hiD (K6.out.move q8 g8);clear g8 q8 C7 K6
 go_upto_if 39 with(fail)
 go_cut [] (fun wc=>∃(y u:Int) (d:Nat),K9 w a x o n p 63 K #[Vb D,Vi k,Vi y,Vi u,Vb false,Vn] d wc∧c<=d∧Hid (xp W false (a.drop c)=qm (Aq (a.drop d)) fun N l4=>.ok (⟨D,k,y,u,false,N⟩,l4)));case first=>
  have L:=a0.out;have V:=K8.out;by_cases P:c2=0
  ·subst P;simp only[if_true]at V;have Q:=hiD (show xp W false (a.drop c)=qm (Aq (a.drop q)) fun N l4=>.ok (⟨D,k,1,1,false,N⟩,l4)from L);have O:=hiD V;clear L V K8 a0;go_wp2_with fail;go_meet;exact⟨1,1,q,O.out,aw.out,Q⟩
  ·have e1:(c2 !=0)=true:=by simpa using P
   rw[if_neg P]at V;rw[if_pos e1]at L;have O:=hiD V;have Q:=hiD L;have T:=yi a x o n p (q+1) 1 (by omega) (by omega) _ V.q;have z:=hiD T;clear T V L K8 a0 P;go_wp2_with fail;rcases r9:qX 1 (a.drop (q+1))with ag|⟨y,l9⟩
   ·refine z.out.mono ?_;rintro e X h9;obtain⟨rfl,g⟩:=h9.err r9;have F:=RS.bad (j:=a) (d:=o) (i:=n) (e:=p) (c:=c) (O.out.g.trans g) (Q.out.trans (by rw[r9];rfl));unfold qF at F⊢;exact⟨rfl,F⟩
   have j:=Q.out;simp only[r9,qr]at j;refine z.out.mono ?_;rintro e X h9;obtain⟨rfl,g9,az,ce,rfl,q9⟩:=h9.ok r9;have E:=O.out.move q9 g9;obtain⟨-,-,z2,M,H⟩:=E.r.g3;have l:=hiD (E.setR 2 (Vi y));have bz:=hiD (show c<=az by have:=aw.out;omega);have B:=hiD j;clear E j g9 q9 h9 r9 z Q O ce;go_upto_region 8 with(fail);generalize X.setCell (Ad K 2) (Vi y)=bp at*;clear z2 M H;have I:=j9 a x o n p az 44 (by decide) {data:=#[44]} rfl _ l.out.q;have r:=hiD I;clear I;go_wp2_with fail;rcases r10:zH 44 (a.drop az)with ag|⟨cl,cc⟩
   ·refine r.out.mono ?_;rintro e cf a1;obtain⟨rfl,g⟩:=a1.err r10;have F:=RS.bad (j:=a) (d:=o) (i:=n) (e:=p) (c:=c) (l.out.g.trans g) (B.out.trans (by rw[r10];rfl));unfold qF at F⊢;exact⟨rfl,F⟩
   have f:=B.out;simp only[r10,qr]at f;refine r.out.mono ?_;rintro e cf a1;obtain⟨rfl,bd,a7,a5,rfl,b2⟩:=a1.ok r10;have aa:=hiD (l.out.move b2 bd);have ba:=yi a x o n p a7 1 (by omega) (by omega) _ b2;have ap:=hiD ba;have bv:=hiD (jS bz.out a5);have b:=hiD f;clear ba f bd b2 a1 r10 r B l a5;go_wp2_with fail;rcases r12:qX 1 (a.drop a7)with ag|⟨u,ch⟩
   ·refine ap.out.mono ?_;rintro e bq aj;obtain⟨rfl,g⟩:=aj.err r12;have F:=RS.bad (j:=a) (d:=o) (i:=n) (e:=p) (c:=c) (aa.out.g.trans g) (b.out.trans (by rw[r12];rfl));unfold qF at F⊢;exact⟨rfl,F⟩
   have ax:=b.out;simp only[r12,qr]at ax;refine ap.out.mono ?_;rintro e bq aj;obtain⟨rfl,be,a6,a8,rfl,bn⟩:=aj.ok r12;have af:=aa.out.move bn be;obtain⟨-,-,-,z3,M,H⟩:=af.r.g4;have am:=hiD (af.setR 3 (Vi u));have bw:=hiD (jS bv.out a8);have ay:=hiD ax;clear af ax be bn aj r12 ap b aa a8;go_upto_region 10 with(fail);generalize bq.setCell (Ad K 3) (Vi u)=co at*;clear z3 M H;have bb:=j9 a x o n p a6 125 (by decide) {data:=#[125]} rfl _ am.out.q;have ac:=hiD bb;clear bb;go_wp2_with fail;rcases r13:zH 125 (a.drop a6)with ag|⟨cn,ci⟩
   ·refine ac.out.mono ?_;rintro e cg an;obtain⟨rfl,g⟩:=an.err r13;have F:=RS.bad (j:=a) (d:=o) (i:=n) (e:=p) (c:=c) (am.out.g.trans g) (ay.out.trans (by rw[r13];rfl));unfold qF at F⊢;exact⟨rfl,F⟩
   have aq:=ay.out;simp only[r13,qr]at aq;refine ac.out.mono ?_;rintro e cg an;obtain⟨rfl,bf,c5,a3,rfl,bo⟩:=an.ok r13;have bt:=hiD (am.out.move bo bf);have bs:=hiD aq;have bx:=hiD (jS bw.out a3);clear bf bo an r13 ac aq ay am a3;go_wp2_with fail;go_meet;exact⟨y,u,c5,bt.out,bx.out,bs⟩
 case rest=>
  obtain⟨y,u,d,k7,bl,b5⟩:=hcut;obtain⟨t,J⟩:∃t,a[d]?=some t:=⟨_,jB k7.q.lt⟩;have b0:=b5.out;rw[Sj J]at b0;have T:=vG a x o n p d {data:=#[91]} (by decide) (by decide) t J _ k7.q;replace T:Cs 34 #[Vp x 0,.string {data:=#[91]}] wc fun e w'=>e=Rt (Vu (anyOf [91] t))∧wc.grownBy w' (some x)∧Q9 a x o n p (if anyOf [91] t=0 then d else d+1) w':=T;have z:=hiD T;have K7:=hiD k7;have b7:=hiD bl;have B:=hiD b0;clear T k7 bl b0 J b5 a0 K8 aw;generalize anyOf [91] t=c3 at*;go_wp2_with fail;refine z.out.mono ?_;rintro e X ⟨rfl,g9,q9⟩;have E:=K7.out.move q9 g9;have j:=B.out;clear g9 q9 z B;by_cases P:c3=0
  ·subst P;simp only[if_true]at E;have f:xp W false (a.drop c)= .ok (⟨D,k,y,u,false,[]⟩,a.drop d):=j;obtain⟨z0,z1,z2,z3,z4,z5,M,H⟩:=E.r.g6;have b:=hiD f;have R:=hiD ((((((E.setR 0 (Vb D)).setR 1 (Vi k)).setR 2 (Vi y)).setR 3 (Vi u)).setR 4 (Vb false)).setR 5 Vn);clear E j f;go_wp2_with fail;refine bodyPost_ret (xB rfl _ _ K 63 #[Vb D,Vi k,Vi y,Vi u,Vb false,Vn] _ rfl R.out.r underlying63 rfl rfl) rfl ?_;exact RS.good (s:=⟨D,k,y,u,false,[]⟩) (v:=Vn) R.out.g b.out b7.out R.out.q (js _ _ _ _)
  ·have e1:(c3 !=0)=true:=by simpa using P
   rw[if_neg P]at E;rw[if_pos e1]at j;have I:=O8 a x o n p (d+1) _ E.q;have r:=hiD I;have l:=hiD E;have b:=hiD j;clear I E j P;go_wp2_with fail;rcases r10:pCs (a.drop (d+1))with ag|⟨N,cc⟩
   ·refine r.out.mono ?_;rintro e bp a2;obtain⟨rfl,g⟩:=a2.err r10;have F:=RS.bad (j:=a) (d:=o) (i:=n) (e:=p) (c:=c) (l.out.g.trans g) (b.out.trans (by rw[r10];rfl));unfold qF at F⊢;exact⟨rfl,F⟩
   have av:=b.out;simp only[r10,qr]at av;refine r.out.mono ?_;rintro e bp a2;obtain⟨v,c0,rfl,bc,cd,rfl,bm,b1⟩:=a2.ok r10;have ae:=l.out.move bm bc;have cb:=l.out.g.size;have ca:K<X.1.size:=l.out.r.size;obtain⟨z0,z1,z2,z3,z4,z5,M,H⟩:=ae.r.g6;have br:=hiD av;have b':=hiD b1;have bu:=hiD (show c<=c0 by have:=b7.out;omega);have R:=hiD (((((((ae.setR 5 v).setR 0 (Vb D)).setR 1 (Vi k)).setR 2 (Vi y)).setR 3 (Vi u)).setR 4 (Vb false)).setR 5 v);obtain⟨ao,vc,rfl,-,-,-,-⟩:=Cg b1;clear ae av bc bm a2 r10 r cd b1;go_wp2_with fail;refine bodyPost_ret (xB rfl _ _ K 63 #[Vb D,Vi k,Vi y,Vi u,Vb false,Sq ao N.length vc] _ rfl R.out.r underlying63 rfl rfl) rfl ?_;refine RS.good (s:=⟨D,k,y,u,false,N⟩) (v:=Sq ao N.length vc) R.out.g br.out bu.out R.out.q ?_;have U:∀(al:World) (i:Nat) (b3:Value),al.ownsRow X.1.size 97 9 (Sq ao N.length vc) N.length (N.flatMap cmV)->(al.setCell (Ad K i) b3).ownsRow X.1.size 97 9 (Sq ao N.length vc) N.length (N.flatMap cmV):=fun al i b3 h=>
    h.kept (jh al K i b3) (.inr (yG h ca).symm)
   exact(U _ _ _ (U _ _ _ (U _ _ _ (U _ _ _ (U _ _ _ (U _ _ _ (U _ _ _ b'.out))))))).mono cb
theorem OH:(prog.info? 63).map (fun i=>(i.zero,i.size,i.bytes))=some (some (.agg #[Vb false,Vi 0,Vi 0,Vi 0,Vb false,Vn]),6,64):=by kernel_rfl
structure V9 (w:World) (ts:List Tok) (pb blk off cap ob:Nat) (L:List (St×Value)) (v:Value) (win:Int) (at0:Nat) (W:World):Prop where
 k:K9 w ts pb blk off cap 25 ob #[v,Vi win] at0 W
 row:W.ownsRow (ob+1) 63 6 v L.length (vQ L)
 cm:∀p∈L,W.ownsRow (ob+1) 97 9 p.2 p.1.6.length (p.1.6.flatMap cmV)
section
variable {w W W' : World} {ts : List Tok} {pb blk off cap ob at0 at1 : Nat} {L : List (St × Value)} {v v' : Value} {win : Int}
theorem V9.move (h:V9 w ts pb blk off cap ob L v win at0 W) (d:Q9 ts pb blk off cap at1 W') (a:W.grownBy W' (some pb)):V9 w ts pb blk off cap ob L v win at1 W':=
 ⟨h.k.move d a,h.row.kept a (.inr (yG h.row (by have:=h.k.n1;have:=h.k.n2;omega)).symm),fun p c=>(h.cm p c).kept a (.inr (yG (h.cm p c) (by have:=h.k.n1;have:=h.k.n2;omega)).symm)⟩
theorem V9.alloc (h:V9 w ts pb blk off cap ob L v win at0 W) (o:Obj):V9 w ts pb blk off cap ob L v win at0 (W.alloc o):=h.move (h.k.q.alloc o) (World.grownBy_alloc _ _ _)
theorem V9.setW (h:V9 w ts pb blk off cap ob L v win at0 W) (x:Int):V9 w ts pb blk off cap ob L v x at0 (W.setCell ⟨ob,1,none⟩ (Vi x)):=
 ⟨h.k.setR 1 _,h.row.kept (jh W ob 1 _) (.inr (yG h.row (Nat.lt_succ_self _)).symm),fun p a=>(h.cm p a).kept (jh W ob 1 _) (.inr (yG (h.cm p a) (Nat.lt_succ_self _)).symm)⟩
theorem V9.app (h:V9 w ts pb blk off cap ob L v win at0 W) {s:St} {u:Value} (m:W.ownsRow (ob+1) 97 9 u s.6.length (s.6.flatMap cmV)) (i:W.grownBy W' v.ownBlock)
  (k:W'.ownsRow (ob+1) 63 6 v' (L.length+1) (vQ L++stV s u)):V9 w ts pb blk off cap ob (L++[(s,u)]) v' win at0 (W'.setCell ⟨ob,0,none⟩ v'):=by
 have f:=h.k.n1;have d:=h.k.n2;have b:∀p∈L++[(s,u)],W.ownsRow (ob+1) 97 9 p.2 p.1.6.length (p.1.6.flatMap cmV):=fun p g=>by
  rcases List.mem_append.1 g with g|g
  ·exact h.cm p g
  ·obtain rfl:=List.mem_singleton.1 g;exact m
 have a:∀p∈L++[(s,u)],W'.ownsRow (ob+1) 97 9 p.2 p.1.6.length (p.1.6.flatMap cmV):=fun p g=>(b p g).kept i (OP (b p g) h.row (by decide));have l:=jh W' ob 0 v';have c:K9 w ts pb blk off cap 25 ob #[v,Vi win] at0 W':=
  ⟨h.k.q.grown i (yG h.row (by omega)) (yG h.row (by omega)),h.k.r.grown i (yG h.row (by omega)),h.k.g.andThen i (fun j e=>.inl (jS (by omega) (h.row.lt j e).1)),f,d⟩
 refine⟨c.setR 0 v',?_,fun p g=>(a p g).kept l (.inr (yG (a p g) (Nat.lt_succ_self _)).symm)⟩;have e:vQ (L++[(s,u)])=vQ L++stV s u:=by simp[vQ]
 rw[e,jZ];exact k.kept l (.inr (yG k (Nat.lt_succ_self _)).symm)
end
def RP (a:Nat) (r:Res Pt) (w:World) (e:Ending) (w':World):Prop:=
 w.grownBy w' (some a)∧match r with
  |.ok (p,_)=>∃v L,e=Rt (.agg #[v,Vi p.2])∧L.map Prod.fst=p.1∧w'.ownsRow w.1.size 63 6 v L.length (vQ L)∧∀q∈L,w'.ownsRow w.1.size 97 9 q.2 q.1.6.length (q.1.6.flatMap cmV)
  |.error p=>e=qF p
theorem RP.bad {a:Nat} {r:Res Pt} {w w':World} {p:Int} (c:w.grownBy w' (some a)) (d:r= .error p):RP a r w (qF p) w':=⟨c,by subst d;rfl⟩
theorem RS.ok {k:List Tok} {j n p o m:Nat} {r:Res St} {w w':World} {e:Ending} {s:St} {l:List Tok} (h:RS k j n p o m r w e w') (q:r= .ok (s,l)):
  ∃v a,e=Rt (.agg #[Vb s.neg,Vi s.kind,Vi s.min,Vi s.max,Vb s.5,v])∧w.grownBy w' (some j)∧m<=a∧k.drop a=l∧Q9 k j n p o a w'∧w'.ownsRow w.1.size 97 9 v s.6.length (s.6.flatMap cmV):=by
 subst q;obtain⟨g,v,a,d,b,f,c,i⟩:=h;exact⟨v,a,d,g,b,f,c,i⟩
theorem RS.err {j:List Tok} {a d i f c:Nat} {r:Res St} {w w':World} {e:Ending} {p:Int} (h:RS j a d i f c r w e w') (g:r= .error p):e=qF p∧w.grownBy w' (some a):=by
 subst g;exact⟨h.2,h.1⟩
theorem Lu (i:Int) (c:Bool) (l:List Tok):xp i c l=qm (xp i false l) fun s l=>.ok (⟨s.neg,s.kind,s.min,s.max,c,s.6⟩,l):=by
 unfold xp;cases qX 1 (if isS 33 l=true then l.tail else l)with
 |error p=>rfl
 |ok a=>
   obtain⟨k,l1⟩:=a;simp only[qr];cases ve i l1 with
   |error p=>rfl
   |ok a=>
     obtain⟨_,l2⟩:=a;simp only[qr];cases kD l2 with
     |error p=>rfl
     |ok a=>
       obtain⟨b,d⟩:=a;simp only[qr];cases Aq d with
       |error p=>rfl
       |ok a=>rfl
theorem My {i:Int} {l a:List Tok} {s:St} (h:xp i false l= .ok (s,a)):s.5=false:=by
 unfold xp at h;obtain⟨_,_,_,h⟩:=qu h;obtain⟨_,_,_,h⟩:=qu h;obtain⟨_,_,_,h⟩:=qu h;obtain⟨_,_,_,h⟩:=qu h;cases h;rfl
theorem seps_at {k:List Tok} {j:Nat} {t:Tok} (l:k[j]?=some t) {β:Type} (f g:List Tok->Res β) (h:Res β):
  (if isS 59 (k.drop j)=true then f (k.drop j).tail else if isS 44 (k.drop j)=true then g (k.drop j).tail else h)=
   if anyOf [59,44] t=0 then h else if (anyOf [59,44] t==44)=true then g (k.drop (j+1))else f (k.drop (j+1)):=by
 rw[Cb l,Cb l,List.tail_drop];unfold anyOf;by_cases a:t.kind=5
 ·by_cases b:t.n=59
  ·rw[if_pos (by simp[a,b]),if_pos (c:=_∧_) ⟨a,59,by simp,by rw[b];rfl⟩,b,if_neg (by decide),if_neg (by decide)]
  ·by_cases e:t.n=44
   ·rw[if_neg (by simp[b]),if_pos (by simp[a,e]),if_pos (c:=_∧_) ⟨a,44,by simp,by rw[e];rfl⟩,e,if_neg (by decide),if_pos (by decide)]
   ·have m:¬(t.kind=5∧∃c∈([59,44]:List UInt8),t.n=c.toNat):=by
     rintro⟨_,c,i,d⟩;simp only[jI,jH,or_false]at i;rcases i with rfl|rfl
     ·exact b d
     ·exact e d
    rw[if_neg (by simp[b]),if_neg (by simp[e]),if_neg m,if_pos rfl]
 ·rw[if_neg (by simp[a]),if_neg (by simp[a]),if_neg (c:=_∧_) (fun h=>a h.1),if_pos rfl]
def PL (w:World) (e:List Tok) (i k n m f g:Nat) (a:Act) (wr:World):Prop:=∃(L:List (St×Value)) (v:Value) (c:Int) (j:Bool) (d:Nat),
 V9 w e i k n m g L v 0 d wr∧f<=d∧L.length<=d∧(c==44)=j∧Hid (pSs 0 false (e.drop f)=qm (pSs L.length j (e.drop d)) fun o l=>.ok (L.map Prod.fst++o,l))∧
 ∃u1 u4 u5 u6 u7 u8 u9 u10 u11 u12 u13 u14 u15 u16 u17 u18 u19 u20 u21 u22 u23 u24 u25 u26 u27 u28 u29 p:Value,a={tmps:=#[Vp i 0,u1,Vp g 0,Vu c,u4,u5,u6,u7,u8,u9,u10,u11,u12,u13,u14,u15,u16,u17,u18,u19,u20,u21,u22,u23,u24,u25,u26,u27,u28,u29,p],defers:=[]}
theorem Ja (c:List Tok) (u E H F D:Nat) (w:World) (ao:Q9 c u E H F D w):
  Cs 14 #[Vp u 0] w (RP u (pPat (c.drop D)) w):=by
 obtain⟨i0,hi,az,a',b0⟩:=info_parts OH;have a7:=hiD ao;have z:=hiD (GC (c.drop D));clear ao;go_enter func14,ntmps14;go_wp2_with fail;refine Dk 0 (PL w c u E H F D w.1.size) (fun _ wr=>QL u wr) rfl ?_ ?_
 ·rintro a wr ⟨L,v,b7,j,a6,K,ax,b9,be,P,u1,u4,u5,u6,u7,u8,u9,bf,bg,bh,bi,bj,bk,bl,bm,bn,bo,bp,bq,br,bs,bt,bu,bv,bw,bx,bz,b',rfl⟩;have bb:=K.k.q.len;have bc:=K.k.q.lt;have HM:=hiD K.k.q.left;have z0:Cq wr w.1.size 0 v:=K.k.r.cell 0;have c1:=O7 c u E H F a6 (L.length:Int) wr K.k.q;have C1:=hiD c1;have o:=P.out;rw[Lv L.length j (c.drop a6),Lu]at o;have a8:=hiD o;have X:=hiD K;obtain⟨g,ai,rfl⟩:=qh K.row;clear c1 K o P a7;obtain⟨x,a4⟩:=xR w.1.size;rw[a4]at z0 X⊢;have al:=hiD a4;clear a4;go_wp2_with fail;rcases r1:xp (L.length:Int) false (c.drop a6)with p|⟨⟨q,k,m,n,b4,h⟩,l1⟩
  ·refine C1.out.mono ?_;rintro e w1 V;obtain⟨rfl,g⟩:=V.err r1;have C:=RP.bad (X.out.k.g.trans g) (z.out.trans (by rw[a8.out,r1];rfl));unfold qF at C⊢;exact⟨rfl,C⟩
  have ay:b4=false:=My r1;subst ay;have ac:=a8.out;simp only[r1,qr]at ac;refine C1.out.mono ?_;rintro e w1 V;obtain⟨ap,b,rfl,g1,aj,rfl,q1,o1⟩:=V.ok r1;obtain⟨y,A,rfl,-,-,-,-⟩:=Cg o1;simp only at o1;have v1:=X.out.move q1 g1;have V1:=hiD v1;have O1:=hiD (o1.mono (show x+1<=wr.1.size from X.out.k.r.size));have an:=hiD ac;have ar:=hiD (jS ax aj);have E1:=hiD (kQ _ _ _ _ _ r1);clear v1 ac g1 q1 V r1 C1 a8 aj o1 z0 X;go_upto_region 4 with(fail);have zz:=Holds.fresh w1 63 #[Vb q,Vi k,Vi m,Vi n,Vb j,Sq y h.length A];have I:=V1.out.alloc (Oc #[Vb q,Vi k,Vi m,Vi n,Vb j,Sq y h.length A] 63);have o2:=O1.out.alloc (Oc #[Vb q,Vi k,Vi m,Vi n,Vb j,Sq y h.length A] 63);generalize w1.alloc (Oc #[Vb q,Vi k,Vi m,Vi n,Vb j,Sq y h.length A] 63)=w2 at*;obtain⟨sb,a1⟩:=xR w1.1.size;rw[a1]at zz⊢;obtain⟨x0,x1,x2,x3,x4,x5,-⟩:=zz.g6;have y0:Cq w2 x 0 (Sq g L.length ai):=I.k.r.cell 0;have aw:=I.k.q.lt;have b8:L.length<=b:=by have:=E1.out;simp only[jj]at this;omega
  have Q:=hiD I;have O2:=hiD o2;have ak:x+1<=(w2.alloc (Oc #[Vb q,Vi k,Vi m,Vi n,Vb j,Sq y h.length A] 63)).1.size:=by have:=Q.out.k.r.size;simp;omega
  clear zz I o2 a1 V1 O1;go_wp2_with (at_builtin;refine wpList_append_own _ rfl (.tmp 14) (.tmp 16) 23 rfl (x+1) 63 i0 (.agg #[Vb false,Vi 0,Vi 0,Vi 0,Vb false,Vn]) 6 64 underlying23 hi az a' b0 rfl (by decide) (Sq g L.length ai) L.length (vQ L) rfl (Q.out.alloc _).row (Ad w2.1.size 0) 1 1 (stV ⟨q,k,m,n,j,h⟩ (Sq y h.length A)) rfl rfl ?c1 ?c2 ?c3 ?c4 ak ?_);case c1=>exact A8 w2 (stV ⟨q,k,m,n,j,h⟩ (Sq y h.length A)) 63
  case c2=>
   intro ap hu;simp only[stV,jI,jH,or_false]at hu;rcases hu with rfl|rfl|rfl|rfl|rfl|rfl<;>rfl
  case c3=>unfold maxLen;omega
  case c4=>omega
  intro v' w3 af ag _;obtain⟨U,f,rfl⟩:=qh af;have I:=Q.out.alloc (Oc #[Vb q,Vi k,Vi m,Vi n,Vb j,Sq y h.length A] 63);have r3:=I.k.r.grown ag (yG I.row (Nat.lt_succ_self _));obtain⟨b5,yf,yl⟩:=r3.g1;have v3:=I.app (s:=⟨q,k,m,n,j,h⟩) (u:=Sq y h.length A) (O2.out.alloc _) ag af;have V3:=hiD v3;clear I v3 r3 af ag x0 x1 x2 x3 x4 x5 y0 Q O2 ak;go_upto_region 5 with(fail);generalize w3.setCell (Ad x 0) (Sq U (L.length+1) f)=w4 at*;clear b5 yf yl;obtain⟨t,ht⟩:∃t,c[b]?=some t:=⟨_,jB aw⟩;have c4:=vG c u E H F b {data:=#[59,44]} (by decide) (by decide) t ht _ V3.out.k.q;replace c4:Cs 34 #[Vp u 0,.string {data:=#[59,44]}] w4 fun e w'=>e=Rt (Vu (anyOf [59,44] t))∧w4.grownBy w' (some u)∧Q9 c u E H F (if anyOf [59,44] t=0 then b else b+1) w':=c4;have a5:=an.out;rw[seps_at ht (fun l=>qm (pSs (L.length+1) false l) fun M l=>.ok ((⟨q,k,m,n,j,h⟩:St)::M,l)) (fun l=>qm (pSs (L.length+1) true l) fun M l=>.ok ((⟨q,k,m,n,j,h⟩:St)::M,l))]at a5;have C4:=hiD c4;have am:=hiD a5;clear c4 a5 ht an;generalize anyOf [59,44] t=d at*;go_wp2_with fail;refine C4.out.mono ?_;rintro e w5 ⟨rfl,g5,q5⟩;have J:=V3.out.move q5 g5;have r:=am.out;clear g5 q5 C4 am V3;by_cases T:d=0
  ·subst T;simp only[if_true]at J r;have i:=z.out;rw[r]at i;simp only[qr]at i;have c5:=yi c u E H F b 3 (by omega) (by omega) _ J.k.q;have C5:=hiD c5;have S:=hiD J;have B:=hiD i;clear c5 J r i z;go_wp2_with fail;rcases r5:qX 3 (c.drop b)with p|⟨x5,l5⟩
   ·refine C5.out.mono ?_;rintro e w6 W;obtain⟨rfl,g⟩:=W.err r5;have C:=RP.bad (S.out.k.g.trans g) (B.out.trans (by rw[r5];rfl));unfold qF at C⊢;exact⟨rfl,C⟩
   have a9:=B.out;simp only[r5,qr]at a9;refine C5.out.mono ?_;rintro e w6 W;obtain⟨rfl,g6,a2,b1,rfl,q6⟩:=W.ok r5;have V6:=hiD (S.out.move q6 g6);have c6:=yi c u E H F a2 1 (by omega) (by omega) _ q6;have C6:=hiD c6;have aa:=hiD a9;clear c6 a9 g6 q6 W r5 C5 B S b1;go_wp2_with fail;rcases r7:qX 1 (c.drop a2)with p|⟨O,l7⟩
   ·refine C6.out.mono ?_;rintro e w7 Z;obtain⟨rfl,g⟩:=Z.err r7;have C:=RP.bad (V6.out.k.g.trans g) (aa.out.trans (by rw[r7];rfl));unfold qF at C⊢;exact⟨rfl,C⟩
   have ab:=aa.out;simp only[r7,qr]at ab;refine C6.out.mono ?_;rintro e w7 Z;obtain⟨rfl,g7,a0,b2,rfl,q7⟩:=Z.ok r7;have v7:=V6.out.move q7 g7;obtain⟨-,z1,zf,zl⟩:=v7.k.r.g2;have R:=hiD (v7.setW O);have ae:=hiD ab;clear v7 ab g7 q7 Z r7 C6 aa V6 b2;go_upto_region 9 with(fail);generalize w7.setCell (Ad x 1) (Vi O)=w8 at*;clear z1 zf zl;have c8:=yi c u E H F a0 0 (by omega) (by omega) _ R.out.k.q;have C8:=hiD c8;clear c8;go_wp2_with fail;rcases r9:qX 0 (c.drop a0)with p|⟨x9,l9⟩
   ·refine C8.out.mono ?_;rintro e w9 h9;obtain⟨rfl,g⟩:=h9.err r9;have C:=RP.bad (R.out.k.g.trans g) (ae.out.trans (by rw[r9];rfl));unfold qF at C⊢;exact⟨rfl,C⟩
   have a3:=ae.out;simp only[r9,qr]at a3;refine C8.out.mono ?_;rintro e w9 h9;obtain⟨rfl,g9,b6,b3,rfl,q9⟩:=h9.ok r9;have N:=R.out.move q9 g9;obtain⟨z0,z1,zf,zl⟩:=N.k.r.g2;have ad:w9.grownBy ((w9.setCell (Ad x 0) (Sq U (L.length+1) f)).setCell (Ad x 1) (Vi O)) (some x):=(jh _ _ _ _).trans (jh _ _ _ _);have rF:=(N.row.kept ad (.inr (yG N.row (Nat.lt_succ_self _)).symm)).mono (show w.1.size<=x+1 by have:=al.out;omega);have cF:∀ah∈L++[((⟨q,k,m,n,j,h⟩:St),Value.slice y h.length A)],_:=fun ah hq=>((N.cm ah hq).kept ad (.inr (yG (N.cm ah hq) (Nat.lt_succ_self _)).symm)).mono (show w.1.size<=x+1 by have:=al.out;omega);have KF:=hiD ((N.k.setR 0 (Sq U (L.length+1) f)).setR 1 (Vi O));have RF:=hiD rF;have CF:=hiD cF;have av:=hiD a3;clear N a3 g9 q9 h9 r9 C8 ae R b3 ad rF cF;go_wp2_with fail;refine Ka ?_;refine bodyPost_ret (xB rfl _ _ x 25 #[Sq U (L.length+1) f,Vi O] _ rfl KF.out.r underlying25 rfl rfl) rfl ?_;refine⟨KF.out.g,?_⟩;rw[av.out];exact⟨_,_,rfl,by simp,RF.out,CF.out⟩
  ·have e1:(d !=0)=true:=by simpa using T
   rw[if_neg T]at J r;have i:pSs 0 false (c.drop D)=qm (pSs (L++[((⟨q,k,m,n,j,h⟩:St),Value.slice y h.length A)]).length (d==44) (c.drop (b+1))) fun M l=>.ok ((L++[((⟨q,k,m,n,j,h⟩:St),Value.slice y h.length A)]).map Prod.fst++M,l):=by
    rw[r,jZ,List.length_singleton,dC];cases (d==44)
    ·simp only[ji,if_false];cases pSs (L.length+1) false (c.drop (b+1))with
     |error p=>rfl
     |ok a=>obtain⟨a,l⟩:=a;simp[qm]
    ·simp only[if_true];cases pSs (L.length+1) true (c.drop (b+1))with
     |error p=>rfl
     |ok a=>obtain⟨a,l⟩:=a;simp[qm]
   have S:=hiD J;have B:=hiD i;have hm:=J.k.q.left;have bd:=J.k.q.lt;have ba:=ar.out;clear J r i T z;go_wp2_with fail;apply wp_goto;refine⟨rfl,⟨_,_,d,_,b+1,S.out,by omega,by simp;omega,rfl,B,_,_,_,_,_,_,_,_,_,_,_,_,_,_,_,_,_,_,_,_,_,_,_,_,_,_,_,_,rfl⟩,?_⟩;rw[hm,HM.out];have:=E1.out;simp only[jj]at this;omega
 ·intro aq;have au:=hiD aq;have v0:V9 w c u E H F w.1.size [] Vn 0 D (w.alloc (Oc #[Vn,Vi 0] 25)):=⟨K9.start a7.out 25 _,js _ _ _ _,fun p hp=>by cases hp⟩;have V0:=hiD v0;have o:pSs 0 false (c.drop D)=qm (pSs 0 false (c.drop D)) fun M l=>.ok (([]:List (St×Value)).map Prod.fst++M,l):=by
   cases pSs 0 false (c.drop D)with
   |error p=>rfl
   |ok a=>rfl
  have P:=hiD o;clear aq v0 o a7 z;go_wp2_with fail;refine wp_label ?_;rename_i hK;refine hK _ _ (au.out _ _ ⟨[],_,0,false,D,V0.out,Nat.le_refl _,jg _,rfl,P,_,_,_,_,_,_,_,_,_,_,_,_,_,_,_,_,_,_,_,_,_,_,_,_,_,_,_,_,rfl⟩)
end
end Go.Proofs.YtnmpcdnbklmhkaaGreatDoor
