import Derived.Test.YtnmpcdnbklmhkaaGreatDoorQAz
import Derived.Test.YtnmpcdnbklmhkaaGreatDoorQBb
import Derived.Test.YtnmpcdnbklmhkaaGreatDoorQAh
namespace Go.Proofs.YtnmpcdnbklmhkaaGreatDoor
open Go.Proofs.Tryz Go.RowKit
set_option maxRecDepth 100000
set_option linter.all false
set_option maxHeartbeats 8000000
section
attribute [local go_sem] Oper.semAt_some
attribute [local go_sem ↓] Go.wp_at_zero Go.wp_at_succ
theorem Iq:En0 273:=enters_of func273 rfl rfl
structure PrtF (b:Mt->Bool) (gf:Nat) (cb:Array Value) (l:List Mt) (lv:Value) (lb sb:Nat) (W:World):Prop where
 hl:Holds W lb 115 #[lv]
 hs:Holds W sb 300 #[.func (.func gf) #[] cb]
 dl:qv 2 127 mtR W lv l
 so:∀m∈l,∀r e,MtV W r e m->Cs gf (#[.agg #[r,e]]++cb) W fun x w'=>x=Rt (Vb (b m))∧Bz W w'
theorem Jc (j:Value) (i:Nat) (g:Array Value) (w:World) (k:∃a n c,j=Sq a n c):
  Cs 245 #[j,.func (.func i) #[] g] w fun x w'=>x=Rt (.func (.func 273) #[] #[Vp w.1.size 0,Vp (w.1.size+1) 0])∧
   Holds w' w.1.size 115 #[j]∧Holds w' (w.1.size+1) 300 #[.func (.func i) #[] g]∧Bz w w':=by
 have f:=hmf1;obtain⟨a,n,c,rfl⟩:=k;have d:=(Holds.fresh w 115 #[Sq a n c]).alloc (Oc #[.func (.func i) #[] g] 300);have l:=Holds.fresh' (w:=w.alloc (Oc #[Sq a n c] 115)) (b:=w.1.size+1) (by simp) 300 #[.func (.func i) #[] g];have e:=(bA w (Oc #[Sq a n c] 115)).alloc (by simp) (Oc #[.func (.func i) #[] g] 300);go_enter func245,ntmps245;go_wp2_with fail;go_ret;exact⟨rfl,d,l,e⟩
theorem MX (b:Mt->Bool) (j:Nat) (cb:Array Value) (eg:∀a5 w,(callFunc j a5).run prog w= .ok (.enter j a5) w) (l:List Mt) (a6:∀a8∈l,a8.row.length<=1000000∧a8.2.length<=1000000) (an:l.length<=1000000) (lv:Value) (lb S:Nat):
  vL prog 273 #[Vp lb 0,Vp S 0] (fun a7 vs W=>∃r e,vs=#[.agg #[r,e],Vb (b (l.getD a7 mt0))]∧MtV W r e (l.getD a7 mt0)) l.length
   (PrtF b j cb l lv lb S):=by
 intro ly ad Jx W O hJ a2 hF R hY h0;have u:=hF W (qg.refl _ _);obtain⟨la,lc,rfl,am⟩:=u.dl.form;have V:=hiD hF;have HJ:=hiD hJ;have ai:=hiD a2;have HY:=hiD hY;have a9:=hiD R;have a1:=hiD a6;have v0:=u.hl.cell 0;simp at v0;have al:=u.hl.size;clear hF hJ a2 hY R a6 u;refine callsIn_of_wp func273 rfl trivial ?_ rfl;simp only[ntmps273,jW,jF,jO,Nat.reduceAdd,Nat.reduceSub,jR,jQ,jX,jU,jD,jE];gi_wp2;gi_loopw [8] (fun p wr=>∃(k:Nat) (D:Nat->Prop),k<=l.length∧p=Vi k∧qg O W wr∧(∀b,D b->O b∨W.1.size<=b)∧(∀b,D b->b<wr.1.size)∧ad k D wr) (fun p wr=>l.length-(intOf p).toNat);case atStart=>exact⟨0,O,jg _,rfl,qg.refl _ _,fun b Q=>.inl Q,a9.out,h0⟩
 case round=>
  obtain⟨k,D,hk,rfl,A,q,a4,hj⟩:=hrel;by_cases t:k<l.length
  ·have o:=V.out wr A;obtain⟨b1,o1,c1,x,X,M,Z,i,e1,J,F,p0,p1⟩:=Cw o.dl t;cases e1;have v:=jY J;have a0:l.getD k mt0=x:=by simp[List.getD,J]
   have g:=(Below.refl wr.1.size wr).alloc nLe (Oc #[Sq X x.row.length M,Sq Z x.2.length i] 127);have m:=Holds.fresh wr 127 #[Sq X x.row.length M,Sq Z x.2.length i];have T:=o.hs.alloc (Oc #[Sq X x.row.length M,Sq Z x.2.length i] 127);have a:MtV _ _ _ x:=⟨F.1.later g,F.2.later g⟩;have z:=A.trans (qg.below' (D:=O) g);have ao:=o.hl.size;have ap:=o.hs.size;generalize a3:wr.alloc (Oc #[Sq X x.row.length M,Sq Z x.2.length i] 127)=s at g m T a z;have CO:=hiD (fun H (d:Bz s H)=>kO _ _ x H ⟨a.1.later d,a.2.later d⟩ (a1.out x v).1 (a1.out x v).2);have U:=hiD (fun H (d:Bz s H)=>(V.out H (z.trans (qg.below' d))).so x v _ _ ⟨a.1.later d,a.2.later d⟩);have E:=hiD (HY.out k);rw[a0]at E;have aa:=hiD (fun w' (n:Bz s w')=>(⟨(m.later n).cell 0,(m.later n).cell 1,(T.later n).cell 0⟩:Cq w' wr.1.size 0 (Sq X x.row.length M)∧Cq w' wr.1.size 1 (Sq Z x.2.length i)∧Cq w' S 0 (.func (.func j) #[] cb)));obtain⟨bx,K⟩:=xR (b x);rw[K]at U E;have P:=hiD g;have ab:=hiD z;have ac:=hiD a3;clear o J F a0 a m T K g z v a3;gi_wp2;rw[ac.out];refine kU [0,1,3,4] 6 2 [7] (by kernel_rfl) (by kernel_rfl) (fun ⟨_,_,h⟩=>by obtain⟨⟨_,hv⟩,_⟩:=h;cases hv) (fun w'=>Bz s w') bRf.drew (fun _ _ ae _ _ h=>by cases ae<;>exact h) ?_;simp only[qI,jM,jN]
   repeat (refine qA rfl (fun w' hS=>by obtain⟨g0,g1,g2⟩:=aa.out w' hS;(go_simp<;>rfl)) ?_)
   show zL _ _ _ _ _ _ _ _ _ _ _ _;simp only[Act.put,jC,jL,jK];refine qC [2] (by kernel_rfl) (by simp) (by simp) ?_;intro ah c;simp only[jI,jH,or_false]at c;subst c;refine qq rfl rfl ?_;go_simp;refine(CO.out _ bRf.drew).mono ?_;rintro r w2 ⟨r',e',rfl,I,af⟩;have y:=(Below.refl s.1.size s).drew.trans af;refine⟨y,?_⟩;refine qC [5] (by kernel_rfl) (by simp) (by simp) ?_;intro ah c;simp only[jI,jH,or_false]at c;subst c;refine qq rfl rfl ?_;go_simp;refine(U.out _ y).mono ?_;rintro r w3 ⟨rfl,C⟩;have B:=y.trans (C.mono y.size);refine⟨B,?_⟩;refine kR (by kernel_rfl) (show Region.ready _ _ _=[7]∧Region.ready _ _ _=[]from⟨by kernel_rfl,by kernel_rfl⟩) ?_;refine Ar rfl rfl ?_;have L:=P.out.trans (B.mono P.out.size);have f:=ab.out.trans (qg.below' (D:=O) B);obtain⟨fn,aq,aj,ak,hy,hR⟩:=E.out #[.agg #[r',e'],Vb bx] w3 D t f q (fun b Q=>jf (a4 b Q) L.size) ((HJ.out k D).on hj L) ⟨r',e',rfl,I.1.later C,I.2.later C⟩;gi_wp2;refine⟨rfl,hR.mono ?_⟩;rintro e H ⟨-,N,(⟨rfl,D',h1,h2,c⟩|⟨rfl,ag⟩)⟩
   ·refine Ar rfl rfl ?_;gi_wp2;simp only[kN];gi_wp2;go_roundw;case rel=>exact⟨k+1,D',t,by push_cast;rfl,f.step N q,fun b Q=>(h1 b Q).elim (fun h=>q b h) (fun h=>.inr (jS (qg.size f) h)),h2,c⟩
    case measure=>simp[intOf];omega
   ·refine Ar rfl rfl ?_;gi_wp2;simp only[kN];gi_wp2;refine bodyPost_ret (results_none rfl _ _ _) rfl ?_;exact⟨⟨_,rfl⟩,f.step N q,.inr ⟨k,t,ag⟩⟩
  ·obtain rfl:k=l.length:=by omega
   gi_wp2;refine⟨rfl,_,results_none rfl _ _ _,⟨_,rfl⟩,A,.inl ⟨D,q,a4,hj⟩⟩
def hasM (l:List Mt) (m:Mt):Bool:=l.any fun o=>isM o m
theorem PZ {α:Type} (p:α->Bool) (l:List α):decide (0<=firstI p l)=l.any p:=by
 unfold firstI;cases h:l.any p with
 |true=>simp
 |false=>simp
theorem F9 (l:List Mt) (m:Mt) (y r e:Value) (u:Nat) (w:World) (k:qv 2 127 mtR w y l) (j:Holds w u 115 #[y]) (i:MtV w r e m):
  Cs 246 #[.agg #[r,e],Vp u 0] w fun x w'=>x=Rt (Vb (hasM l m))∧Bz w w':=by
 unfold hasM;rw[<-PZ];obtain⟨A,B,rfl,_⟩:=k.form;obtain⟨n,q,rfl,_⟩:=i.1.form;obtain⟨p,s,rfl,_⟩:=i.2.form;have a:=bA w (Oc #[Sq n m.row.length q,Sq p m.2.length s] 127);have c:=hiD (Pq l m (Sq A l.length B) (Sq n m.row.length q) (Sq p m.2.length s) _ (qD k a) ⟨i.1.later a,i.2.later a⟩);obtain⟨z,t⟩:=xR (firstI (fun o=>isM o m) l);rw[t]at c⊢;have f:=j.cell 0;simp at f;have d:=j.size;clear t k i j;go_enter func246,ntmps246;go_wp2_with fail;refine c.out.mono ?_;rintro x g ⟨rfl,b⟩;go_wp2_with fail;go_ret;exact⟨rfl,a.trans (b.mono a.size)⟩
theorem Ic (d:Value) (w:World) (e:∃a n c,d=Sq a n c):
  Cs 218 #[d] w fun x w'=>x=Rt (.func (.func 246) #[] #[Vp w.1.size 0])∧w'=w.alloc (Oc #[d] 115):=by
 have b:=hmf1;obtain⟨a,n,c,rfl⟩:=e;go_enter func218,ntmps218;go_wp2_with fail;go_ret;exact⟨rfl,rfl⟩
theorem NU {p:Pt} (V:PtOk p) {s:List Ev} (I:SOk s) (P:Int) (v W:Value) (w:World) (Z:PatV w v p) (S:RowT 5 36 evV w W s):
  Cs 195 #[v,W,Vi P] w fun e w'=>∃u,e=Rt u∧qj 2 w.1.size 127 mtR w' u (Bi p s P)∧Bz w w':=by
 obtain⟨a4,rfl,R⟩:=Z;obtain⟨m,k,rfl,a0,D⟩:=R.form;obtain⟨O,K,rfl,_⟩:=S.form;have o:=bA w (Oc #[Sq m p.1.length k,Vi p.2] 25);have y:=Holds.fresh w 25 #[Sq m p.1.length k,Vi p.2];obtain⟨A,b⟩:=xR (Bi p s P);rw[b];have C:(allM p s).length<2:=A4 I;have F:=hiD (fun n (Q:Bz w n)=>IC V I (.agg #[Sq m p.1.length k,Vi p.2]) (Sq O s.length K) n ⟨_,rfl,R.mono Q nLe⟩ (S.later Q));have B:=hiD (fun n (Q:Bz w n) T (X:qv 2 127 mtR n T (allM p s))=>(Gh V (allM p s) (Li I) (by omega) P (.agg #[Sq m p.1.length k,Vi p.2]) T n ⟨_,rfl,R.mono Q nLe⟩ X).mono (fun e w' (h:∃u,e=Rt u∧qj 2 n.1.size 127 mtR w' u (Bi p s P)∧Bz n w')=>(by rw[b]at h;exact h:∃u,e=Rt u∧qj 2 n.1.size 127 mtR w' u A∧Bz n w')));obtain⟨a,t⟩:=xR (w.alloc (Oc #[Sq m p.1.length k,Vi p.2] 25));rw[t]at o y;have E:=hiD (fun w' (U:Bz a w')=>(⟨(y.later U).cell 0,(y.later U).cell 1⟩:Cq w' w.1.size 0 (Sq m p.1.length k)∧Cq w' w.1.size 1 (Vi p.2)));clear R S b;go_enter func195,ntmps195;go_wp2_with fail;clear t y;refine xN [0,1,2,4] 6 2 (by kernel_rfl) (by kernel_rfl) (fun w'=>Bz a w') bRf.drew (fun _ _ d _ _ h=>by cases d<;>exact h) ?_;simp only[qI,jM,jN]
 repeat (refine qA rfl (fun w' I=>by obtain⟨a3,g1⟩:=E.out w' I;(go_simp<;>rfl)) ?_)
 show zL _ _ _ _ _ _ _ _ _ _ _ _;simp only[Act.put,jC,jL,jK];refine qC [3] (by kernel_rfl) (by simp) (by simp) ?_;intro j c;simp only[jI,jH,or_false]at c;subst c;refine qq rfl rfl ?_;go_simp;have i:Bz w a.drew:=o.trans bRf.drew;refine(F.out _ i).mono ?_;rintro r a1 ⟨T,rfl,H,f⟩;have g:=i.trans (f.mono i.size);refine⟨(Below.refl a.1.size a).drew.trans f,?_⟩;refine qC [5] (by kernel_rfl) (by simp) (by simp) ?_;intro j c;simp only[jI,jH,or_false]at c;subst c;refine qq rfl rfl ?_;go_simp;refine(B.out _ g _ H.deep).mono ?_;rintro r a2 ⟨v2,rfl,q,x⟩;have z:=g.trans (x.mono g.size);refine⟨((Below.refl a.1.size a).drew.trans f).trans (x.mono ((Below.refl a.1.size a).drew.trans f).size),?_⟩;refine vj (by kernel_rfl) (by kernel_rfl) ?_;refine qq rfl rfl ?_;have M:=hiD q;clear q H F B E;go_wp2_with fail;go_ret;obtain⟨l,N,J,L⟩:=M.out;exact⟨_,rfl,⟨l,N,yV J g.size,L⟩,z⟩
def mtO (n:Nat) (m:Mt) (a:List Value) (W:World):Prop:=mtR m a W∧∀u∈a,∀b,u.ownBlock=some b->n<=b
theorem mtO.later {n:Nat} {m:Mt} {c:List Value} {W a:World} (h:mtO n m c W) (d:Bz W a):mtO n m c a:=⟨h.1.later d,h.2⟩
theorem mtO.deep {k d n:Nat} {W:World} {v:Value} {l:List Mt} (h:qj 2 d k (mtO n) W v l):qj 2 d k mtR W v l:=by
 obtain⟨f,e,c,a⟩:=h;exact⟨f,e,c,fun y b=>(a y b).1⟩
theorem Pp (r e:Value) (m:Mt) (w:World) (d:MtV w r e m) (h1:m.row.length<=1000000) (h2:m.2.length<=1000000):
  Cs 274 #[.agg #[r,e]] w fun x w'=>∃y C,x=Rt (.agg #[y,C])∧MtV w' y C m∧((∀b,y.ownBlock=some b->w.1.size<=b)∧∀b,C.ownBlock=some b->w.1.size<=b)∧Bz w w':=by
 have f:=(bA w (Oc #[r,e] 127)).alloc (by simp) (Oc #[Vn,Vn] 127);have J:=(Holds.fresh w 127 #[r,e]).alloc (Oc #[Vn,Vn] 127);have z2:=Holds.fresh' (w:=w.alloc (Oc #[r,e] 127)) (b:=w.1.size+1) (by simp) 127 #[Vn,Vn];have u:=d.later f;obtain⟨L,E,rfl,_⟩:=d.1.form;obtain⟨n,s,rfl,_⟩:=d.2.form;have Z:=hiD (fun W h=>FB intV (fun _=>rfl) Cc (Sq L m.row.length E) m.row W h h1);have T:=hiD (fun W h=>Bd evV (fun _=>rfl) vZ (Sq n m.2.length s) m.2 W h h2);have S:=hiD u;clear d u;go_enter func274,ntmps274;go_wp2_with fail;generalize (w.alloc (Oc #[Sq L m.row.length E,Sq n m.2.length s] 127)).alloc (Oc #[Vn,Vn] 127)=W at*;have Q:=hiD (fun w' (o:Bz W w')=>(⟨(J.later o).cell 0,(J.later o).cell 1⟩:Cq w' w.1.size 0 (Sq L m.row.length E)∧Cq w' w.1.size 1 (Sq n m.2.length s)));refine qO [(true,0),(true,1),(true,3),(true,4),(false,2),(true,6),(false,5)] 7 [8,9] (by kernel_rfl) (by kernel_rfl) (fun w'=>Bz W w') (bRf.drew) (fun _ _ a3 _ _ h=>by cases a3<;>exact h) ?_;simp only[qI,xx,jM,jN]
 repeat (refine zX rfl (fun w' t=>by obtain⟨N,O⟩:=Q.out w' t;(go_simp<;>rfl)) ?_)
 simp only[Act.put,jC,jL,jK];refine zQ rfl ?_;go_simp;refine(Z.out _ (S.out.1.later bRf.drew).1).mono ?_;rintro x w1 ⟨y,rfl,X,I⟩;have a:=((Below.refl W.1.size W).drew).trans I;refine⟨a,?_⟩
 repeat (refine zX rfl (fun w' t=>by obtain⟨N,O⟩:=Q.out w' t;(go_simp<;>rfl)) ?_)
 simp only[Act.put,jC,jL,jK];refine zQ rfl ?_;go_simp;refine(T.out _ (S.out.2.later a).1).mono ?_;rintro x a2 ⟨C,rfl,V,v⟩;have c:=a.trans (v.mono a.size);refine⟨c,vf ?_⟩;have q:∀b,y.ownBlock=some b->w.1.size<=b:=fun b o=>jS f.size (qE X b o);have z:∀b,C.ownBlock=some b->w.1.size<=b:=fun b o=>jS (f.trans (a.mono f.size)).size (qE V b o);have K:=hiD q;have H:=hiD z;clear q z;obtain⟨g,i,rfl⟩:=qh X;obtain⟨j,k,rfl⟩:=qh V;have l:=J.later c;have B:=z2.later c;obtain⟨N,O,qf,ql⟩:=l.g2;obtain⟨s0,s1,sf,sl⟩:=B.g2;go_wp2_with fail;have a4:=RowT.of_own (enc:=intV) (fun _=>rfl) X rfl;have M:=RowT.of_own (enc:=evV) (fun _=>rfl) V rfl;have D:MtV a2 (Sq g m.row.length i) (Sq j m.2.length k) m:=⟨a4.later v,M⟩;have A:=MtV.abides (F:=fun a5=>a5==127) rfl rfl (Sq g m.row.length i) (Sq j m.2.length k) m;have k1:=A.set D l rfl 0 (Sq g m.row.length i);have y1:=l.set 0 (Sq g m.row.length i);have k2:=A.set k1 y1 rfl 1 (Sq j m.2.length k);have P:=(B.far (p:=Ad w.1.size 0) (by simp) (Sq g m.row.length i)).far (p:=Ad w.1.size 1) (by simp) (Sq j m.2.length k);have k3:=A.set k2 P rfl 0 (Sq g m.row.length i);have R:=P.set 0 (Sq g m.row.length i);have U:=A.set k3 R rfl 1 (Sq j m.2.length k);have a0:Holds _ _ _ #[Sq g m.row.length i,Sq j m.2.length k]:=R.set 1 (Sq j m.2.length k);have a1:=f.trans (c.mono f.size);refine bodyPost_ret (zU rfl _ _ (w.1.size+1) 127 #[Sq g m.row.length i,Sq j m.2.length k] _ rfl a0 underlying127 rfl (by kernel_rfl)) rfl ⟨_,_,rfl,U,⟨K.out,H.out⟩,?_⟩;exact(((a1.setCell (p:=Ad w.1.size 0) nLe _).setCell (p:=Ad w.1.size 1) nLe _).setCell (p:=Ad (w.1.size+1) 0) (by simp) _).setCell (p:=Ad (w.1.size+1) 1) (by simp) _
theorem L8 (b:Mt->Bool) (o:Nat) (cb:Array Value) (eg:∀ac w,(callFunc o ac).run prog w= .ok (.enter o ac) w) (l:List Mt) (ad:∀m∈l,m.row.length<=1000000∧m.2.length<=1000000) (av:l.length<=1000000) (lv:Value) (w:World) (Z:qv 2 127 mtR w lv l)
  (hc:∀q,Bz w q->∀m∈l,∀a5 e,MtV q a5 e m->Cs o (#[.agg #[a5,e]]++cb) q fun x w'=>x=Rt (Vb (b m))∧Bz q w'):
  Cs 255 #[lv,.func (.func o) #[] cb] w fun e w'=>∃v',e=Rt v'∧qj 2 w.1.size 127 (mtO w.1.size) w' v' (l.filter b)∧Bz w w':=by
 obtain⟨i0,ai,ak,al,am⟩:=Vv;obtain⟨la,lc,rfl,au⟩:=Z.form;have af:=hiD ad;have HL:=hiD Z;have HC:=hiD hc;clear ad Z hc;go_enter func255,ntmps255;go_wp2_with fail;go_loopw [4,9] (fun an a4 wr=>∃(k n:Nat) (L:List El),k<=l.length∧n<=k∧a4=Vi k∧Hid (L.length=n∧L.map (fun y=>y.1)=(l.take k).filter b)∧wr.ownsRow w.1.size 127 2 an n (L.flatMap elV)∧Hid (∀y∈L,mtO w.1.size y.1 y.2.1 wr)∧Bz w wr) (fun _ a4 _=>l.length-(intOf a4).toNat);case atStart=>exact⟨0,0,[],jg _,Nat.le_refl _,rfl,hiD ⟨rfl,rfl⟩,js _ _ _ _,hiD (fun y j=>nomatch j),Below.refl _ _⟩
 case round=>
  obtain⟨k,n,L,hk,hn,rfl,c,I,u,a⟩:=hrel;by_cases t:k<l.length
  ·have hx:l[k]?=some l[k]:=jB t;obtain⟨bb,ax,ap,cs,e1,aq,ar,hm,a3⟩:=(qD HL.out a).get hx;cases e1;obtain⟨a5,e,rfl,v⟩:=hm;obtain⟨ra,rc,rfl,_⟩:=v.1.form;obtain⟨V,W,rfl,_⟩:=v.2.form;have p0:=a3 0 _ rfl;have p1:=a3 1 _ rfl;have a9:=af.out _ (dI t);have a0:l.take (k+1)=l.take k++[l[k]]:=ja t;have z:=(Below.refl wr.1.size wr).alloc nLe (Oc #[Sq ra l[k].row.length rc,Sq V l[k].2.length W] 127);have zx:=Holds.fresh wr 127 #[Sq ra l[k].row.length rc,Sq V l[k].2.length W];have A:MtV _ (Sq ra l[k].row.length rc) (Sq V l[k].2.length W) l[k]:=⟨v.1.later z,v.2.later z⟩;have CB:=hiD (HC.out _ (a.trans (z.mono a.size)) l[k] (dI t) _ _ A);have N:=hiD A;generalize l[k]=x at*;have a8:=hiD a0;clear a3 v A a0 hx;rw[Nat.add_zero]at p0;go_wp2_with fail
   go_at_fn o
   refine CB.out.mono ?_;rintro r' w0 ⟨rfl,H⟩;have s:=z.trans (H.mono z.size);have R:=zD I s;have U:=hiD (fun y j=>(u.out y j).later s);have S:=zx.later H;have C:MtV w0 _ _ x:=⟨N.out.1.later H,N.out.2.later H⟩;clear CB p0 p1 I u N zx;cases r:b x with
   |false=>
     have B:(l.take (k+1)).filter b=(l.take k).filter b:=by rw[a8.out,List.filter_append];simp[r]
     have P:=hiD B;clear B r C S;go_wp2_with fail;rw[show ((k:Int)+1)=((k+1:Nat):Int) by push_cast;rfl];exact⟨⟨k+1,n,L,t,by omega,rfl,hiD ⟨c.out.1,by rw[P.out];exact c.out.2⟩,R,U,a.trans (s.mono a.size)⟩,by simp[intOf];omega⟩
   |true=>
     have B:(l.take (k+1)).filter b=(l.take k).filter b++[x]:=by rw[a8.out,List.filter_append];simp[r]
     have P:=hiD B;have CO:=hiD (Pp _ _ x w0 C a9.1 a9.2);obtain⟨t0,t1,-⟩:=S.g2;clear B r C S;go_wp2_with fail;refine CO.out.mono ?_;rintro r' J ⟨rv,ev,rfl,aa,M,O⟩;have a6:=hiD (⟨fun b X=>jS (a.trans (s.mono a.size)).size (M.1 b X),fun b X=>jS (a.trans (s.mono a.size)).size (M.2 b X)⟩:(∀b,rv.ownBlock=some b->w.1.size<=b)∧∀b,ev.ownBlock=some b->w.1.size<=b);clear M;have K:=s.trans (O.mono s.size);have F:=hiD aa;have a7:=zD R O;have Q:=hiD (fun y j=>(U.out y j).later O);clear CO t0 t1 aa R U;have aw:w.1.size<=J.1.size:=by have:=a.size;have:=K.size;omega
     obtain⟨h,i,rfl,_⟩:=F.out.1.form;obtain⟨f,g,rfl,_⟩:=F.out.2.form;have ab:=K.alloc K.size (Oc #[Sq h x.row.length i,Sq f x.2.length g] 127);have D:=a7.alloc (Oc #[Sq h x.row.length i,Sq f x.2.length g] 127);go_wp2_with (at_builtin;refine wpList_append_own _ rfl _ _ 115 rfl w.1.size 127 i0 (.agg #[Vn,Vn]) 2 48 underlying115 ai ak al am rfl (by decide) _ n (L.flatMap elV) rfl D (Ad J.1.size 0) 1 1 [Sq h x.row.length i,Sq f x.2.length g] rfl rfl ?c1 ?c2 ?c3 ?c4 ?c5 ?_);case c1=>exact qR J [Sq h x.row.length i,Sq f x.2.length g] 127
     case c2=>
      intro ao p;simp only[jI,jH,or_false]at p;rcases p with rfl|rfl<;>rfl
     case c3=>unfold maxLen;omega
     case c4=>omega
     case c5=>simp;omega
     intro v' w2 a1 d _;have ah:=(a.trans (ab.mono a.size)).grown d (jS a.size ab.size) (fun b X=>qE D b X);have E:mtO w.1.size x [Sq h x.row.length i,Sq f x.2.length g] J:=⟨⟨_,_,rfl,F.out⟩,fun ao p=>by
      simp only[jI,jH,or_false]at p;rcases p with rfl|rfl
      ·exact a6.out.1
      ·exact a6.out.2⟩
     have a2:Bz J (J.alloc (Oc #[Sq h x.row.length i,Sq f x.2.length g] 127)):=bB;have ae:=hiD (⟨vH D d (E.later a2).1 (by decide) (by decide),E.2⟩:mtO w.1.size x [Sq h x.row.length i,Sq f x.2.length g] w2);have ag:=hiD (fun y j=>(⟨vH D d ((Q.out y j).later a2).1 (by decide) (by decide),(Q.out y j).2⟩:mtO w.1.size y.1 y.2.1 w2));clear E Q F d D a7;go_wp2_with fail;rw[show ((k:Int)+1)=((k+1:Nat):Int) by push_cast;rfl];refine⟨⟨k+1,n+1,L++[(x,⟨[Sq h x.row.length i,Sq f x.2.length g],rfl⟩)],t,by omega,rfl,hiD ⟨by rw[jZ,c.out.1];rfl,by rw[P.out,dC,c.out.2];rfl⟩,by simpa[elV]using a1,hiD (fun y j=>?_),ah⟩,by simp[intOf];omega⟩;rcases List.mem_append.1 j with j|j
     ·exact ag.out y j
     ·simp at j;subst j;exact ae.out
  ·obtain rfl:k=l.length:=by omega
   go_wp2_with fail;go_ret;obtain⟨aj,T⟩:=c.out;rw[jn]at T;have e:(l.filter b).length=n:=by rw[<-T,List.length_map,aj]
   exact⟨_,rfl,⟨L,T,by rw[e];exact I,u.out⟩,a⟩
theorem Jt {p:Pt} (R:PtOk p) (l:List Mt) (K:∀m∈l,MtSm p m) (Q:l.length<=1000000) (n:Int) (v O:Value) (w:World) (S:PatV w v p) (M:qv 2 127 mtR w O l):
  Cs 334 #[v,O,Vi n] w fun e w'=>∃h,e=Rt h∧qj 2 w.1.size 127 (mtO w.1.size) w' h (l.filter fun m=>decide (yH p m<n))∧Bz w w':=by
 have I:=hmf1;obtain⟨u,rfl,N⟩:=S;obtain⟨j,f,rfl,z,s⟩:=N.form;obtain⟨T,U,rfl,B⟩:=M.form;have a:=(bA w (Oc #[Sq j p.1.length f,Vi p.2] 25)).alloc (by simp) (Oc #[Vi n] 3);have q:=(Holds.fresh w 25 #[Sq j p.1.length f,Vi p.2]).alloc (Oc #[Vi n] 3);have P:=Holds.fresh' (w:=w.alloc (Oc #[Sq j p.1.length f,Vi p.2] 25)) (b:=w.1.size+1) (by simp) 3 #[Vi n];have k:=hiD (L8 (fun m=>decide (yH p m<n)) 364 #[Vp w.1.size 0,Vp (w.1.size+1) 0] Jr l (fun m d=>⟨(K m d).row,(K m d).evl⟩) Q _ _ (qD M a)
  (fun C c m d r e g=>Ju R m (K m d).pos n _ r e w.1.size (w.1.size+1) C (q.later c) ((N.mono a nLe).mono c nLe) (P.later c) g))
 clear N M K q P;go_enter func334,ntmps334;go_wp2_with fail;refine k.out.mono ?_;rintro r J ⟨h,rfl,x,i⟩;have D:=hiD x;clear x k;go_wp2_with fail;go_ret;obtain⟨L,H,A,t⟩:=D.out;exact⟨_,rfl,⟨L,H,yV A a.size,fun y o=>⟨(t y o).1,fun u E b F=>jS a.size ((t y o).2 u E b F)⟩⟩,a.trans (i.mono a.size)⟩
end
end Go.Proofs.YtnmpcdnbklmhkaaGreatDoor
