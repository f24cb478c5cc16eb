import Derived.Test.YtnmpcdnbklmhkaaGreatDoorQAh
import Derived.Test.YtnmpcdnbklmhkaaGreatDoorQAv
import Derived.Test.YtnmpcdnbklmhkaaGreatDoorQAt
import Derived.Test.YtnmpcdnbklmhkaaGreatDoorQAr
namespace Go.Proofs.YtnmpcdnbklmhkaaGreatDoor
open Go.Proofs.Tryz Go.RowKit
set_option maxRecDepth 100000
set_option linter.all false
set_option maxHeartbeats 8000000
section
attribute [local go_sem] Oper.semAt_some
attribute [local go_sem ↓] Go.wp_at_zero Go.wp_at_succ
theorem ER:En0 308:=enters_of func308 rfl rfl
theorem FI (s t r q:Value) (w:World) (u:∃a n c,s=Sq a n c) (y:∃x,t=Vi x) (A:∃x,r=Vi x) (z:∃a n c,q=Sq a n c):
  Cs 281 #[.agg #[s,t],r,q] w fun e w'=>e=Rt (.func (.func 308) #[] #[Vp (w.1.size+1) 0,Vp w.1.size 0,Vp (w.1.size+1+1) 0])∧
   Holds w' w.1.size 25 #[s,t]∧Holds w' (w.1.size+1) 3 #[r]∧Holds w' (w.1.size+1+1) 125 #[q]∧Bz w w':=by
 have m:=hmf1;obtain⟨h,j,g,rfl⟩:=u;obtain⟨f,rfl⟩:=y;obtain⟨d,rfl⟩:=A;obtain⟨o,i,p,rfl⟩:=z;have k:=((Holds.fresh w 25 #[Sq h j g,Vi f]).alloc (Oc #[Vi d] 3)).alloc (Oc #[Sq o i p] 125);have B:=(Holds.fresh' (w:=w.alloc (Oc #[Sq h j g,Vi f] 25)) (b:=w.1.size+1) (by simp) 3 #[Vi d]).alloc (Oc #[Sq o i p] 125);have C:=Holds.fresh' (w:=(w.alloc (Oc #[Sq h j g,Vi f] 25)).alloc (Oc #[Vi d] 3)) (b:=w.1.size+1+1) (by simp) 125 #[Sq o i p];have l:=((bA w (Oc #[Sq h j g,Vi f] 25)).alloc (by simp) (Oc #[Vi d] 3)).alloc (by simp;omega) (Oc #[Sq o i p] 125);go_enter func281,ntmps281;go_wp2_with fail;go_ret;exact⟨rfl,k,B,C,l⟩
structure RwsF (p:Pt) (i:Nat) (u av:Value) (pb ib ab:Nat) (W:World):Prop where
 hp:Holds W pb 25 #[u,Vi p.2]
 hi:Holds W ib 3 #[Vi i]
 ha:Holds W ab 125 #[av]
 st:qN W u p.1
 ahd:RowT 1 3 intV W av (([0,1]:List Int).take i)
def RwsR (_:Nat) (a:Array Value) (W:World):Prop:=∃r,a=#[r]∧RowT 1 3 intV W r [0,1]
abbrev RwsI (p:Pt) (i:Nat):Prop:=∀(u e:Value) (d c a:Nat),vL prog 308 #[Vp c 0,Vp d 0,Vp a 0] RwsR 1 (RwsF p i u e d c a)
theorem RN {p:Pt} (U:PtOk p):RwsI p 2:=by
 intro a6 Q M P a0 l J O W t q i hF g r A;have k:=hF W (qg.refl _ _);obtain⟨u,n,e,f,c⟩:=k;obtain⟨a1,N,rfl,w,v⟩:=f.form;obtain⟨V,X,rfl,_⟩:=c.form;rw[U.len]at*;have T:=u.cell 0;have z:=n.cell 0;have o:=e.cell 0;simp at T z o;have y:=hiD q;have F:=hiD r;have m:=hiD g;have H:=u.size;have a7:=n.size;have C:=e.size;have K:=hiD c;clear q r hF i f c g u n e U;have I:=Holds.fresh W 392 #[.func (.yield l) #[] #[]];have a:=((Below.refl W.1.size W).alloc nLe (Oc #[.func (.yield l) #[] #[]] 392));have x:=I.cell 0;simp at x;replace T:=qd a nLe T;replace z:=qd a nLe z;replace o:=qd a nLe o;refine callsIn_of_wp func308 rfl trivial ?_ rfl;simp only[ntmps308,jW,jF,jO,Nat.reduceAdd,Nat.reduceSub,jR,jQ,jX,jU,jD,jE];obtain⟨fn,a5,a2,a3,R,L⟩:=F.out 0 #[Sq V 2 X] (W.alloc (Oc #[.func (.yield l) #[] #[]] 392)) t (by simp) (qg.below' a) (fun b d=>.inl d) (fun b d=>jf (m.out b d) a.size) ((y.out 0 t).on A a) ⟨_,rfl,K.out.later a⟩;gi_wp2;refine⟨rfl,L.mono ?_⟩;rintro a4 S ⟨-,s,(⟨rfl,D,B,E,Z⟩|⟨rfl,j⟩)⟩
 ·gi_wp2;refine bodyPost_ret (results_none rfl _ _ _) rfl ?_;exact⟨⟨_,rfl⟩,(qg.below' a).trans s,.inl ⟨D,fun b d=>(B b d).imp id fun h=>jS a.size h,E,Z⟩⟩
 ·gi_wp2;refine bodyPost_ret (results_none rfl _ _ _) rfl ?_;exact⟨⟨_,rfl⟩,(qg.below' a).trans s,.inr ⟨0,by simp,j⟩⟩
theorem MF {p:Pt} (hp:PtOk p) (i:Nat) (c8:i<=1) (IH:RwsI p (i+1)):RwsI p i:=by
 intro cp av Z ib ab l b7 Jx W A hJ ba hF b8 hY h0;have E:=hF W (qg.refl _ _);have bx:i<p.1.length:=by rw[hp.len];omega
 obtain⟨st,b5⟩:∃st,p.1[i]?=some st:=⟨_,jB bx⟩;obtain⟨hn,bh,bi⟩:st.neg=false∧st.min=1∧st.max=1:=by rcases hp.all (jY b5)with rfl|rfl<;>exact⟨rfl,rfl,rfl⟩
 obtain⟨d,ah⟩:=xR (([0,1]:List Int).take i);have ap:d.length<=2∧([0,1]:List Int).take (i+1)=d++List.replicate 1 (i:Int):=by
  rw[<-ah];rcases(show i=0∨i=1 by omega)with rfl|rfl<;>exact⟨by decide,rfl⟩
 obtain⟨hv,hi,ha,hs,a1⟩:=E;obtain⟨R,a,c,r,t,rfl,cf,bw,t0,t1,t2,t3,t4,t5⟩:=Fa hs b5;rw[ah]at a1;obtain⟨I,J,rfl,_⟩:=a1.form;have cd:=hs.form.choose_spec.choose_spec.2.2;have cc:((i:Int)==(p.1.length:Int))=false:=by simp only[beq_eq_false_iff_ne];omega
 rw[hn]at t0;rw[bh]at t2;rw[bi]at t3;clear hs bw b5;generalize st.kind=x at*;generalize st.5=z at*;generalize st.6.length=u at*;clear hn bh bi hp;have HJ:=hiD hJ;have b6:=hiD ba;have HY:=hiD hY;have HF:=hiD hF;have ao:=hiD b8;have bo:=hiD IH;have bm:=hiD ah;have bn:=hiD ap.2;have c6:=ap.1;clear hJ ba hY hF b8 IH ah ap;have ch:=hv.size;have c9:=hi.size;have c7:=ha.size;obtain⟨v0,v1,-⟩:=hv.g2;have V:=hi.cell 0;have L:=ha.cell 0;simp at V L;have ci:IntKind.i64.wrap ((i:Int)+1)=(i:Int)+1:=by rw[IntKind.wrap_i64];omega
 have y1:=(Holds.fresh W 392 #[.func (.yield l) #[] #[]]).alloc (Oc #[Vb false,Vi x,Vi 1,Vi 1,Vb z,Sq r u t] 63);have s1:=Holds.fresh' (w:=W.alloc (Oc #[.func (.yield l) #[] #[]] 392)) (b:=W.1.size+1) (by simp) 63 #[Vb false,Vi x,Vi 1,Vi 1,Vb z,Sq r u t];have au:=((Below.refl W.1.size W).alloc nLe (Oc #[.func (.yield l) #[] #[]] 392)).alloc (by simp) (Oc #[Vb false,Vi x,Vi 1,Vi 1,Vb z,Sq r u t] 63);refine callsIn_of_wp_marks func308 rfl trivial ?_ rfl;simp only[ntmps308,jW,jF,jO,Nat.reduceAdd,Nat.reduceSub,jR,jQ,jX,jU,jD,jE];have F:=(Below.refl W.1.size W).alloc nLe (Oc #[.func (.yield l) #[] #[]] 392);replace t0:=qd F nLe t0;replace t1:=qd F nLe t1;replace t2:=qd F nLe t2;replace t3:=qd F nLe t3;replace t4:=qd F nLe t4;replace t5:=qd F nLe t5;refine wpIn_wide.2 ?_;go_wp2_with fail;generalize bv:(W.alloc (Oc #[.func (.yield l) #[] #[]] 392)).alloc (Oc #[Vb false,Vi x,Vi 1,Vi 1,Vb z,Sq r u t] 63)=W2 at*;clear bv t0 t1 t2 t3 t4 t5 F;have b':=au.size;have ck:=y1.size;have ce:=s1.size;refine wp_loop (fun ad wr=>∃(k:Nat) (D:Nat->Prop) (B:List Nat) (u7 u32 u33 u34 u35 u36 u37 u38 u39 u40 u41 u42 u43 u44 u45 u46 u47 u48 u49 u50 u51 u52 an:Value),k<=1∧ad={tmps:=#[.func (.yield l) #[] #[],Vp ib 0,Vp Z 0,Vp ab 0,Vp W.1.size 0,Vp (W.1.size+1) 0,Vi (1+k:Nat),u7,Vi i,Vp Z 0,Vs R a p.1.length c,Vi p.1.length,Vb false,undef,undef,undef,Vp Z 0,Vs R a p.1.length c,Vi i,Vp R (a+i*6),.agg #[Vb false,Vi x,Vi 1,Vi 1,Vb z,Sq r u t],Vp (W.1.size+1) 0,Vb false,undef,undef,undef,undef,undef,undef,undef,Vp (W.1.size+1) 2,Vi 1,u32,u33,u34,u35,u36,u37,u38,u39,u40,u41,u42,u43,u44,u45,u46,u47,u48,u49,u50,u51,u52,an],defers:=B.map mark}∧qV W.1.size wr B∧qg A W wr∧(∀b,D b->A b∨W.1.size<=b)∧(∀b,D b->b<wr.1.size)∧¬D W.1.size∧Holds wr W.1.size 392 #[.func (.yield l) #[] #[]]∧¬D (W.1.size+1)∧Holds wr (W.1.size+1) 63 #[Vb false,Vi x,Vi 1,Vi 1,Vb z,Sq r u t]∧b7 k D wr)
  (fun ad _=>2-(intOf (ad.tmps.getD 6 undef)).toNat) ?_ ?_
 ·exact⟨0,A,[],undef,undef,undef,undef,undef,undef,undef,undef,undef,undef,undef,undef,undef,undef,undef,undef,undef,undef,undef,undef,undef,undef,undef,jg _,rfl,qV.nil _ _,qg.below' au,fun b C=>.inl C,fun b C=>jf (ao.out b C) b',fun h=>absurd (ao.out _ h) (Nat.lt_irrefl _),y1,fun h=>absurd (ao.out _ h) (by omega),s1,(HJ.out 0 A).on h0 au⟩
 clear y1 h0 s1 v0 v1 V L hv hi ha a1;rintro ad wr ⟨k,D,B,u7,u32,u33,u34,u35,u36,u37,u38,u39,u40,u41,u42,u43,u44,u45,u46,u47,u48,u49,u50,u51,u52,an,hk,rfl,b2,al,ae,b9,br,zy,bs,zs,hj⟩;have E:=HF.out wr al;have p3:=zs.cell 3;simp at p3;have cl:=zy.size;have co:=zs.size;have a1:=hiD (show RowT 1 3 intV wr (Sq I d.length J) d by have:=E.ahd;rwa [bm.out]at this);by_cases cb:k<1
 ·obtain rfl:k=0:=by omega
  obtain⟨v0,v1,-⟩:=E.hp.g2;have V:=E.hi.cell 0;have L:=E.ha.cell 0;simp at V L;have HC:=hiD (fun w' (ai:Bz wr w')=>(⟨qd ai nLe v0,qd ai nLe v1,qd ai nLe V,qd ai nLe L⟩:Cq w' Z 0 (Vs R a p.1.length c)∧Cq w' Z 1 (Vi p.2)∧Cq w' ib 0 (Vi i)∧Cq w' ab 0 (Sq I d.length J)));clear E;go_wp2_with fail;refine xN [0,1,2,3,4,6] 10 4 (by kernel_rfl) (by kernel_rfl) (fun w'=>Bz wr w') bRf.drew (fun _ _ _ _ _ h=>DR rfl h) ?_;simp only[qI,jM,jN]
  repeat (refine qA rfl (fun w' hS=>by obtain⟨g0,g1,g2,g3⟩:=HC.out w' hS;(go_simp<;>rfl)) ?_)
  show zL _ _ _ _ _ _ _ _ _ _ _ _;simp only[Act.put,jC,jL,jK];rename_i K T;refine qC [5] (by kernel_rfl) (by simp) (by simp) ?_;intro j e;simp only[jI,jH,or_false]at e;subst e;refine qq rfl rfl ?_;go_simp;have aw:=(Below.refl wr.1.size wr).drew.alloc nLe (Oc #[Vi i] 3);refine⟨aw,?_⟩;refine qC [7] (by kernel_rfl) (by simp) (by simp) ?_;intro j e;simp only[jI,jH,or_false]at e;subst e;refine qq rfl rfl ?_;go_simp;refine(OT i 1 (by omega) (by omega) wr.1.size 0 1 _ (by simp)).mono ?_;rintro am w1 ⟨cq,rfl,ac,be⟩;have aj:=aw.trans (be.mono (by simp));refine⟨aj,?_⟩;obtain⟨a3,c3,rfl,_⟩:=ac.form;rw[List.length_replicate];refine qC [8] (by kernel_rfl) (by simp) (by simp) ?_;intro j e;simp only[jI,jH,or_false]at e;subst e;refine qq rfl rfl ?_;go_simp;have O:=aj.alloc aj.size (Oc #[Sq I d.length J,Sq a3 1 c3] 125);refine⟨O,?_⟩;refine qC [9] (by kernel_rfl) (by simp) (by simp) ?_;intro j e;simp only[jI,jH,or_false]at e;subst e;refine qq rfl rfl ?_;go_simp;rw[List.length_replicate]at ac;have bj:=Holds.fresh w1 125 #[Sq I d.length J,Sq a3 1 c3];have bf:Bz w1 (w1.alloc (Oc #[Sq I d.length J,Sq a3 1 c3] 125)):=bB;refine(P9 d (List.replicate 1 (i:Int)) _ _ _ (a1.out.later O) (ac.later bf) (by rw[List.length_replicate];omega) (by rw[List.length_replicate];omega) _ _ bj).mono ?_;rintro am w2 ⟨cr,rfl,a7,bg,b4⟩;replace b4:=fun b C=>jS O.size (b4 b C);have a5:=O.trans (bg.mono O.size);refine⟨a5,?_⟩;obtain⟨a4,c4,rfl,_⟩:=a7.form;obtain⟨n4,b3⟩:=xR (d++List.replicate 1 (i:Int)).length;rw[b3];refine vj (by kernel_rfl) (by kernel_rfl) ?_;refine qq rfl rfl ?_;go_simp;rw[show ((i:Int)+1)=((i+1:Nat):Int) by push_cast;rfl];refine(FI _ _ _ _ _ ⟨_,_,_,rfl⟩ ⟨_,rfl⟩ ⟨_,rfl⟩ ⟨_,_,_,rfl⟩).mono ?_;rintro am W6 ⟨rfl,zp,zi,za,ax⟩;have S:=a5.trans (ax.mono a5.size);rw[b3]at a7;replace a7:=hiD (a7.later ax);have cg:=a5.size;generalize w2.1.size=s at*;have az:=al.trans (qg.below' S);have a8:=b2.later S;have bk:=zy.later S;have c1:=zs.later S;have bz:=(HJ.out _ D).on hj S;have a6:∀b,D b->b<wr.1.size:=b9;have c0:=S.size;have ag:W.1.size<=W6.1.size:=az.size;clear HC v0 v1 V L aw be aj O bf bg a5 ax ac bj b2 zy zs al hj;generalize w1.1.size=wb at*;apply T;clear T;go_wp2_with fail;have bp:=hiD (bo.out (Vs R a p.1.length c) (Sq a4 n4 c4) s (s+1) (s+1+1));have cj:W.1.size<W6.1.size:=bk.size;refine yF rfl ER bp.out (by rintro i vs X ⟨am,rfl,_⟩;rfl)
   (fun i U X=>b7 i U X∧qg A W X∧Holds X W.1.size 392 #[.func (.yield l) #[] #[]]∧¬U W.1.size∧qV W.1.size X B∧Holds X (W.1.size+1) 63 #[Vb false,Vi x,Vi 1,Vi 1,Vb z,Sq r u t]∧¬U (W.1.size+1))
   (fun aq i X=>aq= .ret∧Jx i X∧qg A W X∧qV W.1.size X B) D ?_ ?_ ?_ ?_ ⟨bz,az,bk,br,a8,c1,bs⟩
   (fun j a' X=>∃(n:Option Addr) (m o:Nat),RowT 1 3 intV X (Sq n m o) [0,1]∧a'={tmps:=#[.func (.yield l) #[] #[],Vp ib 0,Vp Z 0,Vp ab 0,Vp W.1.size 0,Vp (W.1.size+1) 0,Vi 1,Sq n m o,Vi i,Vp Z 0,Vs R a p.1.length c,Vi p.1.length,Vb false,undef,undef,undef,Vp Z 0,Vs R a p.1.length c,Vi i,Vp R (a+i*6),.agg #[Vb false,Vi x,Vi 1,Vi 1,Vb z,Sq r u t],Vp (W.1.size+1) 0,Vb false,undef,undef,undef,undef,undef,undef,undef,Vp (W.1.size+1) 2,Vi 1,Vi 1,Vp (W.1.size+1) 3,Vi 1,Vb true,u36,u37,.agg #[Vs R a p.1.length c,Vi p.2],Vi i,Vi (i+1:Nat),Sq I d.length J,Vi i,Vs wr.1.size 0 1 1,Vi 1,Sq a3 1 c3,Vs wb 0 2 2,Sq a4 n4 c4,.func (.func 308) #[] #[Vp (s+1) 0,Vp s 0,Vp (s+1+1) 0],Sq n m o,u50,u51,u52,an],defers:=[]}) ?_ ?_ ?_ ?_ ?_
  ·intro j U;exact((HJ.out _ _).mono ag).and ((ym _ _).and ((qi _ _ _).and ((qe.pure _).and ((xA (fun K T=>a8.lt K T)).and ((qi _ _ _).and (qe.pure _))))))
  ·intro aq j;exact(qe.pure _).and (((b6.out _).mono ag).and ((ym _ _).and (xA (fun K T=>a8.lt K T))))
  ·intro X hX;have bt:=HF.out X (az.step hX ae);exact {hp:=zp.keepsN hX (fun h=>absurd (a6 _ h) (by omega)),hi:=zi.keepsN hX (fun h=>absurd (a6 _ h) (by omega)),ha:=za.keepsN hX (fun h=>absurd (a6 _ h) (by omega)),st:=bt.st,ahd:=by rw[bn.out];exact a7.out.keptD hX (fun b C h=>absurd (a6 b h) (by have:=b4 b (by rw[b3];exact C);omega))}
  ·exact fun b C=>jf (a6 b C) c0
  ·intro j a';exact qe.ex fun n=>qe.ex fun m=>qe.ex fun o=>((RowT.kept _ _).stable _).and (qe.pure _)
  ·rintro l' j vs X U K' hi b0 a9 aa ⟨M,f,y,a0,q,P,g⟩ ⟨am,rfl,Q⟩ bb;obtain⟨n,o,rfl,_⟩:=Q.form;generalize ([0,1]:List Int).length=m at*;have bc:=bb {tmps:=#[.func (.yield l) #[] #[],Vp ib 0,Vp Z 0,Vp ab 0,Vp W.1.size 0,Vp (W.1.size+1) 0,Vi 1,Sq n m o,Vi i,Vp Z 0,Vs R a p.1.length c,Vi p.1.length,Vb false,undef,undef,undef,Vp Z 0,Vs R a p.1.length c,Vi i,Vp R (a+i*6),.agg #[Vb false,Vi x,Vi 1,Vi 1,Vb z,Sq r u t],Vp (W.1.size+1) 0,Vb false,undef,undef,undef,undef,undef,undef,undef,Vp (W.1.size+1) 2,Vi 1,Vi 1,Vp (W.1.size+1) 3,Vi 1,Vb true,u36,u37,.agg #[Vs R a p.1.length c,Vi p.2],Vi i,Vi (i+1:Nat),Sq I d.length J,Vi i,Vs wr.1.size 0 1 1,Vi 1,Sq a3 1 c3,Vs wb 0 2 2,Sq a4 n4 c4,.func (.func 308) #[] #[Vp (s+1) 0,Vp s 0,Vp (s+1+1) 0],Sq n m o,u50,u51,u52,an],defers:=[]} X (KeepsFrom.refl _ _) (qg.refl _ _) ⟨M,f,y,a0,q,P,g⟩ ⟨n,m,o,Q,rfl⟩;have bq:=hiD bc;clear bc bb M f y q Q;gi_wp2;exact bq.out
  ·rintro l' j a' X U ca hi b0 a9 aa ⟨M,f,y,a0,q,P,g⟩ ⟨n,m,o,Q,rfl⟩;have a2:∀b,U b->A b∨W.1.size<=b:=fun b C=>(a9 b C).elim (fun h=>ae b h) (fun h=>.inr (by omega));obtain⟨fn,tmps,c2,c5,hy,hR⟩:=HY.out j #[Sq n m o] X U hi f a2 aa M ⟨_,rfl,Q⟩;have q0:=y.cell 0;simp at q0;have cm:=y.size;have cn:=P.size;clear Q;gi_wp2;refine⟨rfl,hR.mono ?_⟩;rintro e' X' ⟨ak,N,(⟨rfl,bl,h1,h2,e⟩|⟨rfl,ay⟩)⟩
   ·gi_wp2;exact⟨ak.mono' ag,N,bl,h1,h2,e,f.step N a2,y.keepsN N a0,fun h=>(h1 _ h).elim a0 (fun h=>by omega),q.from ak,P.keepsN N g,fun h=>(h1 _ h).elim g (fun h=>by omega)⟩
   ·gi_wp2;exact⟨ak.mono' ag,N,rfl,ay,f.step N a2,q.from ak⟩
  ·rintro H X U bu b0 a9 aa ⟨M,f,y,a0,q,P,g⟩ af;have a2:∀b,U b->A b∨W.1.size<=b:=fun b C=>(a9 b C).elim (fun h=>ae b h) (fun h=>.inr (by omega));have b1:=q.cons (K:=H) (by omega) (fun h=>by have:=a8.lt H h;omega) af;clear af;show Exit.inBlock _ _ _ _ _;go_wp2_with fail;exact⟨⟨1,U,H::B,_,_,_,_,_,_,_,_,_,_,_,_,_,_,_,_,_,_,_,_,_,_,_,by omega,rfl,b1,f,a2,aa,a0,y,g,P,M⟩,by simp[intOf]⟩
  ·rintro H aq j X bu hi b0 ⟨rfl,ay,f,q⟩ af;have b1:=q.cons (K:=H) (by omega) (fun h=>by have:=a8.lt H h;omega) af;apply wp_ret;refine DN (c:=H::B) b1 rfl ?_;intro X' bd v;exact⟨⟨_,rfl⟩,bd.keepsN f,.inr ⟨j,hi,bd _ (b6.out _) ay⟩⟩
 ·obtain rfl:k=1:=by omega
  go_wp2_with fail;refine D5 b2 rfl ?_;intro W' ar v;refine⟨⟨_,rfl⟩,ar.keepsN al,.inl ⟨D,ae,fun b C=>jf (b9 b C) ar.size,ar _ (HJ.out _ D) hj⟩⟩
theorem RM {p:Pt} (a:PtOk p):RwsI p 0:=MF a 0 (by omega) (MF a 1 (by omega) (RN a))
theorem yQ.kept (v:Value) (m:List Cm):Kept (fun W=>yQ W v m):=by
 rintro W l ⟨a,c,rfl,f,e,k,d⟩ g;refine⟨a,c,rfl,f,e,k,?_⟩;rcases d with rfl|⟨b,p,rfl,d⟩
 ·exact .inl rfl
 ·exact .inr ⟨b,p,rfl,fun i c n j v o=>km (d i c n j v o) g (fun h=>h)⟩
theorem qN.kept (v:Value) (r:List St):Kept (fun W=>qN W v r):=by
 rintro W m ⟨a,c,rfl,l,k,f,d⟩ e;refine⟨a,c,rfl,l,k,f,?_⟩;rcases d with rfl|⟨b,q,rfl,d⟩
 ·exact .inl rfl
 ·refine .inr ⟨b,q,rfl,fun i s n=>?_⟩;obtain⟨v,p,g⟩:=d i s n;exact⟨v,yQ.kept _ _ W m p e,fun j u o=>km (g j u o) e (fun h=>h)⟩
theorem qj.snoc {α:Type} {k n₀ E:Nat} {R:α->List Value->World->Prop} {W':World} {l:List α} {l':List (α×Cl k)} (e:l'.map (·.1)=l) {x:α} {cs:List Value} (hc:cs.length=k) {v':Value}
  (h:W'.ownsRow n₀ E k v' (l.length+1) ((l'.flatMap fun y=>y.2.1)++cs)) (hR:∀y∈l',R y.1 y.2.1 W') (hx:R x cs W'):qj k n₀ E R W' v' (l++[x]):=by
 refine⟨l'++[(x,⟨cs,hc⟩)],by simp[e],by simpa using h,fun y a=>?_⟩;rcases List.mem_append.1 a with a|a
 ·exact hR y a
 ·simp at a;subst a;exact hx
def rowR (c:List Int) (a:List Value) (W:World):Prop:=∃u,a=[u]∧RowT 1 3 intV W u c
theorem rowR.kept (c:List Int) (a:List Value):Kept (rowR c a):=Kept.ex fun _=>(Kept.pure _).and (RowT.kept _ _)
theorem qj.kept {α:Type} {k e E:Nat} {R:α->List Value->World->Prop} (d:∀x c,Kept (R x c)) (v:Value) (l:List α):Kept (fun W=>qj k e E R W v l):=fun _ _ h a=>qj.keptD d h a
theorem qP {W:World} {f E k n:Nat} {v:Value} {i:List Value} (h:W.ownsRow f E k v n i) {b:Nat} (d:v.ownBlock=some b):∃e q,W.1[b]?=some (.cells e E q):=by
 rcases h.2 with⟨rfl,_⟩|⟨g,j,a,rfl,_,c,_⟩
 ·cases d
 ·cases d;exact⟨_,_,c⟩
theorem RowT.keptT {α:Type} {k E:Nat} {g:α->List Value} {W f:World} {D:Nat->Prop} {u:Value} {l:List α} (h:RowT k E g W u l) (j:qg D W f) (i:∀b,D b->∀e q,W.1[b]?≠some (.cells e E q)):RowT k E g f u l:=
 h.keptD j fun b c d=>by
  obtain⟨e,q,a⟩:=h.2 b c;exact i b d e q a
theorem BX (p:Pt) (hp:PtOk p) (v:Value) (w:World) (hv:PatV w v p):
  Calls prog 258 #[v] w fun e w'=>∃I,e= .returned I∧qj 1 w.1.size 125 rowR w' I (zN p)∧Bz w w':=by
 obtain⟨bj,rfl,hs⟩:=hv;obtain⟨V,S,rfl,b9,bc⟩:=hs.form;have a7:=((Below.refl w.1.size w).alloc (Nat.le_refl _) (.cells #[.slice V p.1.length S,.int .i64 p.2] 25)).alloc (by simp) (.cells #[.slice none 0 0] 345);have C1:=Lib.hid (yZ p hp (.agg #[.slice V p.1.length S,.int .i64 p.2]) _ ⟨_,rfl,hs.mono a7 (Nat.le_refl _)⟩);have z0:=Holds.fresh' (w:=w.alloc (.cells #[.slice V p.1.length S,.int .i64 p.2] 25)) (b:=w.1.size+1) (by simp) 345 #[.slice none 0 0];have zp:=(Holds.fresh w 25 #[.slice V p.1.length S,.int .i64 p.2]).alloc (.cells #[.slice none 0 0] 345);obtain⟨s,P⟩:∃s:List Int,[0,1]=s:=⟨_,rfl⟩;rw[show zN p=[s] by rw[<-P];rfl];obtain⟨i0,b1,b6,b7,b8⟩:=info_parts (by kernel_rfl:(prog.info? 125).map (fun i=>(i.zero,i.size,i.bytes))=some (some (.slice none 0 0),1,24));refine qH func258 rfl ?_;simp only[ntmps258,List.size_toArray,List.length_cons,List.length_nil,Nat.reduceAdd,Nat.reduceSub,Array.replicate_succ,Array.replicate_zero,List.push_toArray,List.append_toArray,List.nil_append,List.cons_append];go_wp2_with fail;refine C1.out.mono ?_;rintro r w1 ⟨rfl,a0⟩;have z1:=z0.later a0;have O:=zp.later a0;have af:=a7.trans (a0.mono a7.size);clear C1 z0 zp;have q0:=O.cell 0;have q1:=O.cell 1;simp at q0 q1;have bd:=O.size;have al:=Lib.hid (RM hp);have an:=Lib.hid P;have a4:s.length<=4:=by rw[<-P];decide
 clear P;go_wp2_with fail;refine(FI _ _ _ _ _ ⟨_,_,_,rfl⟩ ⟨_,rfl⟩ ⟨_,rfl⟩ ⟨_,_,_,rfl⟩).mono ?_;rintro r w2 ⟨rfl,zq,zi,za,ag⟩;have a2:=af.trans (ag.mono af.size);have z2:=z1.later ag;have be:=z1.size;have bf:=z2.size;generalize w1.1.size=d at*;clear q0 q1 O;go_wp2_with fail;have bh:=a2.size;refine yF rfl ER (al.out (.slice V p.1.length S) (.slice none 0 0) d (d+1) (d+1+1)) (by rintro i vs X ⟨r,rfl,_⟩;rfl)
  (fun i D X=>∃v,D=(fun b=>b=w.1.size+1∨v.ownBlock=some b)∧Boxed X (w.1.size+1) 345 v∧qj 1 w.1.size 125 rowR X v ([s].take i)∧Bz w X)
  (fun _ _ _=>False) (fun b=>b=w.1.size+1) ?_ ?_ ?_ ?_ ⟨.slice none 0 0,by funext b;simp[Value.ownBlock],z2,qj.nil _ _ _ _ _,a2⟩
  (fun j a' X=>∃(U:Option Addr) (m R:Nat),RowT 1 3 intV X (.slice U m R) s∧a'={tmps:=#[.agg #[.slice V p.1.length S,.int .i64 p.2],.pointer (some ⟨w.1.size,0,none⟩),.pointer (some ⟨w.1.size+1,0,none⟩),.slice U m R,.agg #[.slice V p.1.length S,.int .i64 p.2],.bool true,.agg #[.slice V p.1.length S,.int .i64 p.2],.func (.func 308) #[] #[.pointer (some ⟨d+1,0,none⟩),.pointer (some ⟨d,0,none⟩),.pointer (some ⟨d+1+1,0,none⟩)],.slice U m R,undef,undef,undef,undef,undef,undef],defers:=[]}) ?_ ?_ ?_ ?_ ?_
 ·intro i D;exact qe.ex fun v=>(qe.pure _).and ((qe.boxed _ _ _).and (((qj.kept rowR.kept _ _).stable _).and (qe.below (by omega) (Nat.le_refl _))))
 ·intro aq i;exact qe.pure _
 ·intro X Q;exact {hp:=zq.keepsN Q (fun h=>by omega),hi:=zi.keepsN Q (fun h=>by omega),ha:=za.keepsN Q (fun h=>by omega),st:=(qN.kept _ _).on hs a2 Q (fun b z=>by omega),ahd:=RowT.nil _ _ _ _}
 ·intro b z;omega
 ·intro j a';exact qe.ex fun U=>qe.ex fun m=>qe.ex fun R=>((RowT.kept _ _).stable _).and (qe.pure _)
 ·rintro l' j vs X D' K' hi a3 a9 J hI ⟨r,rfl,C⟩ ac;rw[an.out]at C;obtain⟨U,R,rfl,_⟩:=C.form;generalize s.length=m at*;have ad:=fun ap ha=>ac ap X (KeepsFrom.refl _ _) (qg.refl _ _) hI ⟨U,m,R,C,ha⟩;have am:=Lib.hid ad;clear ad ac hI C;gi_wp2;exact am.out _ rfl
 ·rintro l' j a' X D' bb hi a3 a9 J ⟨v,rfl,f,H,M⟩ ⟨U,m,R,C,rfl⟩;obtain⟨l2,he,l,a1⟩:=H;have a6:j=0:=by omega
  have ba:=a4;have aj:[s].take (j+1)=[s].take j++[s]:=by rw[a6];rfl
  have ao:=Lib.hid aj;have ak:([s].take j).length=j:=by rw[a6];rfl
  rw[ak]at l;clear aj ak a6;have c0:=f.cell;gi_wp2;refine vx l' 2 (by kernel_rfl) (by kernel_rfl) (fun ⟨_,_,h⟩=>h) (by kernel_rfl) (fun W'=>W'.cell? ⟨w.1.size+1,0,none⟩=some v) c0 (fun _ _ ar _ _ h=>by cases ar<;>exact h) ?_;simp only[List.take_succ_cons,List.take_zero,List.drop_succ_cons,List.drop_zero]
  repeat (refine qA (by rfl) (fun w' hS=>by (go_simp<;>rfl)) ?_)
  simp only[Act.put,List.setIfInBounds_toArray,List.set_cons_succ,List.set_cons_zero];refine CU ?_;refine vV rfl ?_;go_simp;refine(FB intV (fun _=>rfl) Cc (.slice U m R) s X.drew (C.later (Below.refl _ _).drew).1 (by omega)).mono ?_;rintro r W ⟨bk,rfl,ah,ay⟩;have g:Bz X W:=(Below.refl _ _).drew.trans ay;have o:=Holds.later f g;refine⟨o.cell 0,?_⟩;obtain⟨ga,gc,rfl⟩:=qh ah;have a8:=zD l g;have a5:∀y∈l2,rowR y.1 y.2.1 W:=fun y u=>(rowR.kept _ _).later (a1 y u) g;have b4:=RowT.of_own (k:=1) (enc:=intV) (fun _=>rfl) ah rfl;have bg:∀b,v.ownBlock=some b->b<X.1.size:=fun b z=>J b (.inr z);refine Gs (B:=w.1.size+1) (y:=w.1.size) (k:=j) (T:=345) (E:=125) (t:=1) (N:=24) (g:=12) (n:=13) (x:= .slice ga s.length gc) (v:=v)
   rfl rfl rfl rfl rfl rfl rfl rfl rfl (fun w=>by kernel_rfl) (fun w=>by kernel_rfl) underlying345 b1 b6 b7 b8 rfl (by decide) (by decide) rfl rfl (by simp[Value.cells,Value.oneCell']) (by simp) (by simp) rfl (fun _=>rfl)
   o a8 (by have:=M.size;have:=g.size;omega) (by omega) (by unfold maxLen;omega) (by omega) ?_ ?_
  ·intro w' z _ _;exact z.cell
  ·intro I w' ax ai b2 K b0 aw;have A:qg (fun b=>b=w.1.size+1∨v.ownBlock=some b) W w':=⟨K.size,fun k t bi q hk L=>by
    have h1:k≠w.1.size+1:=fun e=>L (.inl e);exact b0 k _ h1 hk (fun e=>L (.inr e))⟩
   have b3:qg (fun b=>b=w.1.size+1∨v.ownBlock=some b) X w':=(qg.below' g).trans A;have ab:∀b,(b=w.1.size+1∨v.ownBlock=some b)->∀t q,W.1[b]?≠some (.cells t 3 q):=by
    rintro b (rfl|z) t q a
    ·unfold Holds at o;rw[o]at a;cases a
    ·obtain⟨aa,q',F⟩:=qP a8 z;rw[F]at a;cases a
   refine⟨((Kqb g).trans b2).from _,b3,fun b=>b=w.1.size+1∨I.ownBlock=some b,?_,?_,I,rfl,ax,?_,?_⟩
   ·rintro b (rfl|z)
    ·exact .inl (.inl rfl)
    ·exact(aw b z).elim (fun h=>.inl (.inr h)) (fun h=>.inr (Nat.le_trans g.size h))
   ·rintro b (rfl|z)
    ·exact Nat.lt_of_lt_of_le o.size K.size
    ·obtain⟨aa,q',F⟩:=qP ai z;exact(Array.getElem?_eq_some_iff.1 F).1
   ·rw[ao.out];refine qj.snoc he (cs:=[.slice ga s.length gc]) rfl (by rw[List.length_take,Nat.min_eq_left (by omega)];exact ai) (fun y u=>?_) ⟨_,rfl,b4.keptT A ab⟩;obtain⟨uu,e1,e2⟩:=a5 y u;exact⟨uu,e1,e2.keptT A ab⟩
   ·exact M.trans ((g.mono M.size).trans K)
 ·rintro Z X D' av a3 a9 J ⟨v,rfl,f,H,M⟩ ae;rw[show [s].take 1=[s]from rfl]at H;have c0:=f.cell;have hf:=f.frozen;obtain⟨c,n,rfl,_⟩:=H.deep.form;show Exit.inBlock _ _ _ _ _;go_wp2_with fail;have b5:=f.set (.slice c 1 n);have N:=(KeepsOthers.setCell X ⟨w.1.size+1,0,none⟩ (.slice c 1 n)).same Z _ ae rfl;have au:=M.setCell (p:=⟨w.1.size+1,0,none⟩) (by simp) (.slice c 1 n);have az:=qW (c:= .deferred none) N rfl b5.cell;have A:qg (fun b=>b=w.1.size+1) X ((X.setCell ⟨w.1.size+1,0,none⟩ (.slice c 1 n)).putObj Z (.deferred none)):=(qg.set (D:=fun b=>b=w.1.size+1) rfl 0 _).trans (qg.putObj N rfl);obtain⟨l2,he,l,a1⟩:=H;have L:∀b,(.slice c 1 n:Value).ownBlock=some b->¬b=w.1.size+1:=fun b z e=>by
   obtain⟨aa,q',F⟩:=qP l z;subst e;unfold Boxed at f;rw[f]at F;cases F
  refine qZ (v:= .slice c 1 n) N (by simp[results,results258,go_sem,az]) ⟨_,rfl,⟨l2,he,yx l A L,fun y u=>?_⟩,qB au N (by omega)⟩;obtain⟨uu,e1,e2⟩:=a1 y u;refine⟨uu,e1,e2.keptT A fun b z t q a=>?_⟩;subst z;unfold Boxed at f;rw[f]at a;cases a
 ·rintro Z aq j X av hi a3 hf ae;exact hf.elim
abbrev El:=Mt×Cl 2
def elV (y:El):List Value:=y.2.1
theorem OJ (g:Option Addr) (n j:Nat) (l:n<2) (k:Nat) (i:World):
  Cs 286 #[Sq g n j,.func (.func 287) #[] #[Vp k 0]] i fun e w'=>e=Rt (.tuple #[])∧w'=i:=by
 have f:¬(1:Int)<n:=by omega
 have d:¬(20:Int)<=n:=by omega
 have h:¬(20:Int)<n:=by omega
 have a:Cs 346 #[Sq g n j,Vi 0,Vi n,.func (.func 287) #[] #[Vp k 0]] i fun e w'=>e=Rt (.tuple #[])∧w'=i:=by
  go_enter func346,ntmps346;go_wp2_with fail;go_loopw [8] (fun q wr=>q=Vi 1∧wr=i) (fun _ _=>0);case atStart=>exact⟨rfl,rfl⟩
  case round=>
   obtain⟨rfl,rfl⟩:=hrel;go_wp2_with fail;go_end0;exact⟨rfl,rfl⟩
 have a:=hiD a;have b:Cs 319 #[Sq g n j,Vi n,.func (.func 287) #[] #[Vp k 0]] i fun e w'=>e=Rt (.tuple #[])∧w'=i:=by
  go_enter func319,ntmps319;go_wp2_with fail;go_loopw [7,8] (fun x y wr=>x=Vi 0∧y=Vi 20∧wr=i) (fun _ _ _=>0);case atStart=>exact⟨rfl,rfl,rfl⟩
  case round=>
   obtain⟨rfl,rfl,rfl⟩:=hrel;go_wp2_with fail;refine a.out.mono ?_;rintro r c ⟨rfl,rfl⟩;go_wp2_with fail;go_loopw [6] (fun x wr=>x=Vi 20∧wr=c) (fun _ _=>0);case atStart=>exact⟨rfl,rfl⟩
   case round=>
    obtain⟨rfl,rfl⟩:=hrel;go_wp2_with fail;go_end0;exact⟨rfl,rfl⟩
 have b:=hiD b;clear a f d h;go_enter func286,ntmps286;go_wp2_with fail;refine b.out.mono ?_;rintro r c ⟨rfl,rfl⟩;go_wp2_with fail;go_end0;exact⟨rfl,rfl⟩
theorem mtR.keptT {m:Mt} {f:List Value} {W g:World} {D:Nat->Prop} (h:mtR m f W) (j:qg D W g) (i:∀b,D b->∀f q,W.1[b]?≠some (.cells f 3 q)∧W.1[b]?≠some (.cells f 36 q)):mtR m f g:=by
 obtain⟨r,e,k,d,c⟩:=h;exact⟨r,e,k,d.keptT j (fun b a f q=>(i b a f q).1),c.keptT j (fun b a f q=>(i b a f q).2)⟩
theorem mtR.later {m:Mt} {d:List Value} {W c:World} (h:mtR m d W) (f:Bz W c):mtR m d c:=by
 obtain⟨r,e,g,b,a⟩:=h;exact⟨r,e,g,b.later f,a.later f⟩
theorem vH {W i:World} {r E k n:Nat} {v:Value} {s:List Value} (h:W.ownsRow r E k v n s) (o:W.grownBy i v.ownBlock) {m:Mt} {g:List Value} (p:mtR m g W) (j:E≠3) (l:E≠36):mtR m g i:=
 p.keptT (D:=fun b=>v.ownBlock=some b) (qg.row o (fun _ a=>a)) fun b a g q=>by
  obtain⟨d,f,c⟩:=qP h a;refine⟨fun e=>?_,fun e=>?_⟩
  ·rw[c]at e;cases e;exact j rfl
  ·rw[c]at e;cases e;exact l rfl
theorem DW (p:Pt) (l:List Mt) (a9:∀m∈l,MtSm p m) (ak:l.length<2) (v lv:Value) (w:World) (hv:PatV w v p) (R:qv 2 127 mtR w lv l):
  Cs 260 #[v,lv] w fun e w'=>∃V,e=Rt V∧qj 2 w.1.size 127 mtR w' V (sortM p l)∧Bz w w':=by
 obtain⟨i0,aj,al,am,an⟩:=Vv;obtain⟨ap,rfl,S⟩:=hv;obtain⟨u,c1,rfl,ar,ay⟩:=S.form;obtain⟨la,lc,rfl,aw⟩:=R.form;have av:l.length<=1000000:=by omega
 have M:=bA w (Oc #[Sq u p.1.length c1,Vi p.2] 25);have zp:=Holds.fresh w 25 #[Sq u p.1.length c1,Vi p.2];have a7:=hiD a9;have Z:=hiD R;have HS:=hiD S;clear a9 R S;go_enter func260,ntmps260;go_wp2_with fail;generalize ag:w.alloc (Oc #[Sq u p.1.length c1,Vi p.2] 25)=W at*;clear ag;go_loopw [4,9] (fun ao q wr=>∃(k:Nat) (L:List El),k<=l.length∧q=Vi k∧Hid (L.map (fun y=>y.1)=l.take k)∧wr.ownsRow W.1.size 127 2 ao k (L.flatMap elV)∧Hid (∀y∈L,mtR y.1 y.2.1 wr)∧Bz W wr) (fun _ q _=>l.length-(intOf q).toNat);case atStart=>exact⟨0,[],jg _,rfl,hiD rfl,js _ _ _ _,hiD (fun y s=>nomatch s),Below.refl _ _⟩
 case round=>
  obtain⟨k,L,hk,rfl,o,g,c,A⟩:=hrel;have a3:=M.trans (A.mono M.size);by_cases E:k<l.length
  ·have hx:l[k]?=some l[k]:=jB E;have a6:qv 2 127 mtR wr (Sq la l.length lc) l:=(qv.abides (F:=fun _=>false) rfl (fun m cs=>(qM.ex fun r=>qM.ex fun e=>(qM.pure _).and (MtV.abides rfl rfl r e m))) _ _).later Z.out a3;obtain⟨b,az,aq,cs,e1,hc,au,hm,d⟩:=a6.get hx;cases e1;obtain⟨r,e,rfl,t⟩:=hm;obtain⟨T,U,rfl,_⟩:=t.1.form;obtain⟨P,Q,rfl,_⟩:=t.2.form;have p0:=d 0 _ rfl;have p1:=d 1 _ rfl;have z:=a7.out _ (dI E);have a4:l.take (k+1)=l.take k++[l[k]]:=ja E;have D:=(Below.refl wr.1.size wr).alloc nLe (Oc #[Sq T l[k].row.length U,Sq P l[k].2.length Q] 127);have I:MtV _ (Sq T l[k].row.length U) (Sq P l[k].2.length Q) l[k]:=⟨t.1.later D,t.2.later D⟩;have X:=hiD (kO (Sq T l[k].row.length U) (Sq P l[k].2.length Q) l[k] _ I z.row z.evl);generalize l[k]=x at*;have aa:=hiD a4;clear d t I z a4 hx a6;rw[Nat.add_zero]at p0;go_wp2_with fail;refine X.out.mono ?_;rintro r' K ⟨rv,ev,rfl,O,ah⟩;have B:=D.trans (ah.mono D.size);have H:=hiD O;have a8:=zD g B;have a2:=hiD (fun y s=>(c.out y s).later B);clear X p0 p1 O g c;have ax:W.1.size<=K.1.size:=by have:=A.size;have:=B.size;omega
   obtain⟨i,j,rfl,_⟩:=H.out.1.form;obtain⟨f,h,rfl,_⟩:=H.out.2.form;have a1:=B.alloc B.size (Oc #[Sq i x.row.length j,Sq f x.2.length h] 127);have C:=a8.alloc (Oc #[Sq i x.row.length j,Sq f x.2.length h] 127);go_wp2_with (at_builtin;refine wpList_append_own _ rfl _ _ 115 rfl W.1.size 127 i0 (.agg #[Vn,Vn]) 2 48 underlying115 aj al am an rfl (by decide) _ k (L.flatMap elV) rfl C (Ad K.1.size 0) 1 1 [Sq i x.row.length j,Sq f x.2.length h] rfl rfl ?c1 ?c2 ?c3 ?c4 ?c5 ?_);case c1=>exact qR K [Sq i x.row.length j,Sq f x.2.length h] 127
   case c2=>
    intro ap hu;simp only[jI,jH,or_false]at hu;rcases hu with rfl|rfl<;>rfl
   case c3=>unfold maxLen;omega
   case c4=>omega
   case c5=>simp;omega
   intro V w2 ac a _;have ai:=(A.trans (a1.mono A.size)).grown a (jS A.size a1.size) (fun b hb=>qE C b hb);have J:mtR x [Sq i x.row.length j,Sq f x.2.length h] K:=⟨_,_,rfl,H.out⟩;have a5:Bz K (K.alloc (Oc #[Sq i x.row.length j,Sq f x.2.length h] 127)):=bB;have a0:=hiD (vH C a (J.later a5) (by decide) (by decide));have ab:=hiD (fun y s=>vH C a ((a2.out y s).later a5) (by decide) (by decide));clear J a2 H a C a8;go_wp2_with fail;rw[show ((k:Int)+1)=((k+1:Nat):Int) by push_cast;rfl];refine⟨⟨k+1,L++[(x,⟨[Sq i x.row.length j,Sq f x.2.length h],rfl⟩)],E,rfl,hiD (by rw[aa.out,dC,o.out];rfl),by simpa[elV]using ac,hiD (fun y s=>?_),ai⟩,by simp[intOf];omega⟩;rcases List.mem_append.1 s with s|s
   ·exact ab.out y s
   ·simp at s;subst s;exact a0.out
  ·obtain rfl:k=l.length:=by omega
   have N:L.map (fun y=>y.1)=l:=by rw[o.out,jn]
   have af:L.length=l.length:=by rw[<-N,List.length_map]
   have CS:=hiD (fun ae ad (w':World)=>OJ ae l.length ad ak w.1.size w');have n:qj 2 w.1.size 127 mtR wr _ l:=⟨L,N,yV g M.size,c.out⟩;have HD:=hiD n;obtain⟨oa,oc,rfl,_⟩:=n.deep.form;clear n g c o N af Z a7 HS;go_wp2_with fail;refine(CS.out _ _ _).mono ?_;rintro r w3 ⟨rfl,rfl⟩;go_wp2_with fail;go_ret;exact⟨_,rfl,HD.out,a3⟩
theorem qD {w w':World} {v:Value} {l:List Mt} (h:qv 2 127 mtR w v l) (a:Bz w w'):qv 2 127 mtR w' v l:=
 (qv.abides (F:=fun _=>false) rfl (fun m _=>(qM.ex fun r=>qM.ex fun e=>(qM.pure _).and (MtV.abides rfl rfl r e m))) _ _).later h a
theorem NW (b:Mt->Bool) (o:Nat) (cb:Array Value) (eg:∀aa w,(callFunc o aa).run prog w= .ok (.enter o aa) w) (l:List Mt) (ab:∀m∈l,m.row.length<=1000000∧m.2.length<=1000000) (ar:l.length<=1000000) (lv:Value) (w:World) (V:qv 2 127 mtR w lv l)
  (hc:∀u,Bz w u->∀m∈l,∀r e,MtV u r e m->Cs o (#[.agg #[r,e]]++cb) u fun x w'=>x=Rt (Vb (b m))∧Bz u w'):
  Cs 255 #[lv,.func (.func o) #[] cb] w fun e w'=>∃Z,e=Rt Z∧qj 2 w.1.size 127 mtR w' Z (l.filter b)∧Bz w w':=by
 obtain⟨i0,ah,aj,ak,al⟩:=Vv;obtain⟨la,lc,rfl,aq⟩:=V.form;have ad:=hiD ab;have HL:=hiD V;have HC:=hiD hc;clear ab V hc;go_enter func255,ntmps255;go_wp2_with fail;go_loopw [4,9] (fun am q wr=>∃(k n:Nat) (L:List El),k<=l.length∧n<=k∧q=Vi k∧Hid (L.length=n∧L.map (fun y=>y.1)=(l.take k).filter b)∧wr.ownsRow w.1.size 127 2 am n (L.flatMap elV)∧Hid (∀y∈L,mtR y.1 y.2.1 wr)∧Bz w wr) (fun _ q _=>l.length-(intOf q).toNat);case atStart=>exact⟨0,0,[],jg _,Nat.le_refl _,rfl,hiD ⟨rfl,rfl⟩,js _ _ _ _,hiD (fun y p=>nomatch p),Below.refl _ _⟩
 case round=>
  obtain⟨k,n,L,hk,hn,rfl,c,I,H,a⟩:=hrel;by_cases s:k<l.length
  ·have hx:l[k]?=some l[k]:=jB s;obtain⟨bb,av,an,cs,e1,ao,ap,hm,f⟩:=(qD HL.out a).get hx;cases e1;obtain⟨r,e,rfl,t⟩:=hm;obtain⟨W,X,rfl,_⟩:=t.1.form;obtain⟨T,U,rfl,_⟩:=t.2.form;have p0:=f 0 _ rfl;have p1:=f 1 _ rfl;have a2:=ad.out _ (dI s);have a8:l.take (k+1)=l.take k++[l[k]]:=ja s;have v:=(Below.refl wr.1.size wr).alloc nLe (Oc #[Sq W l[k].row.length X,Sq T l[k].2.length U] 127);have zx:=Holds.fresh wr 127 #[Sq W l[k].row.length X,Sq T l[k].2.length U];have a1:MtV _ (Sq W l[k].row.length X) (Sq T l[k].2.length U) l[k]:=⟨t.1.later v,t.2.later v⟩;have CB:=hiD (HC.out _ (a.trans (v.mono a.size)) l[k] (dI s) _ _ a1);have M:=hiD a1;generalize l[k]=x at*;have a4:=hiD a8;clear f t a1 a8 hx;rw[Nat.add_zero]at p0;go_wp2_with fail
   go_at_fn o
   refine CB.out.mono ?_;rintro r' w0 ⟨rfl,F⟩;have C:=v.trans (F.mono v.size);have P:=zD I C;have S:=hiD (fun y p=>(H.out y p).later C);have Q:=zx.later F;have B:MtV w0 _ _ x:=⟨M.out.1.later F,M.out.2.later F⟩;clear CB p0 p1 I H M zx;cases z:b x with
   |false=>
     have A:(l.take (k+1)).filter b=(l.take k).filter b:=by rw[a4.out,List.filter_append];simp[z]
     have O:=hiD A;clear A z B Q;go_wp2_with fail;rw[show ((k:Int)+1)=((k+1:Nat):Int) by push_cast;rfl];exact⟨⟨k+1,n,L,s,by omega,rfl,hiD ⟨c.out.1,by rw[O.out];exact c.out.2⟩,P,S,a.trans (C.mono a.size)⟩,by simp[intOf];omega⟩
   |true=>
     have A:(l.take (k+1)).filter b=(l.take k).filter b++[x]:=by rw[a4.out,List.filter_append];simp[z]
     have O:=hiD A;have CO:=hiD (kO _ _ x w0 B a2.1 a2.2);obtain⟨t0,t1,-⟩:=Q.g2;clear A z B Q;go_wp2_with fail;refine CO.out.mono ?_;rintro r' J ⟨rv,ev,rfl,a6,N⟩;have K:=C.trans (N.mono C.size);have E:=hiD a6;have a3:=zD P N;have a0:=hiD (fun y p=>(S.out y p).later N);clear CO t0 t1 a6 P S;have au:w.1.size<=J.1.size:=by have:=a.size;have:=K.size;omega
     obtain⟨i,j,rfl,_⟩:=E.out.1.form;obtain⟨g,h,rfl,_⟩:=E.out.2.form;have a7:=K.alloc K.size (Oc #[Sq i x.row.length j,Sq g x.2.length h] 127);have D:=a3.alloc (Oc #[Sq i x.row.length j,Sq g x.2.length h] 127);go_wp2_with (at_builtin;refine wpList_append_own _ rfl _ _ 115 rfl w.1.size 127 i0 (.agg #[Vn,Vn]) 2 48 underlying115 ah aj ak al rfl (by decide) _ n (L.flatMap elV) rfl D (Ad J.1.size 0) 1 1 [Sq i x.row.length j,Sq g x.2.length h] rfl rfl ?c1 ?c2 ?c3 ?c4 ?c5 ?_);case c1=>exact qR J [Sq i x.row.length j,Sq g x.2.length h] 127
     case c2=>
      intro aw hu;simp only[jI,jH,or_false]at hu;rcases hu with rfl|rfl<;>rfl
     case c3=>unfold maxLen;omega
     case c4=>omega
     case c5=>simp;omega
     intro Z w2 af d _;have ag:=(a.trans (a7.mono a.size)).grown d (jS a.size a7.size) (fun b hb=>qE D b hb);have a5:mtR x [Sq i x.row.length j,Sq g x.2.length h] J:=⟨_,_,rfl,E.out⟩;have a9:Bz J (J.alloc (Oc #[Sq i x.row.length j,Sq g x.2.length h] 127)):=bB;have ac:=hiD (vH D d (a5.later a9) (by decide) (by decide));have ae:=hiD (fun y p=>vH D d ((a0.out y p).later a9) (by decide) (by decide));clear a5 a0 E d D a3;go_wp2_with fail;rw[show ((k:Int)+1)=((k+1:Nat):Int) by push_cast;rfl];refine⟨⟨k+1,n+1,L++[(x,⟨[Sq i x.row.length j,Sq g x.2.length h],rfl⟩)],s,by omega,rfl,hiD ⟨by rw[jZ,c.out.1];rfl,by rw[O.out,dC,c.out.2];rfl⟩,by simpa[elV]using af,hiD (fun y p=>?_),ag⟩,by simp[intOf];omega⟩;rcases List.mem_append.1 p with p|p
     ·exact ae.out y p
     ·simp at p;subst p;exact ac.out
  ·obtain rfl:k=l.length:=by omega
   go_wp2_with fail;go_ret;obtain⟨ai,R⟩:=c.out;rw[jn]at R;have e:(l.filter b).length=n:=by rw[<-R,List.length_map,ai]
   exact⟨_,rfl,⟨L,R,by rw[e];exact I,H.out⟩,a⟩
theorem Jr:En0 364:=enters_of func364 rfl rfl
theorem Ju {p:Pt} (R:PtOk p) (m:Mt) (N:0<m.2.length) (L:Int) (u r e:Value) (Q K:Nat) (w:World) (O:Holds w Q 25 #[u,Vi p.2]) (J:qN w u p.1) (P:Holds w K 3 #[Vi L]) (I:MtV w r e m):
  Cs 364 #[.agg #[r,e],Vp Q 0,Vp K 0] w fun x w'=>x=Rt (Vb (decide (yH p m<L)))∧Bz w w':=by
 obtain⟨B,q,rfl,l,j⟩:=J.form;obtain⟨n,E,rfl,_⟩:=I.1.form;obtain⟨D,F,rfl,_⟩:=I.2.form;have a:=bA w (Oc #[Sq n m.row.length E,Sq D m.2.length F] 127);have z:=Holds.fresh w 127 #[Sq n m.row.length E,Sq D m.2.length F];obtain⟨c,f⟩:=xR (w.alloc (Oc #[Sq n m.row.length E,Sq D m.2.length F] 127));rw[f]at a z;obtain⟨y,b⟩:∃x,yH p m=x:=⟨_,rfl⟩;rw[b];have d:=J.mono a nLe;have k:=hiD (fun M (H:Bz c M)=>(AM R (.agg #[Sq B p.1.length q,Vi p.2]) (Sq n m.row.length E) (Sq D m.2.length F) m M ⟨_,rfl,d.mono H nLe⟩ ((I.2.later a).later H).1 N).mono (fun e w' h=>(⟨by rw[h.1,b],H.trans (h.2.mono H.size)⟩:e=Rt (Vi y)∧Bz c w')));obtain⟨t,v,-⟩:=(O.later a).l2;obtain⟨A,s,-⟩:=z.l2;have o:∀u:Lat c,Cq u.v K 0 (Vi L):=fun u=>u.cell ((P.later a).cell 0);clear b J d I O P N;go_enter func364,ntmps364;go_wp2_with fail;clear f z;refine qz c (by kernel_rfl) (by kernel_rfl) bRf ?_
 repeat (go_big_quiet_step (first|with_reducible exact Lat.call k.out _))
 refine wpQuiet_nil ?_;rintro C ⟨⟨_,g⟩,rfl⟩;clear t v A s o k;have i:=a.trans (g.mono a.size);go_wp2_with fail;go_ret;exact⟨rfl,i⟩
theorem L3:En0 256:=enters_of func256 rfl rfl
theorem Ma {p:Pt} (R:PtOk p) (m:Mt) (N:0<m.2.length) (L:Int) (u r e:Value) (Q K:Nat) (w:World) (O:Holds w Q 25 #[u,Vi p.2]) (J:qN w u p.1) (P:Holds w K 3 #[Vi L]) (I:MtV w r e m):
  Cs 256 #[.agg #[r,e],Vp Q 0,Vp K 0] w fun x w'=>x=Rt (Vb (decide (L<=yH p m)))∧Bz w w':=by
 obtain⟨B,q,rfl,l,j⟩:=J.form;obtain⟨n,E,rfl,_⟩:=I.1.form;obtain⟨D,F,rfl,_⟩:=I.2.form;have a:=bA w (Oc #[Sq n m.row.length E,Sq D m.2.length F] 127);have z:=Holds.fresh w 127 #[Sq n m.row.length E,Sq D m.2.length F];obtain⟨c,f⟩:=xR (w.alloc (Oc #[Sq n m.row.length E,Sq D m.2.length F] 127));rw[f]at a z;obtain⟨y,b⟩:∃x,yH p m=x:=⟨_,rfl⟩;rw[b];have d:=J.mono a nLe;have k:=hiD (fun M (H:Bz c M)=>(AM R (.agg #[Sq B p.1.length q,Vi p.2]) (Sq n m.row.length E) (Sq D m.2.length F) m M ⟨_,rfl,d.mono H nLe⟩ ((I.2.later a).later H).1 N).mono (fun e w' h=>(⟨by rw[h.1,b],H.trans (h.2.mono H.size)⟩:e=Rt (Vi y)∧Bz c w')));obtain⟨t,v,-⟩:=(O.later a).l2;obtain⟨A,s,-⟩:=z.l2;have o:∀u:Lat c,Cq u.v K 0 (Vi L):=fun u=>u.cell ((P.later a).cell 0);clear b J d I O P N;go_enter func256,ntmps256;go_wp2_with fail;clear f z;refine qz c (by kernel_rfl) (by kernel_rfl) bRf ?_
 repeat (go_big_quiet_step (first|with_reducible exact Lat.call k.out _))
 refine wpQuiet_nil ?_;rintro C ⟨⟨_,g⟩,rfl⟩;clear t v A s o k;have i:=a.trans (g.mono a.size);go_wp2_with fail;go_ret;exact⟨rfl,i⟩
theorem Gh {p:Pt} (N:PtOk p) (l:List Mt) (F:∀m∈l,MtSm p m) (M:l.length<=1000000) (n:Int) (v J:Value) (w:World) (O:PatV w v p) (H:qv 2 127 mtR w J l):
  Cs 227 #[v,J,Vi n] w fun e w'=>∃h,e=Rt h∧qj 2 w.1.size 127 mtR w' h (l.filter fun m=>decide (n<=yH p m))∧Bz w w':=by
 have B:=hmf1;obtain⟨u,rfl,I⟩:=O;obtain⟨i,f,rfl,t,o⟩:=I.form;obtain⟨P,Q,rfl,z⟩:=H.form;have a:=(bA w (Oc #[Sq i p.1.length f,Vi p.2] 25)).alloc (by simp) (Oc #[Vi n] 3);have k:=(Holds.fresh w 25 #[Sq i p.1.length f,Vi p.2]).alloc (Oc #[Vi n] 3);have K:=Holds.fresh' (w:=w.alloc (Oc #[Sq i p.1.length f,Vi p.2] 25)) (b:=w.1.size+1) (by simp) 3 #[Vi n];have q:=hiD (NW (fun m=>decide (n<=yH p m)) 256 #[Vp w.1.size 0,Vp (w.1.size+1) 0] L3 l (fun m d=>⟨(F m d).row,(F m d).evl⟩) M _ _ (qD H a)
  (fun C c m d r e g=>Ma N m (F m d).pos n _ r e w.1.size (w.1.size+1) C (k.later c) ((I.mono a nLe).mono c nLe) (K.later c) g))
 clear I H F k K;go_enter func227,ntmps227;go_wp2_with fail;refine q.out.mono ?_;rintro r E ⟨h,rfl,s,j⟩;have x:=hiD s;clear s q;go_wp2_with fail;go_ret;obtain⟨L,A,y,D⟩:=x.out;exact⟨_,rfl,⟨L,A,yV y a.size,D⟩,a.trans (j.mono a.size)⟩
end
end Go.Proofs.YtnmpcdnbklmhkaaGreatDoor
