import Derived.Test.YtnmpcdnbklmhkaaGreatDoorQBb
import Derived.Test.YtnmpcdnbklmhkaaGreatDoorQBc
import Derived.Test.YtnmpcdnbklmhkaaGreatDoorQAh
import Derived.Test.YtnmpcdnbklmhkaaGreatDoorQAt
namespace Go.Proofs.YtnmpcdnbklmhkaaGreatDoor
open Go.Proofs.Tryz Go.RowKit
set_option maxRecDepth 100000
set_option linter.all false
set_option maxHeartbeats 8000000
section
attribute [local go_sem] Oper.semAt_some
attribute [local go_sem ↓] Go.wp_at_zero Go.wp_at_succ
theorem L9 {p:Pt} (U:PtOk p) {s:List Ev} (hS:s=[l2,l1]) (m:Mt) (y:MtSm p m) (v sv ae e:Value) (w:World) (hv:PatV w v p) (a2:RowT 5 36 evV w sv s) (N:MtV w ae e m):
  Cs 377 #[v,sv,.agg #[ae,e]] w fun x w'=>x=Rt (Vb true)∧Bz w w':=by
 have bd:=hst1;obtain⟨u,rfl,W⟩:=hv;obtain⟨l,j,rfl,b4,bb⟩:=W.form;obtain⟨Z,M,rfl,bc⟩:=a2.form;obtain⟨K,r,rfl,b5⟩:=N.2.form;have A:SOk s:= .inr (.inr hS);have ao:s=m.2:=by rw[hS,y];rfl
 have a9:=hiD (show m.2.length=2 by rw[y];rfl);have am:∀k x,m.2[k]?=some x->findN s x=k∧hasE s x=true∧sameE x x=true∧EP (m.2.take k) x=true∧Ah s (m.2.take k):=by
  rw[hS,y];intro k x I;rcases k with _|_|k
  ·cases I;exact⟨by decide,by decide,by kernel_rfl,by decide,.inl rfl⟩
  ·cases I;exact⟨by decide,by decide,by kernel_rfl,by decide,.inr ⟨rfl,.inl rfl⟩⟩
  ·simp[lM]at I
 obtain⟨S,V,T,eq,az,-,-⟩:=MK (show RowV 1 intV w ae [0,1] by have:=N.1.1;rw[y]at this;exact this);subst eq;have a5:=((bA w (Oc #[Sq l p.1.length j,Vi p.2] 25)).alloc (by simp) (Oc #[Vs S V 2 T,Sq K m.2.length r] 127)).alloc (by simp;omega) (Oc #[Sq l p.1.length j,Vi p.2,Sq Z s.length M] 350);have Q:=((Holds.fresh w 25 #[Sq l p.1.length j,Vi p.2]).alloc (Oc #[Vs S V 2 T,Sq K m.2.length r] 127)).alloc (Oc #[Sq l p.1.length j,Vi p.2,Sq Z s.length M] 350);have t:=(Holds.fresh' (w:=w.alloc (Oc #[Sq l p.1.length j,Vi p.2] 25)) (b:=w.1.size+1) (by simp) 127 #[Vs S V 2 T,Sq K m.2.length r]).alloc (Oc #[Sq l p.1.length j,Vi p.2,Sq Z s.length M] 350);have J:=Holds.fresh' (w:=(w.alloc (Oc #[Sq l p.1.length j,Vi p.2] 25)).alloc (Oc #[Vs S V 2 T,Sq K m.2.length r] 127)) (b:=w.1.size+1+1) (by simp) 350 #[Sq l p.1.length j,Vi p.2,Sq Z s.length M];have C1:=hiD (fun q (n:Bz w q)=>yZ p U (.agg #[Sq l p.1.length j,Vi p.2]) q ⟨_,rfl,W.mono n nLe⟩);have O:=fun q (n:Bz w q)=>A0 s A.wf (Sq Z s.length M) q (a2.later n).1;rw[A.row]at O;have O:=hiD O;have C3:=hiD (fun q (n:Bz w q)=>Nd p U m (.agg #[Sq l p.1.length j,Vi p.2]) (Vs S V 2 T) (Sq K m.2.length r) q ⟨_,rfl,W.mono n nLe⟩ y ⟨N.1.later n,N.2.later n⟩);have HS:=hiD W;have a0:=hiD a2;have R:=hiD N;have ar:=hiD am;have av:=hiD (show m.row=[0,1] by rw[y];rfl);have aw:=hiD ao;have g:=hiD A;have au:=hiD y;clear W a2 N am ao hS y A;go_enter func377,ntmps377;go_wp2_with fail;refine(C1.out _ a5).mono ?_;rintro x w1 ⟨rfl,a3⟩;have ab:=a5.trans (a3.mono a5.size);replace Q:=Q.later a3;replace t:=t.later a3;replace J:=J.later a3;clear C1;go_wp2_with fail;refine(O.out _ ab).mono ?_;rintro x w2 ⟨rfl,B⟩;have a7:=ab.trans (B.mono ab.size);replace Q:=Q.later B;replace t:=t.later B;replace J:=J.later B;obtain⟨p0,p1,-⟩:=Q.g2;obtain⟨q0,q1,-⟩:=t.g2;clear O;go_wp2_with fail;refine(C3.out _ a7).mono ?_;rintro x w3 ⟨rfl,c⟩;have ah:=a7.trans (c.mono a7.size);replace Q:=Q.later c;replace t:=t.later c;replace J:=J.later c;clear p0 p1 q0 q1;obtain⟨q0,q1,-⟩:=t.g2;have ba:m.2.length<=1000000:=by have:=a9.out;omega
 clear C3;go_wp2_with fail;go_loopw [32] (fun ad wr=>∃k:Nat,k<=m.2.length∧ad=Vi k∧Bz w3 wr) (fun ad _=>m.2.length-(intOf ad).toNat);case atStart=>exact⟨0,jg _,rfl,Below.refl _ _⟩
 case round=>
  obtain⟨k,hk,rfl,d⟩:=hrel;have a:=ah.trans (d.mono ah.size);by_cases an:k<m.2.length
  ·obtain⟨b1,o1,d1,H,F,D,z,C,E,e1,b6,I,t0,t1,t2,t3,t4⟩:=yq (R.out.2.later a).1 an;cases e1;have a4:=(Below.refl wr.1.size wr).alloc nLe (Oc #[Vi H,Vi F,Vi D,Vi z,Vc C E] 36);have ac:=a.trans (a4.mono a.size);have CF:=hiD (B2 ⟨H,F,D,z,C,E⟩ s _ _ (a0.out.later ac).1);have zx:=Holds.fresh wr 36 #[Vi H,Vi F,Vi D,Vi z,Vc C E];have HX:=hiD I;clear I q0 q1;go_wp2_with fail;refine CF.out.mono ?_;rintro x f ⟨rfl,a1⟩;have o:=ac.trans (a1.mono ac.size);have a6:=a4.trans (a1.mono a4.size);have aq:=zx.later a1;have b3:=(J.later d).later a6;have b2:=(t.later d).later a6;have ag:=d.trans (a6.mono d.size);obtain⟨ai,aj,ak,al,a8⟩:=ar.out k _ HX.out;rw[ai,aj];have i:s[k]?=some ⟨H,F,D,z,C,E⟩:=by rw[aw.out];exact HX.out
   clear CF t0 t1 t2 t3 t4 zx a4 a1;have ay:=(jG.1 i).1;obtain⟨L,X,d2,bj,bi,bh,bf,bg,be,e2,_,ap,y0,y1,y2,y3,y4⟩:=yq (a0.out.later o).1 ay;cases e2;rw[i]at ap;cases ap;have a':(m.2.take k).length=k:=by rw[jb];omega
   have af:RowT 5 36 evV f (Vs b1 o1 k r) (m.2.take k):=by
    have:=(R.out.2.later o).sub 0 k (jg _) (by omega);simpa using this
   have aa:=G9 av.out (R.out.1.later o);have P:=fun q (n:Bz f q)=>(JB U s g.out.short (m.2.take k) (by have:=a9.out;omega) ⟨H,F,D,z,C,E⟩ (a8.go g.out (by have:=a9.out;omega) U (jY i)) a8.ts (by rcases g.out.mem (jY i)with e|⟨e,_⟩<;>rw[e];exact tsB1;exact tsB2) (Sq l p.1.length j) (Vs L X s.length M) (Vs b1 o1 k r) S V T az q ((HS.out.mono o nLe).mono n nLe) ((a0.out.later o).later n) (qd n nLe aa.1) (qd n nLe aa.2) (af.later n)).mono (fun e w' h=>(⟨by rw[h.1,al],n.trans (h.2.mono n.size)⟩:e=Rt (Vb true)∧Bz f w'));have P:=hiD P;have CS:=hiD (fun q (n:Bz f q)=>(Ac ⟨H,F,D,z,C,E⟩ ⟨H,F,D,z,C,E⟩ (g.out.wf _ (jY i)) (.inl rfl) q).mono (fun e w' h=>(⟨by rw[h.1,ak],n.trans (h.2.mono n.size)⟩:e=Rt (Vb true)∧Bz f w')));obtain⟨r0,r1,r2,r3,r4,-⟩:=aq.l5;have s0:∀u:Lat f,Cq u.v L (X+k*5) (Vi H):=fun u=>u.cell y0;have s1:∀u:Lat f,Cq u.v L (X+k*5+1) (Vi F):=fun u=>u.cell y1;have s2:∀u:Lat f,Cq u.v L (X+k*5+2) (Vi D):=fun u=>u.cell y2;have s3:∀u:Lat f,Cq u.v L (X+k*5+3) (Vi z):=fun u=>u.cell y3;have s4:∀u:Lat f,Cq u.v L (X+k*5+4) (Vc C E):=fun u=>u.cell y4;obtain⟨v0,v1,v2,-⟩:=b3.l3;obtain⟨m0,m1,-⟩:=b2.l2;have b7:(k:Int)<s.length:=by omega
   have b9:(k:Int)<=r:=by omega
   have b8:k<=r:=by omega
   simp only[FG,evA,evV]at P CS;clear i af y0 y1 y2 y3 y4 aq a' ai aj ak al a8 aa;go_wp2_with fail;refine qz f (by kernel_rfl) (by kernel_rfl) bRf ?_
   repeat (go_big_quiet_step (first|with_reducible exact Lat.call CS.out _|with_reducible exact Lat.call P.out _))
   refine wpQuiet_nil ?_;rintro w5 ⟨⟨_,c⟩,rfl⟩;have ax:=ag.trans (c.mono ag.size);clear r0 r1 r2 r3 r4 s0 s1 s2 s3 s4 v0 v1 v2 m0 m1 CS P;go_wp2_with fail;rw[show ((k:Int)+1)=((k+1:Nat):Int) by push_cast;rfl];exact⟨⟨k+1,an,rfl,ax⟩,by simp[intOf];omega⟩
  ·obtain rfl:k=m.2.length:=by omega
   have z0:=J.later d;obtain⟨y0,y1,y2,-⟩:=z0.g3;have b0:=t.later d;obtain⟨x0,x1,-⟩:=b0.g2;clear q0 q1;have CE:=hiD (JC U s g.out.short (fun x I=>by rcases g.out.mem I with rfl|⟨rfl,_⟩<;>decide) m au.out (Sq l p.1.length j) (Sq Z s.length M) (Vs S V 2 T) (Sq K m.2.length r) wr (HS.out.mono a nLe) (a0.out.later a) ⟨R.out.1.later a,R.out.2.later a⟩);simp only[FG]at CE;go_wp2_with fail;refine CE.out.mono ?_;rintro x w5 ⟨rfl,c⟩;go_wp2_with fail;go_ret;exact⟨rfl,a.trans (c.mono a.size)⟩
theorem UH {p:Pt} (hp:PtOk p) (a:List Ev) (aq:a.length<=1) (k:Nat) (hk:k<=1) (aw:0<a.length->k=0) (e x:Ev)
  (ag:∀l a2,a.getLast?=some l->a.head?=some a2->x.kind=a.length->lessE l x=true∧x.ts-a2.ts<=p.2) (N:x.kind=a.length->a=[]->x=e)
  (az:∀a8∈a,tsB a8) (ah:tsB x) (u sv av:Value) (y H Q:Nat) (b4:2<=Q) (w:World) (hs:qN w u p.1) (ay:∃an b0 ao,sv=Sq an b0 ao) (q0:w.cell? ⟨y,H,none⟩=some (Vi 0)) (q1:w.cell? ⟨y,H+1,none⟩=some (Vi 1)) (af:RowT 5 36 evV w av a):
  Cs 378 #[.agg #[u,Vi p.2,sv,Sq (some ⟨y,H,none⟩) 2 Q,Vi e.ts,Vi e.src,Vi e.seq,Vi e.kind,Vc e.re e.im,Vi k],av,evA x] w fun a8 w'=>a8=Rt (Vb (mayT k a x))∧Bz w w':=by
 obtain⟨E,i,g,d,O,K⟩:=e;obtain⟨c,n,h,s,f,r⟩:=x;have ax:a.length<p.1.length:=by rw[hp.len];omega
 have ab:p.1[a.length]?=some p.1[a.length]:=jB ax;generalize p.1[a.length]=st at*;have aj:st.kind=a.length:=by rcases st_two hp ab with⟨e,rfl⟩|⟨e,rfl⟩<;>rw[e]<;>rfl
 have r0:Cq w y (H+a.length) (Vi a.length):=by
  rcases(show a.length=0∨a.length=1 by omega)with e|e<;>rw[e]
  ·exact q0
  ·exact q1
 have HT:=hiD az;obtain⟨a0,a9⟩:=xR (mayT k a ⟨c,n,h,s,f,r⟩);rw[a9];have a7:=hiD a9;clear a9;have b6:=hst1;obtain⟨X,U,c1,ca,cc,rfl,b5,au,t0,t1,t2,t3,t4,t5⟩:=Fa hs ab;obtain⟨W,n2,c2,rfl⟩:=ay;obtain⟨a3,c3,rfl,_⟩:=af.form;simp only[evA,evV];have D:=(bA w (Oc #[Vs X U p.1.length c1,Vi p.2,Sq W n2 c2,Vs y H 2 Q,Vi E,Vi i,Vi g,Vi d,Vc O K,Vi k] 435)).alloc (by simp) (Oc #[Vi c,Vi n,Vi h,Vi s,Vc f r] 36);have zh:=(Holds.fresh w 435 #[Vs X U p.1.length c1,Vi p.2,Sq W n2 c2,Vs y H 2 Q,Vi E,Vi i,Vi g,Vi d,Vc O K,Vi k]).alloc (Oc #[Vi c,Vi n,Vi h,Vi s,Vc f r] 36);have zx:=Holds.fresh' (w:=w.alloc (Oc #[Vs X U p.1.length c1,Vi p.2,Sq W n2 c2,Vs y H 2 Q,Vi E,Vi i,Vi g,Vi d,Vc O K,Vi k] 435)) (b:=w.1.size+1) (by simp) 36 #[Vi c,Vi n,Vi h,Vi s,Vc f r];generalize st.kind=C at*;have q:=hiD aj;clear aj;go_enter func378,ntmps378
 iterate 12 (first|go_values|go_skip|go_guarded|go_step|go_upon|go_back|go_simp)
 generalize ap:((w.alloc (Oc #[Vs X U p.1.length c1,Vi p.2,Sq W n2 c2,Vs y H 2 Q,Vi E,Vi i,Vi g,Vi d,Vc O K,Vi k] 435)).alloc (Oc #[Vi c,Vi n,Vi h,Vi s,Vc f r] 36))=V at*;clear ap;have l1:(a.length:Int)<2:=by omega
 have l2:(a.length:Int)<p.1.length:=by omega
 obtain⟨s0,-,-,s3,-⟩:=zh.l4;have s4:∀u:Lat V,Cq u.v y (H+a.length) (Vi a.length):=fun u=>u.cell (qd D nLe r0);have s5:∀u:Lat V,Cq u.v X (U+a.length*6+1) (Vi C):=fun u=>u.cell (qd D nLe t1);have s6:∀u:Lat V,Cq u.v (w.1.size+1) 3 (Vi s):=fun u=>u.cell (zx.cell 3);have a1:=hiD af;clear hs au af t0 t1 t2 t3 t4 t5 r0 ab q0 q1;go_wp2_with fail;refine zE 0 rfl ?_;go_wp2_with fail;refine qz V rfl (by kernel_rfl) bRf ?_
 repeat (go_big_quiet_step (fail))
 refine wpQuiet_nil ?_;rintro B ⟨⟨_,R⟩,rfl⟩;have t:=D.trans (R.mono D.size);have ae:=zh.later R;have am:=zx.later R;have ai:=hiD (a1.out.later t);clear s0 s3 s4 s5 s6 zh zx a1 D R;by_cases z:(a.length:Int)=s;rotate_left
 ·have ar:(C==s)=false:=by rw[q.out];simpa using z
  have b2:(C !=s)=true:=by rw[q.out];simpa using z
  have aa:a0=false:=by rw[<-a7.out];unfold mayT;rw[decide_eq_false (fun a5=>z a5.symm)];rfl
  subst aa;clear a7 ag N z;go_wp2_with fail;apply wp_goto;refine xS ?_;go_wp2_with fail;rw[dD];go_ret;exact⟨rfl,t⟩
 obtain rfl:C=s:=by rw[q.out,z]
 have aa:a0=decide (k<=a.length):=by rw[<-a7.out];unfold mayT;rw[decide_eq_true q.out];rfl
 subst aa;have ar:(C !=C)=false:=by simp
 have hg:=hiD (fun l a2 h1 h2=>ag l a2 h1 h2 q.out);have N:=hiD (N q.out);clear ag z a7 q;rcases(show a=[]∨∃a6,a=[a6] by
  rcases a with _|⟨x,_|⟨a8,l⟩⟩
  ·exact .inl rfl
  ·exact .inr ⟨x,rfl⟩
  ·simp at aq)with rfl|⟨a6,rfl⟩
 ·obtain⟨rfl,rfl,rfl,-,rfl,rfl⟩:c=E∧n=i∧h=g∧C=d∧f=O∧r=K:=by have:=N.out rfl;cases this;exact⟨rfl,rfl,rfl,rfl,rfl,rfl⟩
  simp only[jO];have S:=fun w=>Fu ⟨c,n,h,C,f,r⟩ ⟨c,n,h,d,f,r⟩ w;have CL:=fun w=>yN ⟨c,n,h,C,f,r⟩ ⟨c,n,h,d,f,r⟩ w;rw[show lessE ⟨c,n,h,C,f,r⟩ ⟨c,n,h,d,f,r⟩=false by unfold lessE cmpE cmpI;simp]at CL;rw[show cmpE ⟨c,n,h,C,f,r⟩ ⟨c,n,h,d,f,r⟩=0 by unfold cmpE cmpI;simp]at S;have S:=hiD S;have CL:=hiD CL;simp only[evA,evV]at CL S;go_wp2_with fail;refine qz B rfl (by kernel_rfl) bRf ?_
  repeat (go_big_quiet_step (fail))
  refine wpQuiet_nil ?_;rintro w6 ⟨⟨_,A⟩,rfl⟩;have v:=t.trans (A.mono t.size);have P:=ae.later A;have b1:=am.later A;obtain⟨-,-,-,-,g4,g5,g6,g7,g8,M,-⟩:=P.g10;obtain⟨f0,f1,f2,f3,f4,-⟩:=b1.g5;rcases(show k=0∨k=1 by omega)with rfl|rfl
  ·go_wp2_with fail;refine(S.out _).mono ?_;rintro x w7 ⟨rfl,J⟩;have ac:=v.trans (J.mono v.size);clear g4 g5 g6 g7 g8 M f0 f1 f2 f3 f4;have M:=(P.later J).cell 9;simp at M;go_wp2_with fail
   (try rw[qU])
   go_ret;exact⟨rfl,ac⟩
  ·go_wp2_with fail;refine(CL.out _).mono ?_;rintro x w7 ⟨rfl,J⟩;have ac:=v.trans (J.mono v.size);clear g4 g5 g6 g7 g8 M f0 f1 f2 f3 f4;have M:=(P.later J).cell 9;simp at M;go_wp2_with fail
   (try rw[qU])
   go_ret;exact⟨rfl,ac⟩
 ·obtain rfl:k=0:=aw (by simp);obtain⟨Z,T,cl,m,j,o,F,I,L,e1,b3,al,y0,y1,y2,y3,y4⟩:=yq ai.out.1 (show 0<[a6].length by simp);cases e1;obtain rfl:a6=⟨m,j,o,F,I,L⟩:=by simpa using al
  simp only[Nat.zero_mul,Nat.add_zero]at y0 y1 y2 y3 y4;have ad:=HT.out _ (List.mem_singleton.2 rfl);unfold tsB at ad ah;simp only at ad ah;have b8:IntKind.i64.wrap (c-m)=c-m:=by rw[IntKind.wrap_i64];omega
  have b7:IntKind.i64.wrap 0=0:=by decide
  obtain⟨a4,a'⟩:=hg.out ⟨m,j,o,F,I,L⟩ ⟨m,j,o,F,I,L⟩ rfl rfl;simp only at a';have b9:¬p.2<c-m:=by omega
  have CB:=hiD (fun W' (ak:Bz B W')=>(yN ⟨m,j,o,F,I,L⟩ ⟨c,n,h,C,f,r⟩ W').mono (fun e w' a5=>(⟨by rw[a5.1,a4],ak.trans (a5.2.mono ak.size)⟩:e=Rt (Vb true)∧Bz B w')));simp only[evA,evV]at CB;simp only[List.length_singleton]at*;clear a4 al ai ad ah HT hg N;have r0:∀u:Lat B,Cq u.v Z T (Vi m):=fun u=>u.cell y0;have r1:∀u:Lat B,Cq u.v Z (T+1) (Vi j):=fun u=>u.cell y1;have r2:∀u:Lat B,Cq u.v Z (T+2) (Vi o):=fun u=>u.cell y2;have r3:∀u:Lat B,Cq u.v Z (T+3) (Vi F):=fun u=>u.cell y3;have r4:∀u:Lat B,Cq u.v Z (T+4) (Vc I L):=fun u=>u.cell y4;have h0:∀u:Lat B,Cq u.v w.1.size 1 (Vi p.2):=fun u=>u.cell (ae.cell 1);obtain⟨j0,j1,j2,j3,j4,-⟩:=am.l5;clear y0 y1 y2 y3 y4;go_wp2_with fail;refine qz B rfl (by kernel_rfl) bRf ?_
  repeat (go_big_quiet_step (first|with_reducible exact Lat.call CB.out _))
  refine wpQuiet_nil ?_;rintro w6 ⟨⟨_,A⟩,rfl⟩;have v:=t.trans (A.mono t.size);have P:=ae.later A;clear r0 r1 r2 r3 r4 h0 j0 j1 j2 j3 j4 CB;have M:=P.cell 9;simp at M;go_wp2_with fail
  (try rw[qU])
  go_ret;exact⟨rfl,v⟩
theorem Ba:En0 376:=enters_of func376 rfl rfl
def Gd (p:Pt) (u c a:Value) (e:Ev) (k:Nat):Array Value:=#[u,Vi p.2,c,a,Vi e.ts,Vi e.src,Vi e.seq,Vi e.kind,Vc e.re e.im,Vi k]
theorem Bv (p:Pt) (u J F z:Value) (e:Ev) (k:Nat) (w:World) (O:∃a n c,u=Sq a n c) (N:∃a n c,J=Sq a n c) (M:∃a n c,F=Sq a n c) (L:∃a n c,z=Sq a n c):
  Cs 363 #[.agg (Gd p u J F e k),z] w fun x w'=>x=Rt (.func (.func 376) #[] #[Vp (w.1.size+1) 0,Vp w.1.size 0])∧
   Holds w' w.1.size 435 (Gd p u J F e k)∧Holds w' (w.1.size+1) 112 #[z]∧Bz w w':=by
 have r:=hmf1;have q:=hst1;obtain⟨h,l,f,rfl⟩:=O;obtain⟨s,i,A,rfl⟩:=N;obtain⟨t,d,B,rfl⟩:=M;obtain⟨y,g,C,rfl⟩:=L;obtain⟨K,I,H,D,E,j⟩:=e;simp only[Gd];have m:=(Holds.fresh w 435 #[Sq h l f,Vi p.2,Sq s i A,Sq t d B,Vi K,Vi I,Vi H,Vi D,Vc E j,Vi k]).alloc (Oc #[Sq y g C] 112);have P:=Holds.fresh' (w:=w.alloc (Oc #[Sq h l f,Vi p.2,Sq s i A,Sq t d B,Vi K,Vi I,Vi H,Vi D,Vc E j,Vi k] 435)) (b:=w.1.size+1) (by simp) 112 #[Sq y g C];have o:=(bA w (Oc #[Sq h l f,Vi p.2,Sq s i A,Sq t d B,Vi K,Vi I,Vi H,Vi D,Vc E j,Vi k] 435)).alloc (by simp) (Oc #[Sq y g C] 112);go_enter func363,ntmps363;go_wp2_with fail;go_ret;exact⟨rfl,m,P,o⟩
structure TmF (p:Pt) (s:List Ev) (row:List Int) (e:Ev) (k:Nat) (ahead:List Ev) (u sv rv av:Value) (hb ab:Nat) (W:World):Prop where
 hh:Holds W hb 435 (Gd p u sv rv e k)
 ha:Holds W ab 112 #[av]
 st:qN W u p.1
 ev:RowT 5 36 evV W sv s
 row:RowT 1 3 intV W rv row
 ahd:RowT 5 36 evV W av ahead
structure TmP (p:Pt) (s:List Ev) (row:List Int) (e:Ev) (k:Nat):Prop extends MchP p s row where
 k1:k<=1
 he:∀x∈s,x.kind=0->x=e
def AhT (s:List Ev) (k:Nat) (a:List Ev):Prop:=Ah s a∧(0<a.length->k=0)
theorem AhT.next {s c:List Ev} {k:Nat} (h:AhT s k c) (f:SOk s) (e:c.length<=1) {x:Ev} (g:x∈s) (d:mayT k c x=true):AhT s k (c++[x]):=by
 unfold mayT at d;simp only[jJ,decide_eq_true_eq]at d;refine⟨h.1.next f e g (decide_eq_true d.1),fun _=>?_⟩;rcases Nat.eq_zero_or_pos c.length with a|a
 ·omega
 ·exact h.2 a
theorem tm_base (p:Pt) (s:List Ev) (i:List Int) (e:Ev) (k:Nat) (Z:TmP p s i e k) (d:List Ev) (N:i.length=d.length) (ac:AhT s k d) (ae sv rv av:Value) (m ab:Nat):
  vL prog 376 #[Vp ab 0,Vp m 0] (fun ad vs W=>∃r I,vs=#[.agg #[r,I]]∧MtV W r I ((yK s i k 0 d).getD ad mt0)) (yK s i k 0 d).length
   (TmF p s i e k d ae sv rv av m ab):=by
 intro l af Jx W V T a7 hF E M h0;have a6:=hF W (qg.refl _ _);obtain⟨O,R,y,z,c,a⟩:=a6;have g:i.length=2:=by rw[Z.mem];rfl
 obtain⟨F,a4⟩:s=[l2,l1]∧MtSm p ⟨i,d⟩:=by
  rcases ac.1 with rfl|⟨S,rfl|rfl⟩
  ·rw[g]at N;cases N
  ·rw[g]at N;cases N
  ·exact⟨S,by rw[Z.mem];rfl⟩
 obtain⟨a1,c1,rfl,_⟩:=y.form;obtain⟨a2,c2,rfl,_⟩:=z.form;obtain⟨o,J,rfl,_⟩:=c.form;obtain⟨u,L,rfl,_⟩:=a.form;have Q:=hiD (fun A (j:Bz W A)=>L9 Z.ok F ⟨i,d⟩ a4 (.agg #[Sq a1 p.1.length c1,Vi p.2]) (Sq a2 s.length c2) (Sq o i.length J) (Sq u d.length L) A ⟨_,rfl,y.mono j nLe⟩ (z.later j) ⟨c.later j,a.later j⟩);have X:=hiD (fun A (j:Bz W A)=>kO (Sq o i.length J) (Sq u d.length L) ⟨i,d⟩ A ⟨c.later j,a.later j⟩ (by simp;omega) (by simp;omega));have D:yK s i k 0 d=[⟨i,d⟩]:=rfl;rw[D]at M⊢;unfold Gd at O;obtain⟨v0,v1,v2,v3,-⟩:=O.g4;have a3:=R.cell 0;simp at a3;have HJ:=hiD T;have HY:=hiD M;have a9:=hiD E;have aj:=O.size;have ai:=R.size;clear T M hF a7 y z c a D O R E F a4 g;rw[N]at Q X v3;generalize a0:d.length=n at*;refine callsIn_of_wp func376 rfl trivial ?_ rfl;simp only[ntmps376,jW,jF,jO,Nat.reduceAdd,Nat.reduceSub,jR,jQ,jX,jU,jD,jE];gi_wp2;have K:=(Holds.fresh W 300 #[.func (.yield l) #[] #[]]).alloc (Oc #[Sq o n J,Sq u n L] 127);have H:=Holds.fresh' (w:=W.alloc (Oc #[.func (.yield l) #[] #[]] 300)) (b:=W.1.size+1) (by simp) 127 #[Sq o n J,Sq u n L];have t:=((Below.refl W.1.size W).alloc nLe (Oc #[.func (.yield l) #[] #[]] 300)).alloc (by simp) (Oc #[Sq o n J,Sq u n L] 127);refine⟨trivial,rfl,(callsIn_wide.2 (Q.out _ t)).mono ?_⟩;rintro r q ⟨rfl,x⟩;have a8:=t.trans (x.mono t.size);replace K:=K.later x;replace H:=H.later x;clear v0 v1 v2 v3 a3 Q;have q0:=K.cell 0;obtain⟨q1,q2,-⟩:=H.g2;simp at q0;gi_wp2;have HC:=hiD (fun w' (j:Bz q w')=>(⟨(K.later j).cell 0,(H.later j).cell 0,(H.later j).cell 1⟩:Cq w' W.1.size 0 (.func (.yield l) #[] #[])∧Cq w' (W.1.size+1) 0 (Sq o n J)∧Cq w' (W.1.size+1) 1 (Sq u n L)));refine Al [0,1] 3 1 (by kernel_rfl) (by kernel_rfl) (fun ⟨_,_,h⟩=>by obtain⟨⟨_,hv⟩,_⟩:=h;cases hv) (fun w'=>Bz q w') bRf.drew (fun _ _ aa _ _ h=>by cases aa<;>exact h) ?_;simp only[qI,jM,jN]
 repeat (refine qA rfl (fun w' hS=>by obtain⟨g0,g1,g2⟩:=HC.out w' hS;(go_simp<;>rfl)) ?_)
 show zL _ _ _ _ _ _ _ _ _ _ _ _;simp only[Act.put,jC,jL,jK];refine qC [2] (by kernel_rfl) (by simp) (by simp) ?_;intro ak P;simp only[jI,jH,or_false]at P;subst P;refine qq rfl rfl ?_;go_simp;have v:Bz W q.drew:=a8.trans bRf.drew;refine(X.out _ v).mono ?_;rintro r w2 ⟨r',I,rfl,a5,B⟩;refine⟨(Below.refl q.1.size q).drew.trans B,?_⟩;refine vj (by kernel_rfl) (by kernel_rfl) ?_;refine Ar rfl rfl ?_;have f:=v.trans (B.mono v.size);obtain⟨fn,al,ag,ah,hy,hR⟩:=HY.out 0 #[.agg #[r',I]] w2 V (by simp) (qg.below' f) (fun b m=>.inl m) (fun b m=>jf (a9.out b m) f.size) ((HJ.out 0 V).on h0 f) ⟨r',I,rfl,a5⟩;gi_wp2;refine⟨rfl,hR.mono ?_⟩;rintro e A ⟨-,U,(⟨rfl,D',h1,S,P⟩|⟨rfl,C⟩)⟩
 ·gi_wp2;refine bodyPost_ret (results_none rfl _ _ _) rfl ?_;exact⟨⟨_,rfl⟩,(qg.below' f).trans U,.inl ⟨D',fun b m=>(h1 b m).imp id fun h=>jS f.size h,S,P⟩⟩
 ·gi_wp2;refine bodyPost_ret (results_none rfl _ _ _) rfl ?_;exact⟨⟨_,rfl⟩,(qg.below' f).trans U,.inr (by first|exact⟨0,by simp,C⟩|exact C)⟩
theorem tm_step (p:Pt) (s:List Ev) (row:List Int) (e:Ev) (F:Nat) (R:TmP p s row e F) (f:Nat)
  (IH:∀(C:List Ev),row.length=C.length+f->AhT s F C->∀(ae sv rv av:Value) (d ab:Nat),vL prog 376 #[Vp ab 0,Vp d 0] (fun i vs W=>∃r e',vs=#[.agg #[r,e']]∧MtV W r e' ((yK s row F f C).getD i mt0)) (yK s row F f C).length
   (TmF p s row e F C ae sv rv av d ab))
  (C:List Ev) (hl:row.length=C.length+(f+1)) (ag:AhT s F C) (ae sv rv av:Value) (d ab:Nat):
  vL prog 376 #[Vp ab 0,Vp d 0] (fun i vs W=>∃r e',vs=#[.agg #[r,e']]∧MtV W r e' ((yK s row F (f+1) C).getD i mt0)) (yK s row F (f+1) C).length
   (TmF p s row e F C ae sv rv av d ab):=by
 have dn:=hst1;intro l c3 Jx W D0 hJ c6 hF c4 hY h0;have w:=hF W (qg.refl _ _);have d5:row.length=2:=by rw[R.mem];rfl
 have bt:C.length<=1:=by omega
 obtain⟨a1,c1,rfl,_⟩:=w.st.form;obtain⟨a2,L,rfl,_⟩:=w.ev.form;obtain⟨M,O,N,rfl,d4,-⟩:=MK (by have:=w.row.1;rw[R.mem]at this;exact this);obtain⟨P,Q,rfl,_⟩:=w.ahd.form;obtain⟨g,hg⟩:=xL (fun al=>if mayT F C al=true then yK s row F f (C++[al])else []);have c9:yK s row F (f+1) C=s.flatMap g:=by rw[hg];rfl
 rw[c9]at hY⊢;have dm:=w.ev.1.small;have ad:=w.hh;unfold Gd at ad;obtain⟨v0,v1,v2,v3,v4,v5,v6,v7,v8,v9,-⟩:=ad.g10;have h4:=w.ha.cell 0;simp at h4;have da:=w.hh.size;have d0:=w.ha.size;have CF:=hiD (fun w' (hk:qg D0 W w') (al:Ev) (hx:al∈s)=>UH R.ok C bt F R.k1 ag.2 e al (fun l f h1 h2 h3=>⟨(ag.1.go R.sok bt R.ok hx l f h1 h2 h3).1,(ag.1.go R.sok bt R.ok hx l f h1 h2 h3).2.1⟩) (fun h1 h2=>R.he al hx (by rw[h1,h2];rfl)) ag.1.ts (by rcases R.sok.mem hx with rfl|⟨rfl,_⟩;exact tsB1;exact tsB2) (Sq a1 p.1.length c1) (Sq a2 s.length L) (Sq P C.length Q) M O N d4 w' (hF w' hk).st ⟨_,_,_,rfl⟩ (G9 R.mem (hF w' hk).row).1 (G9 R.mem (hF w' hk).row).2 (hF w' hk).ahd);have HJ:=hiD hJ;have c2:=hiD c6;have HY:=hiD hY;have HF:=hiD hF;have c0:=hiD c4;have ct:=hiD IH;have HG:=hiD hg;have cq:=hiD ag;have cw:=hiD R.sok;have HL:=hiD hl;have dl:((C.length:Int)==2)=false:=by simp only[beq_eq_false_iff_ne];omega
 clear hJ c6 hY hF c4 IH hg ag c9 w hl d5;have y1:=Holds.fresh W 300 #[.func (.yield l) #[] #[]];have bh:=(Below.refl W.1.size W).alloc nLe (Oc #[.func (.yield l) #[] #[]] 300);generalize cb:C.length=n at*;have HN:=hiD cb;clear cb;refine callsIn_of_wp_marks func376 rfl trivial ?_ rfl;simp only[ntmps376,jW,jF,jO,Nat.reduceAdd,Nat.reduceSub,jR,jQ,jX,jU,jD,jE];refine wpIn_wide.2 ?_;go_wp2_with fail;generalize cz:W.alloc (Oc #[.func (.yield l) #[] #[]] 300)=W2 at*;clear cz ad v0 v1 v2 v3 v4 v5 v6 v7 v8 v9 h4;have d6:=bh.size;have dr:=y1.size;refine wp_loop (fun az wr=>∃(k:Nat) (D:Nat->Prop) (V:List Nat) (u7 u8 u28 u29 u30 u31 u33 u34 u35 u36 u37 u39 u40 u41 u42 u43 u44 u45 u46 u47 u48 u49 ax:Value),k<=s.length∧az={tmps:=#[.func (.yield l) #[] #[],Vp ab 0,Vp d 0,Vp W.1.size 0,undef,undef,u7,u8,Sq P n Q,Vi n,Vp d 3,Vs M O 2 N,Vi 2,Vb false,undef,undef,undef,undef,undef,undef,undef,undef,undef,undef,undef,undef,undef,undef,Vp d 2,Sq a2 s.length L,Vi s.length,Vi k,u28,u29,u30,u31,u33,u34,u35,u36,u37,u39,u40,u41,u42,u43,u44,u45,u46,u47,u48,u49,ax],defers:=V.map mark}∧qV W.1.size wr V∧qg D0 W wr∧(∀b,D b->D0 b∨W.1.size<=b)∧(∀b,D b->b<wr.1.size)∧¬D W.1.size∧Holds wr W.1.size 300 #[.func (.yield l) #[] #[]]∧c3 ((s.take k).flatMap g).length D wr)
  (fun az _=>s.length-(intOf (az.tmps.getD 31 undef)).toNat) ?_ ?_
 ·exact⟨0,D0,[],undef,undef,undef,undef,undef,undef,undef,undef,undef,undef,undef,undef,undef,undef,undef,undef,undef,undef,undef,undef,undef,undef,undef,jg _,rfl,qV.nil _ _,qg.below' bh,fun b d=>.inl d,fun b d=>jf (c0.out b d) d6,fun h=>absurd (c0.out _ h) (Nat.lt_irrefl _),y1,(HJ.out 0 D0).on h0 bh⟩
 clear y1 h0;rintro az wr ⟨k,D,V,u7,u8,u28,u29,u30,u31,u33,u34,u35,u36,u37,u39,u40,u41,u42,u43,u44,u45,u46,u47,u48,u49,ax,hk,rfl,b9,aj,au,be,c5,zy,hj⟩;have w:=HF.out wr aj;by_cases d2:k<s.length
 ·obtain⟨I,Z,cc,x,u,j,a,c,z,e1,-,hx,p0,p1,p2,p3,p4⟩:=yq w.ev.1 d2;cases e1;have ad:=w.hh;unfold Gd at ad;obtain⟨v0,v1,v2,v3,v4,v5,v6,v7,v8,v9,-⟩:=ad.g10;have h4:=w.ha.cell 0;simp at h4;have da:=w.hh.size;have d0:=w.ha.size;have o:Bz wr (wr.alloc (Oc #[Vi x,Vi u,Vi j,Vi a,Vc c z] 36)):=bB;have zx:=Holds.fresh wr 36 #[Vi x,Vi u,Vi j,Vi a,Vc c z];replace v0:=qd o nLe v0;replace v1:=qd o nLe v1;replace v2:=qd o nLe v2;replace v3:=qd o nLe v3;replace v4:=qd o nLe v4;replace v5:=qd o nLe v5;replace v6:=qd o nLe v6;replace v7:=qd o nLe v7;replace v8:=qd o nLe v8;replace v9:=qd o nLe v9;replace h4:=qd o nLe h4;have bz:=jY hx;have b6:=CF.out _ (aj.trans (qg.below' o)) _ bz;simp only[evA,evV]at b6;have ch:=Kl g s k _ hx;have cd:=Fs g s k _ hx;have bn:=congrFun HG.out ⟨x,u,j,a,c,z⟩;obtain⟨fb,bk⟩:=xR (mayT F C ⟨x,u,j,a,c,z⟩);have cr:=hiD bk;rw[bk]at b6 bn;have b':=hiD b6;have bb:=hiD ch;have ba:=hiD cd;have ay:=hiD bn;have cx:=hiD bz;clear b6 ch cd bn bk w bz hx;go_wp2_with fail;refine b'.out.mono ?_;rintro r B ⟨rfl,t⟩;have a7:=o.trans (t.mono o.size);clear b';cases fb
  ·have bw:=ay.out;simp only[ji,if_false]at bw;have bc:Hid (((s.take (k+1)).flatMap g).length=((s.take k).flatMap g).length):=hiD (by rw[bb.out,bw];rfl);clear bw ay ba bb;go_wp2_with fail;rw[show ((k:Int)+1)=((k+1:Nat):Int) by push_cast;rfl];refine⟨⟨k+1,D,V,_,_,_,_,_,_,_,_,_,_,_,_,_,_,_,_,_,_,_,_,_,_,_,by omega,rfl,(b9.later o).later t,aj.trans (qg.below' a7),au,fun b d=>jf (be b d) a7.size,c5,(zy.later o).later t,by rw[bc.out];exact((HJ.out _ D).on hj a7)⟩,by simp[intOf];omega⟩
  ·have a5:=ay.out;simp only[if_true]at a5;have cs:=hiD a5;clear a5 ay;go_wp2_with fail;obtain⟨i0,ce,cl,cm,cn⟩:=iP36;have bq:=aj.trans (qg.below' a7);have d3:n<=1000000:=by omega
   have CC:=hiD (fun w' (H:Bz B w')=>Bd evV (fun _=>rfl) vZ (Sq P n Q) C w' ((HF.out w' (bq.trans (qg.below' H))).ahd.1) (by rw[HN.out];exact d3));replace v0:=qd t nLe v0;replace v1:=qd t nLe v1;replace v2:=qd t nLe v2;replace v3:=qd t nLe v3;replace v4:=qd t nLe v4;replace v5:=qd t nLe v5;replace v6:=qd t nLe v6;replace v7:=qd t nLe v7;replace v8:=qd t nLe v8;replace v9:=qd t nLe v9;replace h4:=qd t nLe h4;have am:=zx.later t;have HC:=hiD (fun w' (H:Bz B w')=>(⟨qd H nLe v0,qd H nLe v1,qd H nLe v2,qd H nLe v3,qd H nLe v4,qd H nLe v5,qd H nLe v6,qd H nLe v7,qd H nLe v8,qd H nLe v9,qd H nLe h4,(am.later H).cell 0,(am.later H).cell 1,(am.later H).cell 2,(am.later H).cell 3,(am.later H).cell 4⟩:Cq w' d 0 (Sq a1 p.1.length c1)∧Cq w' d 1 (Vi p.2)∧Cq w' d 2 (Vs I Z s.length L)∧Cq w' d 3 (Vs M O 2 N)∧Cq w' d 4 (Vi e.ts)∧Cq w' d 5 (Vi e.src)∧Cq w' d 6 (Vi e.seq)∧Cq w' d 7 (Vi e.kind)∧Cq w' d 8 (Vc e.re e.im)∧Cq w' d 9 (Vi F)∧Cq w' ab 0 (Sq P n Q)∧Cq w' wr.1.size 0 (Vi x)∧Cq w' wr.1.size 1 (Vi u)∧Cq w' wr.1.size 2 (Vi j)∧Cq w' wr.1.size 3 (Vi a)∧Cq w' wr.1.size 4 (Vc c z)));refine xN [0,1,3] 6 3 (by kernel_rfl) (by kernel_rfl) (fun w'=>Bz B w') bRf.drew (fun _ _ _ _ _ h=>DR rfl h) ?_;simp only[qI,jM,jN]
   repeat (refine qA rfl (fun w' hS=>by obtain⟨g0,g1,g2,g3,g4,g5,g6,g7,g8,g9,de,df,dg,dh,di,dj⟩:=HC.out w' hS;(go_simp<;>rfl)) ?_)
   show zL _ _ _ _ _ _ _ _ _ _ _ _;simp only[Act.put,jC,jL,jK];rename_i a9 hK
   suffices HK:∀(v40 v42 v43:Value) (A:Nat) (W':World),RowT 5 36 evV W' v43 (C++[⟨x,u,j,a,c,z⟩])->(∀b,v43.ownBlock=some b->B.1.size<=b)->B.1.size<=A->Holds W' A 435 (Gd p (Sq a1 p.1.length c1) (Vs I Z s.length L) (Vs M O 2 N) e F)->Holds W' (A+1) 112 #[v43]->Bz B W'->
     a9 {tmps:=#[.func (.yield l) #[] #[],Vp ab 0,Vp d 0,Vp W.1.size 0,undef,undef,Vp wr.1.size 0,u8,Sq P n Q,Vi n,Vp d 3,Vs M O 2 N,Vi 2,Vb false,undef,undef,undef,undef,undef,undef,undef,undef,undef,undef,undef,undef,undef,undef,Vp d 2,Vs I Z s.length L,Vi s.length,Vi k,Vb true,Vp I (Z+k*5),.agg #[Vi x,Vi u,Vi j,Vi a,Vc c z],.agg #[Sq a1 p.1.length c1,Vi p.2,Vs I Z s.length L,Vs M O 2 N,Vi e.ts,Vi e.src,Vi e.seq,Vi e.kind,Vc e.re e.im,Vi F],Sq P n Q,.agg #[Vi x,Vi u,Vi j,Vi a,Vc c z],Vb true,Vb false,.agg #[Sq a1 p.1.length c1,Vi p.2,Vs I Z s.length L,Vs M O 2 N,Vi e.ts,Vi e.src,Vi e.seq,Vi e.kind,Vc e.re e.im,Vi F],Sq P n Q,v40,.agg #[Vi x,Vi u,Vi j,Vi a,Vc c z],v42,v43,.func (.func 376) #[] #[Vp (A+1) 0,Vp A 0],u45,u46,u47,u48,u49,ax],defers:=V.map mark} W' by
    have bj:=(Below.refl B.1.size B).drew;refine qC [2,4] (by kernel_rfl) (by simp) (by simp) ?_;intro ak y;simp only[jI,jH,or_false]at y;rcases y with rfl|rfl
    ·refine qq rfl rfl ?_;go_simp;refine(CC.out _ bj).mono ?_;rintro r w3 ⟨v40,rfl,hr,ac⟩;have bi:=bj.trans (ac.mono bj.size);have bu:=HN.out;rw[bu]at hr;refine⟨bi,?_⟩;refine qC [4] (by kernel_rfl) (by simp) (by simp) ?_;intro ak y;simp only[jI,jH,or_false]at y;subst y;refine qq rfl rfl ?_;go_simp;have a3:=bi.alloc bi.size (Oc #[Vi x,Vi u,Vi j,Vi a,Vc c z] 36);refine⟨a3,?_⟩;have cj:=hr.alloc (Oc #[Vi x,Vi u,Vi j,Vi a,Vc c z] 36);refine qC [5] (by kernel_rfl) (by simp) (by simp) ?_;intro ak y;simp only[jI,jH,or_false]at y;subst y;refine qq rfl rfl ?_;refine wp_append_own _ (.tmp 42) (.tmp 44) 112 rfl B.1.size 36 i0 _ 5 48 underlying112 ce cl cm cn rfl (by decide) v40 n (C.flatMap evV) rfl cj (Ad w3.1.size 0) 1 1 [Vi x,Vi u,Vi j,Vi a,Vc c z] rfl rfl ?_ ?_ ?_ ?_ ?_ ?_
     ·exact qR w3 [Vi x,Vi u,Vi j,Vi a,Vc c z] 36
     ·intro ae hu;simp only[jI,jH,or_false]at hu;rcases hu with rfl|rfl|rfl|rfl|rfl<;>rfl
     ·unfold maxLen;omega
     ·omega
     ·simpa using a3.size
     intro v43 w5 a8 bl _;have a0:Bz B w5:=a3.grown bl (by have:=a3.size;omega) (fun b d=>jS nLe (qE cj b d));refine⟨a0,?_⟩;refine vj (by kernel_rfl) (by kernel_rfl) ?_;refine qq rfl rfl ?_;obtain⟨J,K,rfl⟩:=qh a8;go_simp;refine(Bv p _ _ _ _ e F _ ⟨_,_,_,rfl⟩ ⟨_,_,_,rfl⟩ ⟨_,_,_,rfl⟩ ⟨_,_,_,rfl⟩).mono ?_;rintro r w6 ⟨rfl,zv,za,aq⟩;have bx:RowT 5 36 evV w5 (Sq J (n+1) K) (C++[⟨x,u,j,a,c,z⟩]):=RowT.of_own (fun _=>rfl) (by simpa[evV]using a8) (by simp[HN.out]);exact HK _ _ _ _ _ (bx.later aq) (fun b d=>jS nLe (qE a8 b d)) a0.size zv za (a0.trans (aq.mono a0.size))
    ·refine qq rfl rfl ?_;go_simp;have ap:=((Below.refl B.1.size B).alloc nLe (Oc #[Vi x,Vi u,Vi j,Vi a,Vc c z] 36)).drew;refine⟨ap,?_⟩;refine qC [2] (by kernel_rfl) (by simp) (by simp) ?_;intro ak y;simp only[jI,jH,or_false]at y;subst y;refine qq rfl rfl ?_;go_simp;refine(CC.out _ ap).mono ?_;rintro r w3 ⟨v40,rfl,hr,ac⟩;have bu:=HN.out;rw[bu]at hr;replace hr:=yV hr ap.size;have a3:=ap.trans (ac.mono ap.size);refine⟨a3,?_⟩;refine qC [5] (by kernel_rfl) (by simp) (by simp) ?_;intro ak y;simp only[jI,jH,or_false]at y;subst y;refine qq rfl rfl ?_;refine wp_append_own _ (.tmp 42) (.tmp 44) 112 rfl B.1.size 36 i0 _ 5 48 underlying112 ce cl cm cn rfl (by decide) v40 n (C.flatMap evV) rfl hr (Ad B.1.size 0) 1 1 [Vi x,Vi u,Vi j,Vi a,Vc c z] rfl rfl ?_ ?_ ?_ ?_ ?_ ?_
     ·exact fun ak ae hj=>by
       have:=qR B [Vi x,Vi u,Vi j,Vi a,Vc c z] 36 ak ae hj;exact qd ac (by simp) this
     ·intro ae hu;simp only[jI,jH,or_false]at hu;rcases hu with rfl|rfl|rfl|rfl|rfl<;>rfl
     ·unfold maxLen;omega
     ·omega
     ·exact a3.size
     intro v43 w5 a8 bl _;have a0:Bz B w5:=a3.grown bl (by have:=a3.size;omega) (fun b d=>jS nLe (qE hr b d));refine⟨a0,?_⟩;refine vj (by kernel_rfl) (by kernel_rfl) ?_;refine qq rfl rfl ?_;obtain⟨J,K,rfl⟩:=qh a8;go_simp;refine(Bv p _ _ _ _ e F _ ⟨_,_,_,rfl⟩ ⟨_,_,_,rfl⟩ ⟨_,_,_,rfl⟩ ⟨_,_,_,rfl⟩).mono ?_;rintro r w6 ⟨rfl,zv,za,aq⟩;have bx:RowT 5 36 evV w5 (Sq J (n+1) K) (C++[⟨x,u,j,a,c,z⟩]):=RowT.of_own (fun _=>rfl) (by simpa[evV]using a8) (by simp[HN.out]);exact HK _ _ _ _ _ (bx.later aq) (fun b d=>jS nLe (qE a8 b d)) a0.size zv za (a0.trans (aq.mono a0.size))
   intro v40 v42 v43 A W6 d1 d9 dp d8 c' ah;apply hK;clear hK;have br:=bq.trans (qg.below' ah);have ao:=((b9.later o).later t).later ah;have co:=((zy.later o).later t).later ah;have ac:=a7.trans (ah.mono a7.size);have cf:=(HJ.out _ D).on hj ac;have b1:∀b,D b->b<B.1.size:=fun b d=>jf (be b d) a7.size;have db:=ah.size;have b4:W.1.size<=W6.1.size:=br.size;clear CC HC ad v0 v1 v2 v3 v4 v5 v6 v7 v8 v9 h4 zx am p0 p1 p2 p3 p4 o t a7 ah ac b9 zy aj bq hj;obtain⟨an,hO⟩:=xR ((s.take k).flatMap g).length;rw[hO]at cf;have HO:=hiD hO;clear hO;have cg:row.length=(C++[(⟨x,u,j,a,c,z⟩:Ev)]).length+f:=by have:=HL.out;have:=HN.out;simp;omega
   have ck:=cq.out.next cw.out (by rw[HN.out];omega) cx.out cr.out;have bo:=ct.out _ cg ck (Sq a1 p.1.length c1) (Vs I Z s.length L) (Vs M O 2 N) v43 A (A+1);rw[<-cs.out]at bo;have cu:=hiD bo;clear bo cg ck;go_wp2_with fail;have dq:W.1.size<W6.1.size:=co.size;refine yF rfl Ba cu.out (by rintro i vs X ⟨r,e,rfl,_⟩;rfl)
    (fun i U X=>c3 (an+i) U X∧qg D0 W X∧Holds X W.1.size 300 #[.func (.yield l) #[] #[]]∧¬U W.1.size∧qV W.1.size X V)
    (fun bd i X=>bd= .ret∧Jx (an+i) X∧qg D0 W X∧qV W.1.size X V) D ?_ ?_ ?_ ?_ ⟨cf,br,co,c5,ao⟩
    (fun i a' X=>∃(bm:Nat) (S:Option Addr) (m T:Nat) (J:Option Addr) (q K:Nat),Holds X bm 127 #[Sq S m T,Sq J q K]∧MtV X (Sq S m T) (Sq J q K) ((g ⟨x,u,j,a,c,z⟩).getD i mt0)∧a'={tmps:=#[.func (.yield l) #[] #[],Vp ab 0,Vp d 0,Vp W.1.size 0,undef,undef,Vp wr.1.size 0,Vp bm 0,Sq P n Q,Vi n,Vp d 3,Vs M O 2 N,Vi 2,Vb false,undef,undef,undef,undef,undef,undef,undef,undef,undef,undef,undef,undef,undef,undef,Vp d 2,Vs I Z s.length L,Vi s.length,Vi k,Vb true,Vp I (Z+k*5),.agg #[Vi x,Vi u,Vi j,Vi a,Vc c z],.agg #[Sq a1 p.1.length c1,Vi p.2,Vs I Z s.length L,Vs M O 2 N,Vi e.ts,Vi e.src,Vi e.seq,Vi e.kind,Vc e.re e.im,Vi F],Sq P n Q,.agg #[Vi x,Vi u,Vi j,Vi a,Vc c z],Vb true,Vb false,.agg #[Sq a1 p.1.length c1,Vi p.2,Vs I Z s.length L,Vs M O 2 N,Vi e.ts,Vi e.src,Vi e.seq,Vi e.kind,Vc e.re e.im,Vi F],Sq P n Q,v40,.agg #[Vi x,Vi u,Vi j,Vi a,Vc c z],v42,v43,.func (.func 376) #[] #[Vp (A+1) 0,Vp A 0],.agg #[Sq S m T,Sq J q K],u46,u47,u48,u49,ax],defers:=[]}) ?_ ?_ ?_ ?_ ?_
   ·intro i U;exact((HJ.out _ _).mono b4).and ((ym _ _).and ((qi _ _ _).and ((qe.pure _).and (xA (fun a9 hK=>ao.lt a9 hK)))))
   ·intro bd i;exact(qe.pure _).and (((c2.out _).mono b4).and ((ym _ _).and (xA (fun a9 hK=>ao.lt a9 hK))))
   ·intro X hX;have bf:=HF.out X (br.step hX au);exact {hh:=d8.keepsN hX (fun h=>absurd (b1 _ h) (by omega)),ha:=c'.keepsN hX (fun h=>absurd (b1 _ h) (by omega)),st:=bf.st,ev:=bf.ev,row:=bf.row,ahd:=d1.keptD hX (fun b d h=>absurd (b1 b h) (by have:=d9 b d;omega))}
   ·exact fun b d=>jf (b1 b d) db
   ·intro i a';exact qe.ex fun bm=>qe.ex fun S=>qe.ex fun m=>qe.ex fun T=>qe.ex fun J=>qe.ex fun q=>qe.ex fun K=>(qi _ _ _).and (((MtV.kept _ _ _).stable _).and (qe.pure _))
   ·rintro l' i vs X U K' hi bs b2 b0 ⟨ai,E,a6,af,a4⟩ ⟨r,e,rfl,aa⟩ c7;obtain⟨S,T,rfl,_⟩:=aa.1.form;obtain⟨J,K,rfl,_⟩:=aa.2.form;generalize ((g ⟨x,u,j,a,c,z⟩).getD i mt0).row.length=m at*;generalize ((g ⟨x,u,j,a,c,z⟩).getD i mt0).2.length=q at*;have b5:Bz X (X.alloc (Oc #[Sq S m T,Sq J q K] 127)):=bB;have c8:=c7 {tmps:=#[.func (.yield l) #[] #[],Vp ab 0,Vp d 0,Vp W.1.size 0,undef,undef,Vp wr.1.size 0,Vp X.1.size 0,Sq P n Q,Vi n,Vp d 3,Vs M O 2 N,Vi 2,Vb false,undef,undef,undef,undef,undef,undef,undef,undef,undef,undef,undef,undef,undef,undef,Vp d 2,Vs I Z s.length L,Vi s.length,Vi k,Vb true,Vp I (Z+k*5),.agg #[Vi x,Vi u,Vi j,Vi a,Vc c z],.agg #[Sq a1 p.1.length c1,Vi p.2,Vs I Z s.length L,Vs M O 2 N,Vi e.ts,Vi e.src,Vi e.seq,Vi e.kind,Vc e.re e.im,Vi F],Sq P n Q,.agg #[Vi x,Vi u,Vi j,Vi a,Vc c z],Vb true,Vb false,.agg #[Sq a1 p.1.length c1,Vi p.2,Vs I Z s.length L,Vs M O 2 N,Vi e.ts,Vi e.src,Vi e.seq,Vi e.kind,Vc e.re e.im,Vi F],Sq P n Q,v40,.agg #[Vi x,Vi u,Vi j,Vi a,Vc c z],v42,v43,.func (.func 376) #[] #[Vp (A+1) 0,Vp A 0],.agg #[Sq S m T,Sq J q K],u46,u47,u48,u49,ax],defers:=[]} (X.alloc (Oc #[Sq S m T,Sq J q K] 127)) ((KeepsOthers.alloc _ _).from _) (qg.alloc _ _ _) ⟨(HJ.out _ _).on ai b5,E.trans (qg.alloc _ _ _),a6.alloc _,af,a4.later b5⟩ ⟨X.1.size,S,m,T,J,q,K,Holds.fresh _ _ _,aa.later b5,rfl⟩;have cv:=hiD c8;clear c8 c7 b5 aa ai E a6 a4;gi_wp2;exact cv.out
   ·rintro l' i a' X U dk hi bs b2 b0 ⟨ai,E,a6,af,a4⟩ ⟨bm,S,m,T,J,q,K,zm,aa,rfl⟩;obtain⟨b7,a5⟩:=ba.out i hi mt0;rw[HO.out]at b7 a5;have ar:∀b,U b->D0 b∨W.1.size<=b:=fun b d=>(b2 b d).elim (fun h=>au b h) (fun h=>.inr (by omega));obtain⟨fn,tmps,dc,dd,hy,hR⟩:=HY.out (an+i) #[.agg #[Sq S m T,Sq J q K]] X U a5 E ar b0 ai ⟨_,_,rfl,by rw[b7];exact aa⟩;have q0:=a6.cell 0;obtain⟨q1,q2,-⟩:=zm.g2;simp at q0;have ds:=a6.size;clear b7 aa;gi_wp2;refine⟨rfl,hR.mono ?_⟩;rintro e' X' ⟨b8,aw,(⟨rfl,cp,h1,h2,y⟩|⟨rfl,bp⟩)⟩
    ·gi_wp2;exact⟨b8.mono' b4,aw,cp,h1,h2,y,E.step aw ar,a6.keepsN aw af,fun h=>(h1 _ h).elim af (fun h=>by omega),a4.from b8⟩
    ·gi_wp2;exact⟨b8.mono' b4,aw,rfl,bp,E.step aw ar,a4.from b8⟩
   ·rintro Kd X U cy bs b2 b0 ⟨ai,E,a6,af,a4⟩ b3;have ar:∀b,U b->D0 b∨W.1.size<=b:=fun b d=>(b2 b d).elim (fun h=>au b h) (fun h=>.inr (by omega));have bv:=a4.cons (K:=Kd) (by omega) (fun h=>by have:=ao.lt Kd h;omega) b3;have ci:((s.take (k+1)).flatMap g).length=an+(g ⟨x,u,j,a,c,z⟩).length:=by rw[bb.out,HO.out]
    have bc:=hiD ci;clear ci b3;show Exit.inBlock _ _ _ _ _;go_wp2_with fail;rw[show ((k:Int)+1)=((k+1:Nat):Int) by push_cast;rfl];exact⟨⟨k+1,U,Kd::V,_,_,_,_,_,_,_,_,_,_,_,_,_,_,_,_,_,_,_,_,_,_,_,by omega,rfl,bv,E,ar,b0,af,a6,by rw[bc.out];exact ai⟩,by simp[intOf];omega⟩
   ·rintro Kd bd i X cy hi bs ⟨rfl,bp,E,a4⟩ b3;have bv:=a4.cons (K:=Kd) (by omega) (fun h=>by have:=ao.lt Kd h;omega) b3;obtain⟨b7,a5⟩:=ba.out i hi mt0;rw[HO.out]at a5;apply wp_ret;refine DN (c:=Kd::V) bv rfl ?_;intro X' ca v;exact⟨⟨_,rfl⟩,ca.keepsN E,.inr ⟨an+i,a5,ca _ (c2.out _) bp⟩⟩
 ·obtain rfl:k=s.length:=by omega
  go_wp2_with fail;have d7:(s.take s.length).flatMap g=s.flatMap g:=by rw[jn]
  rw[d7]at hj;refine D5 b9 rfl ?_;intro W' bg v;refine⟨⟨_,rfl⟩,bg.keepsN aj,.inl ⟨D,au,fun b d=>jf (be b d) bg.size,bg _ (HJ.out _ D) hj⟩⟩
theorem Qt (p:Pt) (s:List Ev) (g:List Int) (e:Ev) (d:Nat) (o:TmP p s g e d):∀(f:Nat) (c:List Ev),g.length=c.length+f->AhT s d c->∀(u n m l:Value) (k j:Nat),
  vL prog 376 #[Vp j 0,Vp k 0] (fun i a W=>∃r q,a=#[.agg #[r,q]]∧MtV W r q ((yK s g d f c).getD i mt0)) (yK s g d f c).length
   (TmF p s g e d c u n m l k j)
 |0,c,hl,hts,u,n,m,l,k,j=>tm_base p s g e d o c hl hts u n m l k j
 |f+1,c,hl,hts,u,n,m,l,k,j=>tm_step p s g e d o f (Qt p s g e d o f) c hl hts u n m l k j
end
end Go.Proofs.YtnmpcdnbklmhkaaGreatDoor
