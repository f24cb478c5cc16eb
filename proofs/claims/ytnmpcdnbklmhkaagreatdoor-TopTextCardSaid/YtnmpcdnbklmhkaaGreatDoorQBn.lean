import Derived.Test.YtnmpcdnbklmhkaaGreatDoorQBm
import Derived.Test.YtnmpcdnbklmhkaaGreatDoorQBd
import Derived.Test.YtnmpcdnbklmhkaaGreatDoorQBj
import Derived.Test.YtnmpcdnbklmhkaaGreatDoorQBc
import Derived.Test.YtnmpcdnbklmhkaaGreatDoorQBe
namespace Go.Proofs.YtnmpcdnbklmhkaaGreatDoor
open Go.Proofs.Tryz Go.RowKit
set_option maxRecDepth 100000
set_option linter.all false
set_option maxHeartbeats 8000000
section
attribute [local go_sem] Oper.semAt_some
attribute [local go_sem ↓] Go.wp_at_zero Go.wp_at_succ
def Sp (s:List Ev) (e:Ev):Prop:=s=[l1]∧e=l1∨s=[l2,l1]∧e=l2
theorem Sp.sok {s:List Ev} {e:Ev} (h:Sp s e):SOk s:=h.elim (fun h=>.inr (.inl h.1)) (fun h=>.inr (.inr h.1))
theorem Sp.same {s:List Ev} {e:Ev} (h:Sp s e):sameAt s e=true:=by rcases h with⟨rfl,rfl⟩|⟨rfl,rfl⟩<;>kernel_rfl
theorem Sp.he {s:List Ev} {e:Ev} (h:Sp s e):∀x∈s,x.kind=0->x=e:=by rcases h with⟨rfl,rfl⟩|⟨rfl,rfl⟩<;>simp[l1,l2]
theorem Sp.raw {s:List Ev} {e:Ev} (h:Sp s e) (p:Pt):rawW p s=[]∨rawW p s=[lM]:=by
 rcases h with⟨rfl,rfl⟩|⟨rfl,rfl⟩
 ·exact .inl rfl
 ·exact .inr rfl
theorem Qz {p:Pt} {s:List Ev} {e:Ev} (h:Sp s e):∀m∈rawW p s,MtSm p m:=fun m a=>by
 rcases h.raw p with h|h<;>rw[h]at a
 ·cases a
 ·exact List.mem_singleton.1 a
theorem MT {p:Pt} {s:List Ev} {e:Ev} (h:Sp s e):(rawW p s).length<2:=by rcases h.raw p with h|h<;>rw[h]<;>decide
theorem IY (k:Int) (w:World):Cs 329 #[Vi k] w fun x w'=>x=Rt (Vb true)∧w'=w:=by
 go_enter func329,ntmps329;go_wp2_with fail;go_ret;exact⟨rfl,rfl⟩
theorem KS {p:Pt} (hp:PtOk p) {s:List Ev} {e:Ev} (f:Sp s e) (v sv:Value) (w:World) (hv:PatV w v p) (Z:RowT 5 36 evV w sv s):
  Cs 328 #[v,sv,evA e,.func (.func 329) #[] #[]] w fun x w'=>∃v',x=Rt v'∧qj 2 w.1.size 127 mtR w' v' (rawW p s)∧Bz w w':=by
 have ce:=hst1;obtain⟨u,rfl,X⟩:=hv;obtain⟨J,K,rfl,c6,cb⟩:=X.form;obtain⟨sa,sc,rfl,cc⟩:=Z.form;obtain⟨bz,aa⟩:=xR (rawW p s);have b1:bz=rawW p s:=aa.symm;rw[aa];have a2:=hiD b1;have a:=f.same;have ah:(rawW p s).length<2:=MT f;clear b1 aa;have ba:∀row∈zN p,∀k,k<row.length->TmP p s row e k:=fun row hm k hk=>by
  have hm:row=[0,1]:=by simpa[zN]using hm
  exact {ok:=hp,sok:=f.sok,mem:=hm,k1:=by rw[hm]at hk;exact Nat.le_of_lt_succ hk,he:=f.he}
 have bd:=Qz (p:=p) f;have cd:=f.sok.short;have bc:=f.sok.row;have ap:=f.sok.wf;obtain⟨x',ak,ao⟩:∃x',s[findN s e]?=some x'∧sameE x' e=true:=by
  unfold sameAt at a;cases L:s[findN s e]? with
  |none=>rw[L]at a;simp at a
  |some x'=>rw[L]at a;simp at a;exact⟨x',rfl,a.2⟩
 have b7:hasE s e=true:=by
  unfold sameAt at a;rw[jJ]at a;exact a.1
 clear a;obtain⟨D,B,A,o,r,n⟩:=e;simp only[evA,evV];have ai:=(bA w (Oc #[Sq J p.1.length K,Vi p.2] 25)).alloc (by simp) (Oc #[Vi D,Vi B,Vi A,Vi o,Vc r n] 36);have E:=(Holds.fresh w 25 #[Sq J p.1.length K,Vi p.2]).alloc (Oc #[Vi D,Vi B,Vi A,Vi o,Vc r n] 36);have O:=Holds.fresh' (w:=w.alloc (Oc #[Sq J p.1.length K,Vi p.2] 25)) (b:=w.1.size+1) (by simp) 36 #[Vi D,Vi B,Vi A,Vi o,Vc r n];have CF:=hiD (B2 ⟨D,B,A,o,r,n⟩ s _ _ (Z.later ai).1);have HS:=hiD X;have ax:=hiD Z;have bq:=hiD ba;have aw:=hiD bd;have ac:=hiD ak;have ae:=hiD (And.intro ao (And.intro (ap _ (jY ak)) (of_decide_eq_true ao:_=_).symm));have CR:=hiD (fun i (c:Bz w i)=>BX p hp (.agg #[Sq J p.1.length K,Vi p.2]) i ⟨_,rfl,X.mono c nLe⟩);have C1:=hiD (fun i (c:Bz w i)=>yZ p hp (.agg #[Sq J p.1.length K,Vi p.2]) i ⟨_,rfl,X.mono c nLe⟩);have C2:=hiD (fun i (c:Bz w i)=>A0 s ap (Sq sa s.length sc) i (Z.later c).1);rw[bc]at C2;clear X Z ba bd ap ak ao f bc;go_enter func328,ntmps328;go_wp2_with fail;refine CF.out.mono ?_;rintro x g ⟨rfl,a6⟩;have t:=ai.trans (a6.mono ai.size);replace E:=E.later a6;replace O:=O.later a6;rw[b7];obtain⟨R,b6⟩:=xR (findN s ⟨D,B,A,o,r,n⟩);rw[b6]at ac⊢;have b':=(jG.1 ac.out).1;obtain⟨Q,U,d2,bl,a0,b0,bj,bk,bi,e2,_,bg,y0,y1,y2,y3,y4⟩:=yq (ax.out.later t).1 b';cases e2;have bh:=ac.out;rw[bg]at bh;cases bh;have P:=hiD (fun i (c:Bz g i)=>(Ac ⟨bl,a0,b0,bj,bk,bi⟩ ⟨D,B,A,o,r,n⟩ ae.out.2.1 (.inl ae.out.2.2) i).mono (fun e w' h=>(⟨by rw[h.1,ae.out.1],c.trans (h.2.mono c.size)⟩:e=Rt (Vb true)∧Bz g w')));have D1:=hiD (fun i (c:Bz g i)=>(C1.out i (t.trans (c.mono t.size))).mono (fun e w' h=>(⟨h.1,c.trans (h.2.mono c.size)⟩:e=Rt (Vb true)∧Bz g w')));have D2:=hiD (fun i (c:Bz g i)=>(C2.out i (t.trans (c.mono t.size))).mono (fun e w' h=>(⟨h.1,c.trans (h.2.mono c.size)⟩:e=Rt (Vb true)∧Bz g w')));simp only[evA,evV]at P;obtain⟨r0,r1,r2,r3,r4,-⟩:=O.l5;have s0:∀u:Lat g,Cq u.v Q (U+R*5) (Vi bl):=fun u=>u.cell y0;have s1:∀u:Lat g,Cq u.v Q (U+R*5+1) (Vi a0):=fun u=>u.cell y1;have s2:∀u:Lat g,Cq u.v Q (U+R*5+2) (Vi b0):=fun u=>u.cell y2;have s3:∀u:Lat g,Cq u.v Q (U+R*5+3) (Vi bj):=fun u=>u.cell y3;have s4:∀u:Lat g,Cq u.v Q (U+R*5+4) (Vc bk bi):=fun u=>u.cell y4;obtain⟨v0,v1,-⟩:=E.l2;have ca:(R:Int)<s.length:=by omega
 clear CF y0 y1 y2 y3 y4 bg b7 b6 a6;go_wp2_with fail;refine qz g (by kernel_rfl) (by kernel_rfl) bRf ?_
 repeat (go_big_quiet_step (first|with_reducible exact Lat.call P.out _|with_reducible exact Lat.call D1.out _|with_reducible exact Lat.call D2.out _))
 refine wpQuiet_nil ?_;rintro w5 ⟨⟨_,a1⟩,rfl⟩;clear r0 r1 r2 r3 r4 s0 s1 s2 s3 s4 v0 v1 P D1 D2;have a5:=t.trans (a1.mono t.size);replace E:=E.later a1;replace O:=O.later a1;clear a1 t C1 C2;obtain⟨p0,p1,-⟩:=E.g2;go_wp2_with fail;refine(CR.out _ a5).mono ?_;rintro ci I ⟨rv,rfl,d,a4⟩;have M:=a5.trans (a4.mono a5.size);replace d:=d.deep;obtain⟨ra,rc,rfl,_⟩:=d.form;obtain⟨rl,a3⟩:=xR (zN p).length;rw[a3];have c9:rl<=729:=by rw[<-a3];exact(by decide:(1:Nat)<=729)
 have bw:=hiD d;have ad:=hiD a3;have z3:=E.later a4;have e3:=O.later a4;clear CR p0 p1 d a3 E O a5 a4;obtain⟨T,hT⟩:=xL (fun row k=>yK s row k row.length []);obtain⟨G,hG⟩:=xL (fun row=>(List.range row.length).flatMap (T row));have az:rawW p s=(zN p).flatMap G:=by rw[hG,hT];rfl
 rw[az]at a2 aw ah;have HT:=hiD hT;have HG:=hiD hG;clear hT hG az;have c2:=M.size;go_wp2_with fail;go_loopw [8,44] (fun aq q wr=>∃k:Nat,k<=rl∧q=Vi k∧Hid (qj 2 I.1.size 127 mtR wr aq (((zN p).take k).flatMap G))∧Bz I wr) (fun _ q _=>rl-(intOf q).toNat);case atStart=>exact⟨0,jg _,rfl,hiD (qj.nil _ _ _ _ _),Below.refl _ _⟩
 case round=>
  obtain⟨k,hk,rfl,HO,N⟩:=hrel;by_cases b9:k<rl
  ·obtain⟨row,L⟩:∃row,(zN p)[k]?=some row:=⟨_,jB (by rw[ad.out];exact b9)⟩;obtain⟨bb,ch,c5,cs,e1,c7,c8,⟨rv,rfl,ab⟩,ay⟩:=bw.out.get L;rw[ad.out]at e1;cases e1;have an:row∈zN p:=jY L;have c0:row.length<=729:=by
    have h:row=[0,1]:=by simpa[zN]using an
    rw[h];decide
   obtain⟨va,vc,rfl,_⟩:=ab.form;have p0:=qd N nLe (ay 0 _ rfl);rw[Nat.add_zero,Nat.mul_one]at p0;obtain⟨y,a9⟩:=xR (((zN p).take k).flatMap G);have a8:((zN p).take (k+1)).flatMap G=y++G row:=by
    rw[List.take_add_one,L];simp only[Option.toList_some,dH,List.flatMap_cons,List.flatMap_nil,jo];rw[a9]
   have a':(y++G row).length<2:=by
    refine Nat.lt_of_le_of_lt ?_ ah;rw[<-a8]
    conv=>rhs;rw[<-jv (k+1) (zN p)]
    rw[dH,jZ];omega
   rw[a9]at HO;have al:=congrFun HG.out row;obtain⟨z,F⟩:=xR row.length;rw[F]at c0;have bv:=hiD (show RowT 1 3 intV I (Sq va z vc) row by rw[<-F];exact ab);rw[F]at p0 al;have bu:=hiD F;have br:=hiD a8;have bx:=hiD a';have av:=hiD al;have bt:=hiD an;clear ay ab L an a9 F a8 a' al;have cf:=N.size;go_wp2_with fail;go_loopw [8,50] (fun aq q wx=>∃j:Nat,j<=z∧q=Vi j∧Hid (qj 2 I.1.size 127 mtR wx aq (y++(List.range j).flatMap (T row)))∧Bz I wx) (fun _ q _=>z-(intOf q).toNat);case atStart=>exact⟨0,jg _,rfl,hiD (by simpa using HO.out),N⟩
   case round=>
    obtain⟨j,hj,rfl,H,C⟩:=hrel;by_cases b8:j<z
    ·have zx:=z3.later C;have ex:=e3.later C;obtain⟨q0,q1,-⟩:=zx.g2;obtain⟨q2,q3,q4,q5,q6,-⟩:=ex.g5;have cg:=C.size;have a7:∀b,u8.ownBlock=some b->I.1.size<=b∧b<wr.1.size:=fun b S=>by
      refine⟨qE H.out.row.choose_spec b S,?_⟩;obtain⟨cs,q,hc⟩:=qP H.out.row.choose_spec S;exact(jA.1 hc).1
     obtain⟨oa,oc,c1⟩:=qh H.out.row.choose_spec;subst c1;have ar:(y++(List.range j).flatMap (T row)).length+(T row j).length<=1000000:=by
      have h1:=bx.out;rw[av.out]at h1;have h2:((List.range (j+1)).flatMap (T row)).length<=((List.range z).flatMap (T row)).length:=by
       conv=>rhs;rw[<-jv (j+1) (List.range z)]
       rw[List.take_range,Nat.min_eq_left (by omega),dH,jZ];omega
      rw[List.range_succ,dH,jZ]at h2;simp only[List.flatMap_cons,List.flatMap_nil,jo]at h2;rw[jZ]at h1⊢;omega
     obtain⟨au,af⟩:=xR (y++(List.range j).flatMap (T row));obtain⟨LN,b3⟩:=xR au.length;rw[af]at a7 ar H⊢;rw[b3]at a7 H⊢;have bs:=hiD a7;have bp:=hiD ar;have bn:=hiD af;clear a7 ar af b3;go_wp2_with fail;refine(IY _ _).mono ?_;rintro x w4 ⟨rfl,rfl⟩;go_wp2_with fail;refine(Bv p _ _ _ _ ⟨D,B,A,o,r,n⟩ j _ ⟨_,_,_,rfl⟩ ⟨_,_,_,rfl⟩ ⟨_,_,_,rfl⟩ ⟨_,_,_,rfl⟩).mono ?_;rintro x w5 ⟨rfl,zh,za,l⟩;have m:=C.trans (l.mono C.size);have am:=Qt p s row ⟨D,B,A,o,r,n⟩ j (bq.out row bt.out j (by rw[bu.out];exact b8)) row.length [] (by simp) ⟨.inl rfl,fun h=>absurd h (by decide)⟩ (Sq J p.1.length K) (Vs Q U s.length sc) (Sq va z vc) Vn w4.1.size (w4.1.size+1);have b4:yK s row j row.length []=T row j:=(congrFun (congrFun HT.out row) j).symm;rw[b4]at am;have CA:=hiD (Oa _ _ Ba (T row j) _ am au I.1.size (Sq oa LN oc) w5 m.size ((qj.kept mtR.kept _ _).later H.out l) bp.out (fun i V=>by
      have hD:∀b,Value.ownBlock (Sq oa LN oc)=some b->I.1.size<=b∧b<w4.1.size:=bs.out;have b2:∀b,Value.ownBlock (Sq oa LN oc)=some b->w.1.size<=b:=fun b S=>jS c2 (hD b S).1;have b5:=M.trans (m.mono M.size);exact {hh:=zh.keepsN V (fun h=>by have:=hD _ h;omega),ha:=za.keepsN V (fun h=>by have:=hD _ h;omega),st:=(qN.kept _ _).on HS.out b5 V b2,ev:=(RowT.kept _ _).on ax.out b5 V b2,row:=(RowT.kept _ _).on bv.out m V (fun b S=>(hD b S).1),ahd:=RowT.nil _ _ _ _}))
     have bo:=hiD m;clear am b4 zh za l m q0 q1 q2 q3 q4 q5 q6;go_wp2_with fail;refine CA.out.mono ?_;rintro x w6 ⟨v',rfl,W,ag,-⟩;have aj:qj 2 I.1.size 127 mtR w6 v' (y++(List.range (j+1)).flatMap (T row)):=by
      rw[List.range_succ,dH,<-jk,bn.out];simpa using W
     obtain⟨cj,ck,bf⟩:=qh aj.row.choose_spec;generalize (y++(List.range (j+1)).flatMap (T row)).length=c4 at bf;subst bf;have HD:=hiD aj;clear W aj CA;go_wp2_with fail;rw[show ((j:Int)+1)=((j+1:Nat):Int) by push_cast;rfl];exact⟨⟨j+1,b8,rfl,HD,bo.out.trans ag⟩,by simp[intOf];omega⟩
    ·obtain rfl:j=z:=by omega
     go_wp2_with fail;rw[show ((k:Int)+1)=((k+1:Nat):Int) by push_cast;rfl];exact⟨⟨k+1,b9,rfl,hiD (by rw[br.out,av.out];exact H.out),C⟩,by simp[intOf];omega⟩
  ·obtain rfl:k=rl:=by omega
   have be:(zN p).take k=zN p:=by rw[<-ad.out];exact jn
   have ho:=HO.out;rw[be]at ho;have l:=M.trans (N.mono M.size);have P:=hiD (DW p _ aw.out ah (.agg #[Sq J p.1.length K,Vi p.2]) _ wr ⟨_,rfl,HS.out.mono l nLe⟩ ho.deep);have zx:=z3.later N;obtain⟨q0,q1,-⟩:=zx.g2;clear ho be;go_wp2_with fail;refine P.out.mono ?_;rintro x w4 ⟨v',rfl,W,ag⟩;have HD:=hiD W;clear W P;go_wp2_with fail;go_ret;exact⟨_,rfl,by rw[a2.out];exact HD.out.less l.size,l.trans (ag.mono l.size)⟩
theorem KT {p:Pt} (J:PtOk p) {s:List Ev} {e:Ev} (H:Sp s e) (v I:Value) (w:World) (K:PatV w v p) (D:RowT 5 36 evV w I s):
  Cs 295 #[v,I,evA e] w fun x w'=>∃d,x=Rt d∧qj 2 w.1.size 127 mtR w' d (rawW p s)∧Bz w w':=by
 have y:=hst1;obtain⟨u,rfl,n⟩:=K;obtain⟨k,i,rfl,l,j⟩:=n.form;obtain⟨t,z,rfl,r⟩:=D.form;have c:=hiD (fun E (F:Bz w E)=>KS J H (.agg #[Sq k p.1.length i,Vi p.2]) (Sq t s.length z) E ⟨_,rfl,n.mono F nLe⟩ (D.later F));obtain⟨A,b⟩:=xR (rawW p s);rw[b]at c⊢;clear n D H b;obtain⟨P,O,N,L,M,B⟩:=e;simp only[evA,evV]at c⊢;have a:=(bA w (Oc #[Sq k p.1.length i,Vi p.2] 25)).alloc (by simp) (Oc #[Vi P,Vi O,Vi N,Vi L,Vc M B] 36);go_enter func295,ntmps295;go_wp2_with fail;refine(c.out _ a).mono ?_;rintro x C ⟨d,rfl,h,f⟩;obtain⟨q,o,g⟩:=qh h.row.choose_spec;subst g;have m:=hiD h;clear h c;go_wp2_with fail;go_ret;exact⟨_,rfl,m.out.less a.size,a.trans (f.mono a.size)⟩
theorem Hq (c:Int) (l:List Mt) (o:∀m∈l,m.row.length<=1000000∧m.2.length<=1000000) (k:l.length<=1000000) (g:Value) (f d:Nat):
  vL prog 330 #[Vp f 0,Vp d 0] (fun i a W=>∃r e,a=#[.agg (outC ((l.map fun m=>(⟨c,m,0,0⟩:Ot)).getD i ot0).kind r e ((l.map fun m=>(⟨c,m,0,0⟩:Ot)).getD i ot0).at' ((l.map fun m=>(⟨c,m,0,0⟩:Ot)).getD i ot0).code).toArray]∧MtV W r e ((l.map fun m=>(⟨c,m,0,0⟩:Ot)).getD i ot0).m) (l.map fun m=>(⟨c,m,0,0⟩:Ot)).length
   (TolF c l g f d):=by
 have h:=Sk c l o k g f d;rw[List.length_map];refine h.toR fun i a W j n=>?_;have b:(l.map fun m=>(⟨c,m,0,0⟩:Ot)).getD i ot0=⟨c,l.getD i mt0,0,0⟩:=by simp[List.getD,j]
 rw[b];exact n
theorem FC (p:Pt) (e:Ev) (u:Value) (k:∃a n c,u=Sq a n c) (m:Option Addr) (r:Nat) (w:World):
  Cs 327 #[.agg #[u,Vi p.2],Sq m 0 r,evA e,Vb true] w fun x w'=>x=Rt Vn∧Bz w w':=by
 have g:=hst1;obtain⟨h,j,d,rfl⟩:=k;obtain⟨z,y,t,l,s,i⟩:=e;simp only[evA,evV];have b:=(bA w (Oc #[Sq h j d,Vi p.2] 25)).alloc (by simp) (Oc #[Vi z,Vi y,Vi t,Vi l,Vc s i] 36);go_enter func327,ntmps327;go_wp2_with fail;go_loopw [8,13] (fun o q wr=>o=Vn∧q=Vi 0∧Bz w wr) (fun _ _ _=>0);case atStart=>exact⟨rfl,rfl,b⟩
 case round=>
  obtain⟨rfl,rfl,f⟩:=hrel;go_wp2_with fail;go_ret;exact⟨rfl,f⟩
theorem Jw (p:Pt) (e:Ev) (u:Value) (o:∃a n c,u=Sq a n c) (q:Option Addr) (r:Nat) (w:World):
  Cs 293 #[.agg #[u,Vi p.2],Sq q 0 r,evA e] w fun x w'=>x=Rt Vn∧Bz w w':=by
 have g:=hst1;have f:=hiD (fun k=>FC p e u o q r k);obtain⟨i,l,h,rfl⟩:=o;obtain⟨A,z,y,s,t,j⟩:=e;simp only[evA,evV]at f⊢;have b:=(bA w (Oc #[Sq i l h,Vi p.2] 25)).alloc (by simp) (Oc #[Vi A,Vi z,Vi y,Vi s,Vc t j] 36);go_enter func293,ntmps293;go_wp2_with fail;refine(f.out _).mono ?_;rintro x m ⟨rfl,d⟩;go_wp2_with fail;go_ret;exact⟨rfl,b.trans (d.mono b.size)⟩
theorem IB {p:Pt} (hp:PtOk p) {s:List Ev} {e:Ev} (l:Sp s e) (v sv:Value) (S:Option Addr) (U:Nat) (w:World) (hv:PatV w v p) (r:RowT 5 36 evV w sv s)
  (hl:qv 2 127 mtR w (Sq S 0 U) []):
  Cs 263 #[v,Sq S 0 U,sv,evA e] w fun x w'=>∃lv ov,x=Rt (.tuple #[lv,ov])∧qj 2 w.1.size 127 mtR w' lv (addM p [] (rawW p s))∧qj 5 w.1.size 129 otR w' ov ((rawW p s).map fun m=>⟨1,m,0,0⟩)∧Bz w w':=by
 have c6:=hst1;obtain⟨u,rfl,R⟩:=hv;obtain⟨T,Q,rfl,c1,c3⟩:=R.form;obtain⟨sa,sc,rfl,c4⟩:=r.form;have c7:(rawW p s).length<2:=MT l;have a0:∀m∈rawW p s,MtSm p m:=Qz l;have CW:=hiD (fun o (d:Bz w o)=>KT hp l (.agg #[Sq T p.1.length Q,Vi p.2]) (Sq sa s.length sc) o ⟨_,rfl,R.mono d nLe⟩ (r.later d));have CB:=hiD (fun o=>Jw p e (Sq T p.1.length Q) ⟨_,_,_,rfl⟩ S U o);have a:=l.same;have c5:=l.sok.short;have ba:=l.sok.row;have ac:=l.sok.wf;obtain⟨W,a4,ag⟩:∃W,s[findN s e]?=some W∧sameE W e=true:=by
  unfold sameAt at a;cases hx:s[findN s e]? with
  |none=>rw[hx]at a;simp at a
  |some W=>rw[hx]at a;simp at a;exact⟨W,rfl,a.2⟩
 have b9:hasE s e=true:=by
  unfold sameAt at a;rw[jJ]at a;exact a.1
 clear a;generalize bp:rawW p s=P at*;obtain⟨M,H,D,z,C,t⟩:=e;simp only[evA,evV]at CW CB⊢;have a3:=(bA w (Oc #[Sq T p.1.length Q,Vi p.2] 25)).alloc (by simp) (Oc #[Vi M,Vi H,Vi D,Vi z,Vc C t] 36);have f:=(Holds.fresh w 25 #[Sq T p.1.length Q,Vi p.2]).alloc (Oc #[Vi M,Vi H,Vi D,Vi z,Vc C t] 36);have y:=Holds.fresh' (w:=w.alloc (Oc #[Sq T p.1.length Q,Vi p.2] 25)) (b:=w.1.size+1) (by simp) 36 #[Vi M,Vi H,Vi D,Vi z,Vc C t];have CF:=hiD (B2 ⟨M,H,D,z,C,t⟩ s _ _ (r.later a3).1);have HS:=hiD R;have bm:=hiD r;have a8:=hiD a4;have ae:=hiD (And.intro ag (And.intro (ac _ (jY a4)) (of_decide_eq_true ag:_=_).symm));have aw:=hiD hl;have g:=hiD a0;have C1:=hiD (fun o (d:Bz w o)=>yZ p hp (.agg #[Sq T p.1.length Q,Vi p.2]) o ⟨_,rfl,R.mono d nLe⟩);have C2:=hiD (fun o (d:Bz w o)=>A0 s ac (Sq sa s.length sc) o (r.later d).1);rw[ba]at C2;clear R r ac a4 ag l ba hl bp a0;go_enter func263,ntmps263;go_wp2_with fail;refine zE 0 rfl ?_;go_wp2_with fail;refine CF.out.mono ?_;rintro x I ⟨rfl,K⟩;have a1:=a3.trans (K.mono a3.size);replace f:=f.later K;replace y:=y.later K;rw[b9];obtain⟨n,b8⟩:=xR (findN s ⟨M,H,D,z,C,t⟩);rw[b8]at a8⊢;have bv:=(jG.1 a8.out).1;obtain⟨N,V,d2,bh,b0,ax,bf,bg,be,O,_,bc,y0,y1,y2,y3,y4⟩:=yq (bm.out.later a1).1 bv;cases O;have bd:=a8.out;rw[bc]at bd;cases bd;have CS:=hiD (fun o (d:Bz I o)=>(Ac ⟨bh,b0,ax,bf,bg,be⟩ ⟨M,H,D,z,C,t⟩ ae.out.2.1 (.inl ae.out.2.2) o).mono (fun e w' h=>(⟨by rw[h.1,ae.out.1],d.trans (h.2.mono d.size)⟩:e=Rt (Vb true)∧Bz I w')));simp only[evA,evV]at CS;obtain⟨r0,r1,r2,r3,r4,-⟩:=y.l5;have s0:∀u:Lat I,Cq u.v N (V+n*5) (Vi bh):=fun u=>u.cell y0;have s1:∀u:Lat I,Cq u.v N (V+n*5+1) (Vi b0):=fun u=>u.cell y1;have s2:∀u:Lat I,Cq u.v N (V+n*5+2) (Vi ax):=fun u=>u.cell y2;have s3:∀u:Lat I,Cq u.v N (V+n*5+3) (Vi bf):=fun u=>u.cell y3;have s4:∀u:Lat I,Cq u.v N (V+n*5+4) (Vc bg be):=fun u=>u.cell y4;have c2:(n:Int)<s.length:=by omega
 clear CF y0 y1 y2 y3 y4 bc b9 b8 K;go_wp2_with fail;refine qz I (by kernel_rfl) (by kernel_rfl) bRf ?_
 repeat (go_big_quiet_step (first|with_reducible exact Lat.call CS.out _))
 refine wpQuiet_nil ?_;rintro w5 ⟨⟨_,J⟩,rfl⟩;have af:=a1.trans (J.mono a1.size);replace f:=f.later J;replace y:=y.later J;clear r0 r1 r2 r3 r4 s0 s1 s2 s3 s4 CS J a1;obtain⟨A,B,-⟩:=f.g2;go_wp2_with fail;refine(C1.out _ af).mono ?_;rintro x w6 ⟨rfl,ad⟩;have ah:=af.trans (ad.mono af.size);replace f:=f.later ad;replace y:=y.later ad;clear A B C1;go_wp2_with fail;refine(C2.out _ ah).mono ?_;rintro x w7 ⟨rfl,a5⟩;have b1:=ah.trans (a5.mono ah.size);replace f:=f.later a5;replace y:=y.later a5;clear C2;obtain⟨A,B,-⟩:=f.g2;obtain⟨e0,e1,O,e3,e4,-⟩:=y.g5;go_wp2_with fail;refine(CB.out _).mono ?_;rintro x w8 ⟨rfl,an⟩;have ap:=b1.trans (an.mono b1.size);replace f:=f.later an;replace y:=y.later an;clear A B e0 e1 O e3 e4 CB;obtain⟨A,B,-⟩:=f.g2;obtain⟨e0,e1,O,e3,e4,-⟩:=y.g5;go_wp2_with fail;refine(CW.out _ ap).mono ?_;rintro x w9 ⟨wv,rfl,aa,b4⟩;have am:=ap.trans (b4.mono ap.size);replace f:=f.later b4;obtain⟨wa,wc,rfl⟩:=qh aa.row.choose_spec;have CD:=hiD (Nn [] P (fun m h=>nomatch h) (by simp) (fun m h=>⟨(g.out m h).row,(g.out m h).evl⟩) (by omega) (Sq S 0 U) _ w9 (qD aw.out am) aa.deep);clear A B e0 e1 O e3 e4 CW y aa;have bw:FN P []=P:=by unfold FN;simp
 rw[bw]at CD;go_wp2_with fail;refine CD.out.mono ?_;rintro x F ⟨gv,cv,rfl,-,a6,b3⟩;have i:=am.trans (b3.mono am.size);replace f:=f.later b3;obtain⟨ca,cc,b7⟩:=qh a6.row.choose_spec;obtain⟨WL,bo⟩:=xR P.length;rw[bo]at b7;subst b7;have au:=hiD a6;clear CD a6;go_wp2_with fail;refine(IA 2 Vn F ⟨_,_,_,rfl⟩).mono ?_;rintro x bz ⟨rfl,X,Z,k⟩;have CC:=hiD (Tx _ _ EQ [] _ (Hq 2 [] (fun m h=>nomatch h) (by simp) Vn (F.1.size+1) F.1.size) bz (by simp) (fun o q=>⟨X.keepsN q (fun h=>h),Z.keepsN q (fun h=>h),qv.nil _ _ _ _⟩));have a':=i.trans (k.mono i.size);clear X Z;go_wp2_with fail;refine CC.out.mono ?_;rintro x L ⟨v0,rfl,ai,az⟩;have ay:=a'.trans (az.mono a'.size);obtain⟨oa,oc,E⟩:=qh ai.row.choose_spec;simp only[jO]at E;subst E;have a2:=k.trans (az.mono k.size);have aj:=hiD ai;clear CC ai;go_wp2_with fail;refine(IA 1 (Sq ca WL cc) L ⟨_,_,_,rfl⟩).mono ?_;rintro x b' ⟨rfl,X,Z,ao⟩;have c0:=ay.trans (ao.mono ay.size);have aq:=a2.trans (ao.mono a2.size);have hD:∀b,Value.ownBlock (Sq oa 0 oc)=some b->F.1.size<=b∧b<L.1.size:=fun b hb=>by
  refine⟨jS k.size (qE aj.out.row.choose_spec b hb),?_⟩;obtain⟨cs,c8,hc⟩:=qP aj.out.row.choose_spec hb;exact(jA.1 hc).1
 have CA:=hiD (Gm _ _ EQ (P.map fun m=>(⟨1,m,0,0⟩:Ot)) _ (Hq 1 P (fun m h=>⟨(g.out m h).row,(g.out m h).evl⟩) (by omega) (Sq ca WL cc) (L.1.size+1) L.1.size) [] F.1.size (Sq oa 0 oc) b' aq.size ((qj.kept otR.kept _ _).later (aj.out.less k.size) ao) (by simp;omega) (fun o q=>⟨X.keepsN q (fun h=>by have:=hD _ h;omega),Z.keepsN q (fun h=>by have:=hD _ h;omega),(D8 _ _).on au.out.deep aq q (fun b hb=>(hD b hb).1)⟩));clear X Z hD;go_wp2_with fail;refine CA.out.mono ?_;rintro x ak ⟨ov,rfl,ab,bq,-⟩;have al:=aq.trans bq;have c:=i.trans (al.mono i.size);have bi:=f.later al;obtain⟨ga,gc,E⟩:=qh ab.row.choose_spec;obtain⟨GL,b5⟩:=xR ([]++P.map fun m=>(⟨1,m,0,0⟩:Ot)).length;rw[b5]at E;subst E;have bl:=hiD ab;clear CA ab f b5;go_wp2_with fail;have HC:=hiD (fun w' (b6:Bz ak w')=>(⟨(bi.later b6).cell 0,(bi.later b6).cell 1⟩:Cq w' w.1.size 0 (Sq T p.1.length Q)∧Cq w' w.1.size 1 (Vi p.2)));refine qO [(true,0),(true,1),(true,2),(true,4),(true,6),(false,3),(false,5),(false,7)] 8 [] (by kernel_rfl) (by kernel_rfl) (fun w'=>Bz ak w') (bRf.drew) (fun _ _ bn _ _ h=>by cases bn<;>exact h) ?_;simp only[qI,xx,jM,jN]
 repeat (refine zX rfl (fun w' hS=>by obtain⟨A,B⟩:=HC.out w' hS;(go_simp<;>rfl)) ?_)
 simp only[Act.put,jC,jL,jK];refine zQ rfl ?_;go_simp;have a9:Bz ak ak.drew:=bRf.drew;have br:=c.trans (a9.mono c.size);refine(At [] [] (fun m h=>nomatch h) (by simp) (Sq S 0 U) Vn _ (qD aw.out br) (qv.nil _ _ _ _)).mono ?_;rintro x cb ⟨tv,rfl,bb,bs⟩;have j:=a9.trans (bs.mono a9.size);have b2:=c.trans (j.mono c.size);refine⟨j,?_⟩;refine zQ rfl ?_;go_simp;refine(PG p [] P (fun m h=>nomatch h) g.out (by simp;omega) (.agg #[Sq T p.1.length Q,Vi p.2]) tv (Sq ca WL cc) _ ⟨_,rfl,HS.out.mono b2 nLe⟩ bb.deep ((D8 _ _).later au.out.deep (al.trans (j.mono al.size)))).mono ?_;rintro x cd ⟨av,rfl,a7,bt⟩;have ar:=j.trans (bt.mono j.size);have bu:=c.trans (ar.mono c.size);obtain⟨xa,xc,bx⟩:=qh a7.row.choose_spec;subst bx;have bk:=hiD a7;clear a7 bb;refine⟨ar,?_⟩;refine zQ rfl ?_;go_simp;go_wp2_with fail;refine vf ?_;go_wp2_with fail;rw[qU];go_ret2;exact⟨_,_,rfl,bk.out.less b2.size,(qj.kept otR.kept _ _).later (by simpa using bl.out.less i.size) ar,bu⟩
end
end Go.Proofs.YtnmpcdnbklmhkaaGreatDoor
