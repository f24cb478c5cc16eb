import Derived.Test.YtnmpcdnbklmhkaaGreatDoorQAw
import Derived.Test.YtnmpcdnbklmhkaaGreatDoorQAn
import Derived.Maps.OwnIn
namespace Go.Proofs.YtnmpcdnbklmhkaaGreatDoor
open Go.Proofs.Tryz Go.RowKit
set_option maxRecDepth 100000
set_option linter.all false
set_option maxHeartbeats 8000000
section
attribute [local go_sem] Oper.semAt_some
attribute [local go_sem ↓] Go.wp_at_zero Go.wp_at_succ
theorem mtR.kept (m:Mt) (a:List Value):Kept (mtR m a):=Kept.ex fun _=>Kept.ex fun _=>(Kept.pure _).and (MtV.kept _ _ _)
def BoxD (B:Nat) (v:Value) (b:Nat):Prop:=b=B∨v.ownBlock=some b
theorem BoxD.typed {W:World} {B T E f k n:Nat} {v:Value} {g:List Value} (d:Holds W B T #[v]) (e:W.ownsRow f E k v n g) {b:Nat} (a:BoxD B v b):∃c q t,W.1[b]?=some (.cells c t q)∧(t=T∨t=E):=by
 rcases a with rfl|a
 ·exact⟨_,_,_,d,.inl rfl⟩
 ·obtain⟨c,q,h⟩:=qP e a;exact⟨_,_,_,h,.inr rfl⟩
theorem BoxD.apart {W:World} {B T E o k n F:Nat} {v:Value} {p:List Value} (j:Holds W B T #[v]) (l:W.ownsRow o E k v n p) (g:F≠T) (i:F≠E):∀b,BoxD B v b->∀f q,W.1[b]?≠some (.cells f F q):=fun b d f q h=>by
 obtain⟨a,e,t,c,m⟩:=BoxD.typed j l d;rw[c]at h;cases h;rcases m with rfl|rfl
 ·exact g rfl
 ·exact i rfl
theorem MG {W g:World} {D:Nat->Prop} {v:Value} {l:List (List Int)} (h:qv 1 125 rowR W v l) (i:qg D W g) (j:∀b,D b->∀f q,W.1[b]?≠some (.cells f 3 q)) (k:∀b,D b->∀f q,W.1[b]?≠some (.cells f 125 q)):qv 1 125 rowR g v l:=by
 obtain⟨o,e,n,m⟩:=h;refine⟨o,e,n.keptT i k,fun y a=>?_⟩;obtain⟨u,d,c⟩:=m y a;exact⟨u,d,c.keptT i j⟩
theorem rawM_ok {p:Pt} {s:List Ev} (h:SOk s):rawM p s=[]∨s=[l2,l1]∧rawM p s=[lM]:=by
 rcases h with rfl|rfl|rfl
 ·exact .inl rfl
 ·exact .inl rfl
 ·exact .inr ⟨rfl,rfl⟩
theorem A4 {p:Pt} {s:List Ev} (h:SOk s):(rawM p s).length<2:=by rcases rawM_ok (p:=p) h with e|⟨_,e⟩<;>rw[e]<;>decide
theorem Li {p:Pt} {s:List Ev} (h:SOk s):∀m∈rawM p s,MtSm p m:=fun m a=>by
 rcases rawM_ok (p:=p) h with e|⟨_,e⟩<;>rw[e]at a
 ·cases a
 ·exact(by simpa using a:m=lM)
theorem SOk.wf {s:List Ev} (h:SOk s):∀x∈s,evWf x:=fun x a=>by
 rcases h.mem a with rfl|⟨rfl,_⟩<;>simp[evWf]
theorem SOk.row {s:List Ev} (h:SOk s):rowB s=true:=by rcases h with rfl|rfl|rfl<;>kernel_rfl
theorem IC {p:Pt} (hp:PtOk p) {s:List Ev} (hS:SOk s) (v sv:Value) (w:World) (hv:PatV w v p) (b0:RowT 5 36 evV w sv s):
  Cs 228 #[v,sv] w fun e w'=>∃i,e=Rt i∧qj 2 w.1.size 127 mtR w' i (allM p s)∧Bz w w':=by
 obtain⟨d9,rfl,hs⟩:=hv;obtain⟨C,c1,rfl,db,dm⟩:=hs.form;obtain⟨n,r,rfl,_⟩:=b0.form;obtain⟨i0,cz,d6,d7,d8⟩:=Vv;obtain⟨E,b7⟩:=xR (allM p s);rw[b7];have cm:=hiD b7;clear b7;have ba:=((Below.refl w.1.size w).alloc nLe (Oc #[Sq C p.1.length c1,Vi p.2] 25)).alloc (by simp) (Oc #[Vn] 115);have S:=(Holds.fresh w 25 #[Sq C p.1.length c1,Vi p.2]).alloc (Oc #[Vn] 115);have R:=Holds.fresh' (w:=w.alloc (Oc #[Sq C p.1.length c1,Vi p.2] 25)) (b:=w.1.size+1) (by simp) 115 #[Vn];have C1:=hiD (fun t (ag:Bz w t)=>yZ p hp (.agg #[Sq C p.1.length c1,Vi p.2]) t ⟨_,rfl,hs.mono ag nLe⟩);have C2:=fun t (ag:Bz w t)=>A0 s hS.wf (Sq n s.length r) t (b0.later ag).1;rw[hS.row]at C2;have C2:=hiD C2;have C3:=hiD (fun t (ag:Bz w t)=>BX p hp (.agg #[Sq C p.1.length c1,Vi p.2]) t ⟨_,rfl,hs.mono ag nLe⟩);refine qH func228 rfl ?_;simp only[ntmps228,jW,jF,jO,Nat.reduceAdd,Nat.reduceSub,jR,jQ,jX,jU,jD,jE];go_wp2_with fail;refine(C1.out _ ba).mono ?_;rintro a9 w1 ⟨rfl,aq⟩;have ar:=ba.trans (aq.mono ba.size);have N:=R.later aq;have bl:=S.later aq;clear C1 R S;have hf:=Boxed.frozen N;have dn:=N.size;obtain⟨y,B,-⟩:=bl.g2;go_wp2_with fail;refine(C2.out _ ar).mono ?_;rintro a9 w2 ⟨rfl,av⟩;have aw:=ar.trans (av.mono ar.size);replace N:=N.later av;have a3:=bl.later av;have df:=Boxed.frozen N;have dp:=N.size;clear C2 y B bl;obtain⟨y,B,-⟩:=a3.g2;have dk:=a3.size;go_wp2_with fail;refine(C3.out _ aw).mono ?_;rintro a9 w3 ⟨rv,rfl,ab,ax⟩;have bx:=aw.trans (ax.mono aw.size);replace ab:=ab.deep;obtain⟨ra,D,rfl,_⟩:=ab.form;have de:(zN p).length<=729:=by show 1<=729;decide
 have bo:=hiD ab;have z3:=N.later ax;have cc:=a3.later ax;clear C3 y B ab a3 N;generalize cb:(zN p).length=c at*;have b4:=hiD cb;clear cb;go_wp2_with fail;refine wp_loop (fun an wr=>∃(k:Nat) (Ks:List Nat) (u6 u7 u20 u21 u22 u23 u24 u25 u26 u27 u28 u29 u30 u31 u32 u33 v:Value),k<=c∧an={tmps:=#[.agg #[Sq C p.1.length c1,Vi p.2],Sq n s.length r,Vp w.1.size 0,undef,Vp (w.1.size+1) 0,undef,u6,u7,.agg #[Sq C p.1.length c1,Vi p.2],Vb true,Vb false,Vb false,Sq n s.length r,Vb true,Vb false,Vb false,.agg #[Sq C p.1.length c1,Vi p.2],Sq ra c D,Vi c,Vi k,u20,u21,u22,u23,u24,u25,u26,u27,u28,u29,u30,u31,u32,u33,undef,undef,undef],defers:=Ks.map mark}∧qV w.1.size wr Ks∧Holds wr (w.1.size+1) 115 #[v]∧qj 2 w.1.size 127 mtR wr v (((zN p).take k).flatMap fun row=>yh p s row row.length [])∧Holds wr w.1.size 25 #[Sq C p.1.length c1,Vi p.2]∧qv 1 125 rowR wr (Sq ra c D) (zN p)∧Bz w wr)
  (fun an _=>c-(intOf (an.tmps.getD 19 undef)).toNat) ?_ ?_
 ·exact⟨0,[],undef,undef,undef,undef,undef,undef,undef,undef,undef,undef,undef,undef,undef,undef,undef,undef,Vn,jg _,rfl,qV.nil _ _,z3,qj.nil _ _ _ _ _,cc,bo.out,bx⟩
 clear z3 cc bo ax aq ar av aw bx;rintro an wr ⟨k,Ks,u6,u7,u20,u21,u22,u23,u24,u25,u26,u27,u28,u29,u30,u31,u32,u33,v,hk,rfl,ay,R,f,S,bg,W⟩;have di:=S.size;have d3:=R.size;by_cases c7:k<c
 ·obtain⟨row,hx⟩:∃row,(zN p)[k]?=some row:=⟨_,jB (by rw[b4.out];exact c7)⟩;obtain⟨bb,a0,br,a,e1,dc,dd,⟨rv,rfl,d⟩,bz⟩:=bg.get hx;rw[b4.out]at e1;cases e1;have aj:row∈zN p:=jY hx;have aj:row=[0,1]:=by simpa[zN]using aj
  have dl:row.length<=4:=by rw[aj];decide
  obtain⟨I,K,rfl,_⟩:=d.form;have p0:=bz 0 _ rfl;rw[Nat.add_zero,Nat.mul_one]at p0;obtain⟨y,B,-⟩:=S.g2;have bn:=hiD d;have HX:=hiD hx;have cn:=hiD aj;have bp:=hiD bg;have b3:=hiD f;clear bz d hx aj bg f;go_wp2_with fail;refine(Bj _ _ _ _ _ _ ⟨_,_,_,rfl⟩ ⟨_,_,_,rfl⟩ ⟨_,_,_,rfl⟩ ⟨_,_,_,rfl⟩ ⟨_,rfl⟩).mono ?_;rintro a9 W6 ⟨rfl,zv,zr,za,V⟩;have L:=W.trans (V.mono W.size);have bk:=R.later V;have a3:=S.later V;have be:=ay.later V;have c6:Kept (fun af=>qj 2 w.1.size 127 mtR af v (((zN p).take k).flatMap fun row=>yh p s row row.length [])):=qj.kept mtR.kept _ _;have ae:=hiD (c6.later b3.out V);have co:=hiD (bn.out.later V);have cq:=hiD ((show Kept (fun af=>qv 1 125 rowR af (Vs bb a0 c D) (zN p))from qv.kept rowR.kept _ _).later bp.out V);have dq:=W.size;have b5:∀b,BoxD (w.1.size+1) v b->b<wr.1.size:=by
   rintro b (rfl|H)
   ·exact d3
   ·obtain⟨a,q,u⟩:=qP b3.out.row.choose_spec H;exact(jA.1 u).1
  clear c6 b3 bn bp p0 y B R S ay;generalize dr:wr.1.size=M at*;obtain⟨G,hG⟩:=xR (yh p s row row.length []);obtain⟨a1,b6⟩:=xR (((zN p).take k).flatMap (fun row=>yh p s row row.length []));have a2:((zN p).take (k+1)).flatMap (fun row=>yh p s row row.length [])=a1++G:=by
   rw[List.take_add_one,HX.out];simp only[Option.toList_some,dH,List.flatMap_cons,List.flatMap_nil,jo];rw[b6,hG]
  have d5:(a1++G).length<=(rawM p s).length:=by
   rw[<-a2];unfold rawM
   conv=>rhs;rw[<-jv (k+1) (zN p)]
   rw[dH,jZ];omega
  rw[jZ]at d5;rw[b6]at ae;have c9:MchP p s row:=⟨hp,hS,cn.out⟩;have bc:=EH p s row c9 row.length [] (by simp) (.inl rfl) (Sq C p.1.length c1) (Sq n s.length r) (Sq I row.length K) Vn M (M+1) (M+1+1);rw[hG]at bc;have ch:=hiD bc;have cl:=hiD a2;have HS:=hiD hs;have cr:=hiD b0;have b':=A4 (p:=p) hS;clear bc a2 hG b6 c9 hs b0;have dj:=a3.size;have d4:=bk.size;go_wp2_with fail;refine yF rfl BS ch.out (by rintro dv vs X ⟨a9,e,rfl,_⟩;rfl)
   (fun j b2 X=>∃i,b2=BoxD (w.1.size+1) i∧Holds X (w.1.size+1) 115 #[i]∧qj 2 w.1.size 127 mtR X i (a1++G.take j)∧Holds X w.1.size 25 #[Sq C p.1.length c1,Vi p.2]∧qv 1 125 rowR X (Vs bb a0 c D) (zN p)∧Bz w X∧qV w.1.size X Ks)
   (fun _ _ _=>False) (BoxD (w.1.size+1) v) ?_ ?_ ?_ ?_ ⟨v,rfl,bk,by rw[dF,jo];exact ae.out,a3,cq.out,L,be⟩
   (fun j a' X=>∃(bm:Nat) (l:Option Addr) (m g:Nat) (o:Option Addr) (q x:Nat),Holds X bm 127 #[Sq l m g,Sq o q x]∧MtV X (Sq l m g) (Sq o q x) (G.getD j mt0)∧a'={tmps:=#[.agg #[Sq C p.1.length c1,Vi p.2],Sq n s.length r,Vp w.1.size 0,undef,Vp (w.1.size+1) 0,undef,Sq I row.length K,Vp bm 0,.agg #[Sq C p.1.length c1,Vi p.2],Vb true,Vb false,Vb false,Sq n s.length r,Vb true,Vb false,Vb false,.agg #[Sq C p.1.length c1,Vi p.2],Vs bb a0 c D,Vi c,Vi k,Vb true,Vp bb (a0+k),Sq I row.length K,.agg #[Sq C p.1.length c1,Vi p.2],Sq n s.length r,.agg #[Sq C p.1.length c1,Vi p.2,Sq n s.length r],Sq I row.length K,.func (.func 283) #[] #[Vp (M+1) 0,Vp (M+1+1) 0,Vp M 0],.agg #[Sq l m g,Sq o q x],u29,u30,u31,u32,u33,undef,undef,undef],defers:=[]}) ?_ ?_ ?_ ?_ ?_
  ·intro j b2;exact qe.ex fun v=>(qe.pure _).and ((qi _ _ _).and (((qj.kept mtR.kept _ _).stable _).and ((qi _ _ _).and (((qv.kept rowR.kept _ _).stable _).and ((qe.below (by have:=L.size;omega) nLe).and (xA (fun bq hK=>be.lt bq hK)))))))
  ·intro br j;exact qe.pure _
  ·intro X hX;have hD:∀b,BoxD (w.1.size+1) v b->w.1.size<=b:=by
    rintro b (rfl|H)
    ·omega
    ·exact qE ae.out.row.choose_spec b H
   exact {hv:=zv.keepsN hX (fun h=>by have:=b5 _ h;omega),hr:=zr.keepsN hX (fun h=>by have:=b5 _ h;omega),ha:=za.keepsN hX (fun h=>by have:=b5 _ h;omega),st:=(qN.kept _ _).on HS.out L hX hD,ev:=(RowT.kept _ _).on cr.out L hX hD,row:=co.out.keptT hX (BoxD.apart bk ae.out.row.choose_spec (by decide) (by decide)),ahd:=RowT.nil _ _ _ _}
  ·rintro b (rfl|H)
   ·exact d4
   ·obtain⟨a,q,u⟩:=qP ae.out.row.choose_spec H;exact(jA.1 u).1
  ·intro j a';exact qe.ex fun bm=>qe.ex fun ra=>qe.ex fun m=>qe.ex fun D=>qe.ex fun ea=>qe.ex fun q=>qe.ex fun ec=>(qi _ _ _).and (((MtV.kept _ _ _).stable _).and (qe.pure _))
  ·rintro l' j vs X D' K' hi bd bt bs hI ⟨a9,e,rfl,Q⟩ bu;obtain⟨l,g,rfl,_⟩:=Q.1.form;obtain⟨o,x,rfl,_⟩:=Q.2.form;generalize (G.getD j mt0).row.length=m at*;generalize (G.getD j mt0).2.length=q at*;have Z:Bz X (X.alloc (Oc #[Sq l m g,Sq o q x] 127)):=bRf.alloc nLe _;obtain⟨i,rfl,z,f,T,U,P,a8⟩:=hI;have bv:=bu {tmps:=#[.agg #[Sq C p.1.length c1,Vi p.2],Sq n s.length r,Vp w.1.size 0,undef,Vp (w.1.size+1) 0,undef,Sq I row.length K,Vp X.1.size 0,.agg #[Sq C p.1.length c1,Vi p.2],Vb true,Vb false,Vb false,Sq n s.length r,Vb true,Vb false,Vb false,.agg #[Sq C p.1.length c1,Vi p.2],Vs bb a0 c D,Vi c,Vi k,Vb true,Vp bb (a0+k),Sq I row.length K,.agg #[Sq C p.1.length c1,Vi p.2],Sq n s.length r,.agg #[Sq C p.1.length c1,Vi p.2,Sq n s.length r],Sq I row.length K,.func (.func 283) #[] #[Vp (M+1) 0,Vp (M+1+1) 0,Vp M 0],.agg #[Sq l m g,Sq o q x],u29,u30,u31,u32,u33,undef,undef,undef],defers:=[]} (X.alloc (Oc #[Sq l m g,Sq o q x] 127)) ((KeepsOthers.alloc _ _).from _) (qg.alloc _ _ _) ⟨i,rfl,z.alloc _,(qj.kept mtR.kept _ _).later f Z,T.alloc _,(show Kept (fun af=>qv 1 125 rowR af (Vs bb a0 c D) (zN p))from qv.kept rowR.kept _ _).later U Z,P.trans (Z.mono P.size),a8.later Z⟩ ⟨X.1.size,l,m,g,o,q,x,Holds.fresh _ _ _,⟨Q.1.later Z,Q.2.later Z⟩,rfl⟩;have ci:=hiD bv;clear bv bu Z Q z f T U P a8;gi_wp2;exact ci.out
  ·rintro l' j a' X D' dh hi bd bt bs ⟨i,rfl,z,f,T,U,P,a8⟩ ⟨bm,l,m,g,o,q,x,zm,Q,rfl⟩;obtain⟨l2,he,d,ao⟩:=f;have c5:G.getD j mt0=G[j]:=by simp[List.getD,hi]
   have b1:G.take (j+1)=G.take j++[G.getD j mt0]:=by rw[ja hi,c5]
   have cu:(a1++G.take j).length<20:=by rw[jZ,jb];omega
   obtain⟨ac,hN⟩:=xR (a1++G.take j).length;rw[hN]at d cu;have cs:=hiD b1;have ck:=hiD hN;have cg:=hiD he;have ce:=hiD ao;have cj:=hiD Q;have cp:=hiD U;clear b1 hN c5 he ao Q U;have c0:=z.cell 0;obtain⟨y,B,-⟩:=zm.g2;simp at c0;have dt:=z.size;have ay:=zm.size;have d2:w.1.size<=(X.alloc (Oc #[Sq l m g,Sq o q x] 127)).1.size:=by have:=P.size;simp;omega
   gi_wp2_with (gi_at_builtin;refine wpListIn_append_own_at _ rfl (.tmp 29) (.tmp 31) 115 rfl w.1.size 127 i0 (.agg #[Vn,Vn]) 2 48 underlying115 cz d6 d7 d8 rfl (by decide) i ac (l2.flatMap fun al=>al.2.1) rfl (d.alloc _) (Ad X.1.size 0) 1 1 [Sq l m g,Sq o q x] rfl rfl ?c1 ?c2 ?c3 ?c4 d2 ?_);case c1=>exact qR X [Sq l m g,Sq o q x] 127
   case c2=>
    intro d9 hu;simp only[jI,jH,or_false]at hu;rcases hu with rfl|rfl<;>rfl
   case c3=>unfold maxLen;omega
   case c4=>omega
   intro v2 X1 a4 a5 _ ap;obtain⟨g',a6,rfl⟩:=qh a4;obtain⟨bh,ak,ai,ad,au⟩:=Boxed.appended z (by decide) d P.size (by omega) a4 a5;have kv:=bh.cell;have kf:=bh.frozen;have kz:=Holds.size bh;have A:qg (BoxD (w.1.size+1) i) X (X1.setCell (Ad (w.1.size+1) 0) (Sq g' (ac+1) a6)):=((qg.alloc _ _ _).trans (qg.row a5 (fun b H=>.inr H))).trans (qg.set (.inl rfl) _ _);have b9:∀b,BoxD (w.1.size+1) i b->∀a q,X.1[b]?≠some (.cells a 3 q)∧X.1[b]?≠some (.cells a 36 q):=fun b H a q=>⟨BoxD.apart z d (by decide) (by decide) b H a q,BoxD.apart z d (by decide) (by decide) b H a q⟩;have ca:mtR (G.getD j mt0) [Sq l m g,Sq o q x] X:=⟨_,_,rfl,cj.out⟩;have am:qj 2 w.1.size 127 mtR (X1.setCell (Ad (w.1.size+1) 0) (Sq g' (ac+1) a6)) (Sq g' (ac+1) a6) (a1++G.take (j+1)):=by
    rw[cs.out,<-jk];exact qj.snoc cg.out (cs:=[Sq l m g,Sq o q x]) rfl (by rw[ck.out];exact ai) (fun al hy=>(ce.out al hy).keptT A b9) (ca.keptT A b9)
   have az:=T.keepsN A (fun h=>BoxD.apart z d (F:=25) (by decide) (by decide) _ h _ _ T);have a7:=MG cp.out A (BoxD.apart z d (by decide) (by decide)) (BoxD.apart z d (by decide) (by decide));have cd:=hiD (⟨A,am,az,a7,au,ad,ak,ai,ap⟩:_∧_∧_∧_∧_∧_∧_∧_∧_);clear A b9 ca am az a7 au ad ak ai ap a4 a5;gi_wp2;obtain⟨A,am,az,a7,au,ad,ak,ai,ap⟩:=cd.out;refine⟨ad.from _,A,BoxD (w.1.size+1) (Sq g' (ac+1) a6),?_,?_,_,rfl,ak,am,az,a7,P.trans au,a8.from (ad.from _)⟩
   ·rintro b (rfl|H)
    ·exact .inl (.inl rfl)
    ·rcases ap with e|e
     ·exact .inl (.inr (by rw[<-e];exact H))
     ·rw[e]at H;cases H;exact .inr (by simp)
   ·rintro b (rfl|H)
    ·exact Holds.size ak
    ·obtain⟨da,q',cx⟩:=qP ai H;exact(jA.1 cx).1
  ·rintro Kd X D' ct bd bt bs ⟨i,rfl,z,f,T,U,P,a8⟩ bw;have c':=a8.cons (K:=Kd) (by have:=L.size;omega) (fun h=>by have:=be.lt Kd h;omega) bw;rw[jn,<-cl.out]at f;have HD:=hiD f;clear f;show Exit.inBlock _ _ _ _ _;go_wp2_with fail;rw[show ((k:Int)+1)=((k+1:Nat):Int) by push_cast;rfl];exact⟨⟨k+1,Kd::Ks,_,_,_,_,_,_,_,_,_,_,_,_,_,_,_,_,i,c7,rfl,c',z,HD.out,T,U,P⟩,by simp[intOf];omega⟩
  ·rintro Kd br j X ct hi bd hf bw;exact hf.elim
 ·obtain rfl:k=c:=by omega
  have b1:(zN p).take k=zN p:=by rw[<-b4.out];exact jn
  rw[b1]at f;change qj 2 w.1.size 127 mtR wr v (rawM p s)at f;have b':=A4 (p:=p) hS;obtain⟨I,K,rfl,ds⟩:=f.deep.form;have CS:=hiD (DW p (rawM p s) (Li hS) b' (.agg #[Sq C p.1.length c1,Vi p.2]) _ wr ⟨_,rfl,hs.mono W nLe⟩ f.deep);generalize (rawM p s).length=dw at*;obtain⟨y,B,-⟩:=S.g2;have c0:=R.cell 0;simp at c0;clear f hs;go_wp2_with fail;refine CS.out.mono ?_;rintro a9 w8 ⟨v8,rfl,ah,L⟩;have aa:=R.later L;have d0:=ay.later L;have dg:=Boxed.frozen aa;have du:=aa.size;have cw:=W.trans (L.mono W.size);have c8:=aa.cell 0;simp at c8;change qj _ _ _ _ _ _ (allM p s)at ah;rw[cm.out]at ah;obtain⟨J,O,rfl,_⟩:=ah.deep.form;have cf:=hiD ah;clear CS ah c0 y B;go_wp2_with fail;have A:qg (fun b=>b=w.1.size+1) w8 (w8.setCell (Ad (w.1.size+1) 0) (Sq J E.length O)):=qg.set (D:=fun b=>b=w.1.size+1) rfl _ _;have bi:=aa.set 0 (Sq J E.length O);have bi:Holds (w8.setCell (Ad (w.1.size+1) 0) (Sq J E.length O)) (w.1.size+1) 115 #[Sq J E.length O]:=by simpa using bi
  have cv:=cw.setCell (p:=Ad (w.1.size+1) 0) (by simp) (Sq J E.length O);have d1:=d0.from ((KeepsOthers.setCell w8 (Ad (w.1.size+1) 0) (Sq J E.length O)).from _);have cy:qj 2 w.1.size 127 mtR (w8.setCell (Ad (w.1.size+1) 0) (Sq J E.length O)) (Sq J E.length O) E:=by
   obtain⟨l2,he,d,ao⟩:=cf.out;have bf:∀a q bj,bj≠115->w8.1[w.1.size+1]?≠some (.cells a bj q):=fun a q bj ht e=>by
    unfold Holds at aa;rw[aa]at e;cases e;exact ht rfl
   refine⟨l2,he,yV (yx d A fun b H e=>?_) W.size,fun al hy=>(ao al hy).keptT A fun b H a q=>?_⟩
   ·obtain⟨a,q,u⟩:=qP d H;subst e;exact bf _ _ _ (by decide) u
   ·subst H;exact⟨bf _ _ _ (by decide),bf _ _ _ (by decide)⟩
  refine kJ Ks _ d1 fun t b8=>⟨Sq J E.length O,?_,?_⟩
  ·have u:=(b8 _ (qi _ _ _) bi).cell 0;simp at u;simp[results,results228,go_sem,u]
  ·exact⟨_,rfl,b8 _ ((qj.kept mtR.kept _ _).stable _) cy,b8 _ (qe.below nLe nLe) cv⟩
end
end Go.Proofs.YtnmpcdnbklmhkaaGreatDoor
