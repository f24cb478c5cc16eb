import Derived.Test.YtnmpcdnbklmhkaaGreatDoorQAz
import Derived.Test.YtnmpcdnbklmhkaaGreatDoorQBb
import Derived.Test.YtnmpcdnbklmhkaaGreatDoorQAh
import Derived.Test.YtnmpcdnbklmhkaaGreatDoorQBd
namespace Go.Proofs.YtnmpcdnbklmhkaaGreatDoor
open Go.Proofs.Tryz Go.RowKit
set_option maxRecDepth 100000
set_option linter.all false
set_option maxHeartbeats 8000000
section
attribute [local go_sem] Oper.semAt_some
attribute [local go_sem ↓] Go.wp_at_zero Go.wp_at_succ
def outC (k:Int) (r e:Value) (a c:Int):List Value:=[Vu k,r,e,Vi a,Vu c]
theorem EQ:En0 330:=enters_of func330 rfl rfl
theorem IA (g:Int) (i:Value) (w:World) (j:∃a n c,i=Sq a n c):
  Cs 298 #[Vu g,i] w fun x w'=>x=Rt (.func (.func 330) #[] #[Vp (w.1.size+1) 0,Vp w.1.size 0])∧
   Holds w' w.1.size 5 #[Vu g]∧Holds w' (w.1.size+1) 115 #[i]∧Bz w w':=by
 have f:=hmf1;obtain⟨a,n,c,rfl⟩:=j;have d:=(Holds.fresh w 5 #[Vu g]).alloc (Oc #[Sq a n c] 115);have k:=Holds.fresh' (w:=w.alloc (Oc #[Vu g] 5)) (b:=w.1.size+1) (by simp) 115 #[Sq a n c];have e:=(bA w (Oc #[Vu g] 5)).alloc (by simp) (Oc #[Sq a n c] 115);go_enter func298,ntmps298;go_wp2_with fail;go_ret;exact⟨rfl,d,k,e⟩
structure TolF (kd:Int) (l:List Mt) (lv:Value) (lb kb:Nat) (W:World):Prop where
 hk:Holds W kb 5 #[Vu kd]
 hl:Holds W lb 115 #[lv]
 dl:qv 2 127 mtR W lv l
theorem Sk (d:Int) (l:List Mt) (a3:∀a4∈l,a4.row.length<=1000000∧a4.2.length<=1000000) (an:l.length<=1000000) (lv:Value) (lb m:Nat):
  vL prog 330 #[Vp lb 0,Vp m 0] (fun ag vs W=>∃r e,vs=#[.agg (outC d r e 0 0).toArray]∧MtV W r e (l.getD ag mt0)) l.length
   (TolF d l lv lb m):=by
 intro ly a7 Jx W L T P hF N U h0;have v:=hF W (qg.refl _ _);obtain⟨la,lc,rfl,am⟩:=v.dl.form;have HF:=hiD hF;have HJ:=hiD T;have ai:=hiD P;have HY:=hiD U;have a5:=hiD N;have O:=hiD a3;have v0:=v.hl.cell 0;simp at v0;have al:=v.hl.size;clear hF T P U N a3 v;refine callsIn_of_wp func330 rfl trivial ?_ rfl;simp only[ntmps330,jW,jF,jO,Nat.reduceAdd,Nat.reduceSub,jR,jQ,jX,jU,jD,jE];gi_wp2;gi_loopw [8] (fun p wr=>∃(k:Nat) (D:Nat->Prop),k<=l.length∧p=Vi k∧qg L W wr∧(∀b,D b->L b∨W.1.size<=b)∧(∀b,D b->b<wr.1.size)∧a7 k D wr) (fun p wr=>l.length-(intOf p).toNat);case atStart=>exact⟨0,L,jg _,rfl,qg.refl _ _,fun b M=>.inl M,a5.out,h0⟩
 case round=>
  obtain⟨k,D,hk,rfl,q,o,Q,Z⟩:=hrel;by_cases t:k<l.length
  ·have f:=HF.out wr q;obtain⟨b1,o1,c1,x,B,z,C,F,e1,j,H,p0,p1⟩:=Cw f.dl t;cases e1;have A:=jY j;have R:l.getD k mt0=x:=by simp[List.getD,j]
   have s:=(Below.refl wr.1.size wr).alloc nLe (Oc #[Sq B x.row.length z,Sq C x.2.length F] 127);have n:=Holds.fresh wr 127 #[Sq B x.row.length z,Sq C x.2.length F];have zs:=f.hk.alloc (Oc #[Sq B x.row.length z,Sq C x.2.length F] 127);have g:MtV _ _ _ x:=⟨H.1.later s,H.2.later s⟩;have ao:=f.hl.size;have ap:=f.hk.size;have J:=hiD (fun V (X:Below (wr.alloc (Oc #[Sq B x.row.length z,Sq C x.2.length F] 127)).1.size (wr.alloc (Oc #[Sq B x.row.length z,Sq C x.2.length F] 127)) V)=>kO _ _ x V ⟨g.1.later X,g.2.later X⟩ (O.out x A).1 (O.out x A).2);have S:=hiD (HY.out k);rw[R]at S;have u:=hiD s;have a6:=hiD q;clear f j H R g s q A;have a1:Hid (∃w,wr.alloc (Oc #[Sq B x.row.length z,Sq C x.2.length F] 127)=w):=hiD ⟨_,rfl⟩;gi_wp2;obtain⟨w,a2⟩:=a1.out;rw[a2]at n zs J u⊢;have ab:=hiD (fun w' (i:Bz w w')=>(⟨(n.later i).cell 0,(n.later i).cell 1,(zs.later i).cell 0⟩:Cq w' wr.1.size 0 (Sq B x.row.length z)∧Cq w' wr.1.size 1 (Sq C x.2.length F)∧Cq w' m 0 (Vu d)));have af:qg L W w:=a6.out.trans (qg.below' u.out);refine kU [0,1,2] 5 2 [6] (by kernel_rfl) (by kernel_rfl) (fun ⟨_,_,h⟩=>by obtain⟨⟨_,hv⟩,_⟩:=h;cases hv) (fun w'=>Bz w w') bRf.drew (fun _ _ ac _ _ h=>by cases ac<;>exact h) ?_;simp only[qI,jM,jN]
   repeat (refine qA rfl (fun w' hS=>by obtain⟨g0,g1,g2⟩:=ab.out w' hS;(go_simp<;>rfl)) ?_)
   show zL _ _ _ _ _ _ _ _ _ _ _ _;simp only[Act.put,jC,jL,jK];refine qC [3] (by kernel_rfl) (by simp) (by simp) ?_;intro ah a;simp only[jI,jH,or_false]at a;subst a;refine qq rfl rfl ?_;go_simp;refine(J.out _ bRf.drew).mono ?_;rintro r w2 ⟨r',e',rfl,y,ae⟩;have E:=(Below.refl w.1.size w).drew.trans ae;obtain⟨aa,a8,rfl,_⟩:=y.1.form;obtain⟨a0,ad,rfl,_⟩:=y.2.form;refine⟨E,?_⟩;refine qC [4] (by kernel_rfl) (by simp) (by simp) ?_;intro ah a;simp only[jI,jH,or_false]at a;subst a;refine qq rfl rfl ?_;go_simp;refine⟨by kernel_rfl,(show Region.ready _ _ _=[6]∧Region.ready _ _ _=[]from⟨by kernel_rfl,by kernel_rfl⟩),?_⟩;refine Ar rfl rfl ?_;have I:=u.out.trans (E.mono u.out.size);have c:=af.trans (qg.below' (D:=L) E);obtain⟨fn,aq,aj,ak,hy,hR⟩:=S.out #[.agg (outC d (Sq aa x.row.length a8) (Sq a0 x.2.length ad) 0 0).toArray] w2 D t c o (fun b M=>jf (Q b M) I.size) ((HJ.out k D).on Z I) ⟨_,_,rfl,y⟩;simp only[outC]at hy;gi_wp2;refine⟨rfl,hR.mono ?_⟩;rintro e V ⟨-,K,(⟨rfl,D',h1,h2,a⟩|⟨rfl,a9⟩)⟩
   ·refine Ar rfl rfl ?_;gi_wp2;simp only[kN];gi_wp2;go_roundw;case rel=>exact⟨k+1,D',t,by push_cast;rfl,c.step K o,fun b M=>(h1 b M).elim (fun h=>o b h) (fun h=>.inr (jS (qg.size c) h)),h2,a⟩
    case measure=>simp[intOf];omega
   ·refine Ar rfl rfl ?_;gi_wp2;simp only[kN];gi_wp2;refine bodyPost_ret (results_none rfl _ _ _) rfl ?_;exact⟨⟨_,rfl⟩,c.step K o,.inr ⟨k,t,a9⟩⟩
  ·obtain rfl:k=l.length:=by omega
   gi_wp2;refine⟨rfl,_,results_none rfl _ _ _,⟨_,rfl⟩,q,.inl ⟨D,o,Q,Z⟩⟩
def ot0:Ot:=⟨0,mt0,0,0⟩
def otR (o:Ot) (a:List Value) (W:World):Prop:=∃r e,a=outC o.kind r e o.at' o.code∧MtV W r e o.m
theorem otR.kept (o:Ot) (a:List Value):Kept (otR o a):=Kept.ex fun _=>Kept.ex fun _=>(Kept.pure _).and (MtV.kept _ _ _)
theorem otR.keptT {W g:World} {D:Nat->Prop} {o:Ot} {f:List Value} (h:otR o f W) (j:qg D W g) (i:∀b,D b->∀f q,W.1[b]?≠some (.cells f 3 q)∧W.1[b]?≠some (.cells f 36 q)):otR o f g:=by
 obtain⟨r,e,d,c⟩:=h;exact⟨r,e,d,c.1.keptT j (fun b a f q=>(i b a f q).1),c.2.keptT j (fun b a f q=>(i b a f q).2)⟩
theorem vL.toR {P:Program} {g:Nat} {t:Array Value} {R r:Nat->Array Value->World->Prop} {N:Nat} {n:World->Prop} (h:vL P g t R N n) (u:∀i a W,i<N->R i a W->r i a W):vL P g t r N n:=
 fun l J o W f k b hF d p m=>h l J o W f k b hF d (fun i a e D s q j c x y=>p i a e D s q j c x (u i a e s y)) m
theorem Gm (r:Nat) (D:Array Value) (eg:∀aq w,(callFunc r aq).run prog w= .ok (.enter r aq) w) (G:List Ot) (Fp:World->Prop)
  (ax:vL prog r D (fun i vs ba=>∃a0 e,vs=#[.agg (outC (G.getD i ot0).kind a0 e (G.getD i ot0).at' (G.getD i ot0).code).toArray]∧MtV ba a0 e (G.getD i ot0).m) G.length Fp) (c:List Ot) (B:Nat) (v:Value) (w:World) (O:B<=w.1.size) (hv:qj 5 B 129 otR w v c)
  (bo:c.length+G.length<=1000000) (hF:∀W',qg (fun b=>v.ownBlock=some b) w W'->Fp W'):
  Cs 296 #[v,.func (.func r) #[] D] w fun bl w'=>∃R,bl= .returned R∧qj 5 B 129 otR w' R (c++G)∧Below B w w'∧qg (fun b=>v.ownBlock=some b) w w':=by
 obtain⟨i0,be,bi,bj,bk⟩:=Vw;have bh:∃bb ai,v= .slice bb c.length ai:=qh hv.row.choose_spec;have a2:∀b,v.ownBlock=some b->b<w.1.size:=fun b t=>by
  obtain⟨u,q,hc⟩:=qP hv.row.choose_spec t;exact(jA.1 hc).1
 obtain⟨D1,a8⟩:=xL (fun b=>v.ownBlock=some b);rw[<-a8]at hF⊢;have ap:=hiD (fun b=>congrFun a8 b);clear a8;obtain⟨y,z,rfl⟩:=bh;generalize hn:c.length=n at*;have HN:=hiD hn;clear hn;have S:=bA w (.cells #[.slice y n z] 78);have z0:=Holds.fresh w 78 #[.slice y n z];have b3:=hiD ((qj.kept otR.kept (k:=5) (e:=B) (E:=129) (.slice y n z) c).later hv S);have b5:=hiD ax;have HF:=hiD hF;have b8:=hiD a2;clear ax hF hv a2;refine qH func296 rfl ?_;simp only[ntmps296,jW,jF,jO,Nat.reduceAdd,Nat.reduceSub,jR,jQ,jX,jU,jD,jE];go_wp2_with fail;have bg:=z0.size;generalize bq:w.alloc (.cells #[.slice y n z] 78)=w1 at*;have ay:w.1.size<w1.1.size:=bg;refine yF rfl eg b5.out (by rintro i vs X ⟨a0,e,rfl,_⟩;rfl)
  (fun j aa X=>∃R,aa=BoxD w.1.size R∧Holds X w.1.size 78 #[R]∧qj 5 B 129 otR X R (c++G.take j)∧Below B w X∧qg D1 w X)
  (fun _ _ _=>False) (BoxD w.1.size (.slice y n z)) ?_ ?_ ?_ ?_ ⟨_,rfl,z0,by rw[dF,jo];exact b3.out,S.mono O,qg.below' S⟩
  (fun j a' X=>∃(V:Nat) (a d J:Int) (l:Option Addr) (m g:Nat) (o:Option Addr) (q f:Nat),Holds X V 129 #[Vu a,.slice l m g,.slice o q f,Vi d,Vu J]∧(a=(G.getD j ot0).kind∧d=(G.getD j ot0).at'∧J=(G.getD j ot0).code)∧MtV X (.slice l m g) (.slice o q f) (G.getD j ot0).m∧a'={tmps:=#[.slice y n z,.func (.func r) #[] D,Vp w.1.size 0,undef,.slice none 0 0,Vp V 0,.func (.func r) #[] D,.agg #[Vu a,.slice l m g,.slice o q f,Vi d,Vu J],undef,undef,undef,undef,undef],defers:=[]}) ?_ ?_ ?_ ?_ ?_
 ·intro j aa;exact qe.ex fun v=>(qe.pure _).and ((qi _ _ _).and (((qj.kept otR.kept _ _).stable _).and ((qe.below (by omega) O).and (ym _ _))))
 ·intro ai j;exact qe.pure _
 ·intro X hX;refine HF.out _ ?_;refine(qg.below' (D:=D1) S).step hX ?_;rintro b (rfl|t)
  ·exact .inr nLe
  ·exact .inl (by rw[ap.out b];exact t)
 ·rintro b (rfl|t)
  ·exact ay
  ·exact jf (b8.out b t) S.size
 ·intro j a';exact qe.ex fun V=>qe.ex fun _=>qe.ex fun _=>qe.ex fun _=>qe.ex fun ra=>qe.ex fun m=>qe.ex fun rc=>qe.ex fun ea=>qe.ex fun q=>qe.ex fun ec=>(qi _ _ _).and ((qe.pure _).and (((MtV.kept _ _ _).stable _).and (qe.pure _)))
 ·rintro l' j vs X D' K' W al ag a4 hI ⟨a0,e,rfl,F⟩ ar;obtain⟨l,g,rfl,_⟩:=F.1.form;obtain⟨o,f,rfl,_⟩:=F.2.form;generalize (G.getD j ot0).m.row.length=m at*;generalize (G.getD j ot0).m.2.length=q at*;obtain⟨a,am⟩:=xR (G.getD j ot0).kind;obtain⟨d,ah⟩:=xR (G.getD j ot0).at';obtain⟨J,ak⟩:=xR (G.getD j ot0).code;simp only[am,ah,ak,outC];have ab:=hiD (⟨am.symm,ah.symm,ak.symm⟩:a=(G.getD j ot0).kind∧d=(G.getD j ot0).at'∧J=(G.getD j ot0).code);clear am ah ak;have Z:Bz X (X.alloc (.cells #[Vu a,.slice l m g,.slice o q f,Vi d,Vu J] 129)):=bB;obtain⟨R,rfl,s,A,C,H⟩:=hI;have a6:B<=X.1.size:=jS O C.size;have au:=ar {tmps:=#[.slice y n z,.func (.func r) #[] D,Vp w.1.size 0,undef,.slice none 0 0,Vp X.1.size 0,.func (.func r) #[] D,.agg #[Vu a,.slice l m g,.slice o q f,Vi d,Vu J],undef,undef,undef,undef,undef],defers:=[]} (X.alloc (.cells #[Vu a,.slice l m g,.slice o q f,Vi d,Vu J] 129)) ((KeepsOthers.alloc _ _).from _) (qg.alloc _ _ _) ⟨R,rfl,s.alloc _,(qj.kept otR.kept _ _).later A Z,C.trans (Z.mono a6),H.trans (qg.alloc _ _ _)⟩ ⟨X.1.size,a,d,J,l,m,g,o,q,f,Holds.fresh _ _ _,ab.out,⟨F.1.later Z,F.2.later Z⟩,rfl⟩;have ac:=hiD au;clear au ar Z F s A C H;gi_wp2;exact ac.out
 ·rintro l' j a' X D' bn W al ag a4 ⟨R,rfl,s,A,C,H⟩ ⟨V,a,d,J,l,m,g,o,q,f,zm,L,F,rfl⟩;obtain⟨l2,he,I,a5⟩:=A;have aw:G.getD j ot0=G[j]:=by simp[List.getD,W]
  have az:G.take (j+1)=G.take j++[G.getD j ot0]:=by rw[ja W,aw]
  have bc:(c++G.take j).length<1000001:=by rw[jZ,jb,HN.out];omega
  obtain⟨N,hN⟩:=xR (c++G.take j).length;rw[hN]at I bc;have b9:=hiD az;have b7:=hiD hN;have b4:=hiD he;have b1:=hiD a5;have b6:=hiD F;have ab:=hiD L;have a7:=hiD H;clear az hN aw he a5 F H L;have c0:=s.cell 0;obtain⟨q0,q1,q2,q3,q4,-⟩:=zm.g5;simp at c0;have br:=s.size;have bp:=zm.size;have a6:B<=X.1.size:=jS O C.size;have bf:B<=(X.alloc (.cells #[Vu a,.slice l m g,.slice o q f,Vi d,Vu J] 129)).1.size:=by simp;omega
  gi_wp2_with (gi_at_builtin;refine wpListIn_append_own_at _ rfl (.tmp 8) (.tmp 10) 78 rfl B 129 i0 (.agg #[Vu 0,.slice none 0 0,.slice none 0 0,Vi 0,Vu 0]) 5 72 underlying78 be bi bj bk rfl (by decide) R N (l2.flatMap fun ao=>ao.2.1) rfl (I.alloc _) (Ad X.1.size 0) 1 1 [Vu a,.slice l m g,.slice o q f,Vi d,Vu J] rfl rfl ?c1 ?c2 ?c3 ?c4 bf ?_);case c1=>exact qR X [Vu a,.slice l m g,.slice o q f,Vi d,Vu J] 129
  case c2=>
   intro bs hu;simp only[jI,jH,or_false]at hu;rcases hu with rfl|rfl|rfl|rfl|rfl<;>rfl
  case c3=>unfold maxLen;omega
  case c4=>omega
  intro v2 X1 ae af _ T;obtain⟨x,p,rfl⟩:=qh ae;obtain⟨an,M,U,P,Q⟩:=Boxed.appended s (by decide) I a6 (by omega) ae af;have kv:=an.cell;have kf:=an.frozen;have kz:=Holds.size an;have K:qg (BoxD w.1.size R) X (X1.setCell (Ad w.1.size 0) (.slice x (N+1) p)):=((qg.alloc _ _ _).trans (qg.row af (fun b t=>.inr t))).trans (qg.set (.inl rfl) _ _);have a9:∀b,BoxD w.1.size R b->∀u q,X.1[b]?≠some (.cells u 3 q)∧X.1[b]?≠some (.cells u 36 q):=fun b t u q=>⟨BoxD.apart s I (by decide) (by decide) b t u q,BoxD.apart s I (by decide) (by decide) b t u q⟩;have a3:otR (G.getD j ot0) [Vu a,.slice l m g,.slice o q f,Vi d,Vu J] X:=⟨_,_,by obtain⟨h1,h2,h3⟩:=ab.out;rw[h1,h2,h3];rfl,b6.out⟩;have a1:qj 5 B 129 otR (X1.setCell (Ad w.1.size 0) (.slice x (N+1) p)) (.slice x (N+1) p) (c++G.take (j+1)):=by
   rw[b9.out,<-jk];exact qj.snoc b4.out (cs:=[Vu a,.slice l m g,.slice o q f,Vi d,Vu J]) rfl (by rw[b7.out];exact U) (fun ao hy=>(b1.out ao hy).keptT K a9) (a3.keptT K a9)
  have L:qg D1 w (X1.setCell (Ad w.1.size 0) (.slice x (N+1) p)):=a7.out.step K (fun b t=>(ag b t).elim (fun h=>h.elim (fun h=>.inr (Nat.le_of_eq h.symm)) (fun h=>.inl (by rw[ap.out b];exact h))) (fun h=>.inr (by omega)));have b0:=hiD (⟨K,a1,L,Q,P,M,U,T⟩:_∧_∧_∧_∧_∧_∧_∧_);clear K a9 a3 a1 L Q P M U T ae af;gi_wp2;obtain⟨K,a1,L,Q,P,M,U,T⟩:=b0.out;refine⟨P.from _,K,BoxD w.1.size (.slice x (N+1) p),?_,?_,_,rfl,M,a1,C.trans Q,L⟩
  ·rintro b (rfl|t)
   ·exact .inl (.inl rfl)
   ·rcases T with e|e
    ·exact .inl (.inr (by rw[<-e];exact t))
    ·rw[e]at t;cases t;exact .inr (by simp)
  ·rintro b (rfl|t)
   ·exact Holds.size M
   ·obtain⟨bm,q',bd⟩:=qP U t;exact(jA.1 bd).1
 ·rintro Kd X D' av al ag a4 ⟨R,rfl,s,A,C,H⟩ aj;rw[jn]at A;have HD:=hiD A;have b2:=hiD C;have ac:=hiD H;have ad:=hiD aj;have q0:=s.cell 0;simp at q0;obtain⟨x,p,rfl⟩:=qh A.row.choose_spec;clear A C H aj;show Exit.inBlock _ _ _ _ _;go_wp2_with fail;have hp:qg (fun _=>False) X (X.putObj Kd (.deferred none)):=qg.putObj ad.out rfl;exact qZ (v:= .slice x (c.length+G.length) p) ad.out (FV rfl rfl) ⟨_,rfl,(qj.kept otR.kept _ _) _ _ (by simpa using HD.out) hp,qB b2.out ad.out (jS O (jS (Nat.le_of_lt ay) av)),ac.out.trans (hp.mono (fun b t=>t.elim))⟩
 ·rintro Kd ai j X av W al hf aj;exact hf.elim
theorem Tx (n:Nat) (u:Array Value) (A:∀y w,(callFunc n y).run prog w= .ok (.enter n y) w) (G:List Ot) (t:World->Prop)
  (z:vL prog n u (fun i o W=>∃r e,o=#[.agg (outC (G.getD i ot0).kind r e (G.getD i ot0).at' (G.getD i ot0).code).toArray]∧MtV W r e (G.getD i ot0).m) G.length t) (w:World)
  (B:G.length<=1000000) (hF:∀c,qg (fun _=>False) w c->t c):
  Cs 297 #[.func (.func n) #[] u] w fun x w'=>∃d,x=Rt d∧qj 5 w.1.size 129 otR w' d G∧Bz w w':=by
 have h:=hiD (Gm n u A G t z [] w.1.size Vn w nLe (qj.nil _ _ _ _ _) (by simpa using B) (fun c q=>hF c (q.mono (fun b k=>nomatch k))));clear z hF;go_enter func297,ntmps297;go_wp2_with fail;refine h.out.mono ?_;rintro x s ⟨d,rfl,g,f,-⟩;obtain⟨m,l,a⟩:=qh g.row.choose_spec;generalize ([]++G).length=p at a;subst a;have j:=hiD g;clear g h;go_wp2_with fail;go_ret;exact⟨_,rfl,by simpa using j.out,f⟩
end
end Go.Proofs.YtnmpcdnbklmhkaaGreatDoor
