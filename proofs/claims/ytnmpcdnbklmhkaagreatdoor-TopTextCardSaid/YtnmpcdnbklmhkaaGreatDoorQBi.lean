import Derived.Test.YtnmpcdnbklmhkaaGreatDoorQBh
import Derived.Test.YtnmpcdnbklmhkaaGreatDoorQAz
import Derived.Test.YtnmpcdnbklmhkaaGreatDoorQAu
import Derived.Test.YtnmpcdnbklmhkaaGreatDoorQBg
namespace Go.Proofs.YtnmpcdnbklmhkaaGreatDoor
open Go.Proofs.Tryz Go.RowKit
set_option maxRecDepth 100000
set_option linter.all false
set_option maxHeartbeats 8000000
section
attribute [local go_sem] Oper.semAt_some
attribute [local go_sem ↓] Go.wp_at_zero Go.wp_at_succ
theorem QA {w:World} {i E k n:Nat} {g:Addr} {f:Nat} {j:List Value} (h:w.ownsRow i E k (Sq (some g) n f) n j):n<=f:=by
 rcases h.2 with⟨e,_⟩|⟨d,a,b,e,_,_,c,_⟩
 ·cases e
 ·cases e;exact c
def PcT (x:Pc) (e:Array Value) (W:World):Prop:=∃a c,e=#[.agg #[Vi x.at',Sq a x.bytes.length c,Vb x.short]]∧zA W .u8 a x.bytes∧x.bytes.length<=c∧∀b,Value.ownBlock (Sq a x.bytes.length c)=some b->∃d q,W.1[b]?=some (.cells d 5 q)
theorem Lk (B:Nat) (a:Option Addr) (c:Nat) (L:List Int) (hL:∀x∈L,0<=x∧x<=255) (ao:L.length<=c):Q4 prog 155 #[Vp B 0] (fun i vs W=>PcT ((qx 0 L).getD i ⟨0,[],false⟩) vs W) (qx 0 L).length
  (fun W=>Holds W B 33 #[.slice a L.length c]∧zA W .u8 a L):=by
 intro aq ad Jx W hJ al hF hY h0;have HF:=hiD hF;have hm:=(hF 0 W h0).2.1;clear hF;refine callsIn_of_wp func155 rfl trivial ?_ rfl;simp only[ntmps155,jW,jF,jO,Nat.reduceAdd,Nat.reduceSub,jR,jQ,jX,jU,jD,jE];gi_wp2;gi_loopw [3,4,5,6] (fun p x ah ai wr=>∃(i q:Nat),q<=L.length∧p=Vi q∧ad i wr∧(qx 0 L).drop i=qx q (L.drop q)∧i<=(qx 0 L).length) (fun p x ah ai wr=>L.length-(intOf p).toNat);case atStart=>exact⟨0,0,by omega,rfl,h0,by simp,by omega⟩
 case round=>
  obtain⟨i,q,hq,rfl,S,hp,y⟩:=hrel;have U:=(HF.out i wr S).1;have hc:wr.cell? ⟨B,0,none⟩=some (.slice a L.length c):=U.cell 0;have Z:=hiD hp;clear hp;by_cases r:q<L.length
  ·obtain⟨b,h,rfl,a0⟩:∃b h,a=some ⟨b,h,none⟩∧∀i,i<L.length->wr.cell? ⟨b,h+i,none⟩=some (Vu (L.getD i 0)):=by
    rcases(HF.out i wr S).2.2 with Q|Q
    ·rw[Q]at r;simp at r
    ·exact Q
   have f:=a0 q r;have hx:=hL _ (dI r);rw[jx,jB r,Option.getD_some]at f;have ab:=hiD a0;clear a0;gi_wp2;refine wpIn_wide.2 ?_;have c1:=U.alloc (.cells #[Vi q,.slice none 0 0,.bool false] 170);have c2:(wr.alloc (.cells #[Vi q,.slice none 0 0,.bool false] 170)).cell? ⟨B,0,none⟩=some (.slice (some ⟨b,h,none⟩) L.length c):=c1.cell 0;have c3:(wr.alloc (.cells #[Vi q,.slice none 0 0,.bool false] 170)).cell? ⟨b,h+q,none⟩=some (Vu L[q]):=by
    rw[<-f];exact(vk bB).1 _ _ (vz f)
   have c4:=Holds.fresh wr 170 #[Vi q,.slice none 0 0,.bool false];have T:=(Below.refl wr.1.size wr).alloc nLe (.cells #[Vi q,.slice none 0 0,.bool false] 170);generalize (wr.alloc (.cells #[Vi q,.slice none 0 0,.bool false] 170))=V at*;have aa:b<wr.1.size:=vz f;have HX:=hiD (je r);clear hc f;generalize L[q]=x at*;go_quiet (fail);obtain⟨R,X⟩:=xR (L.drop (q+1));have a1:L.length-(q+1)=R.length:=by rw[<-X];simp
   have hA:∃C,(if c=q+1 then some (⟨b,h,none⟩:Addr)else some ⟨b,h+(q+1),none⟩)=some ⟨b,C,none⟩∧∀i,i<R.length->V.cell? ⟨b,C+i,none⟩=some (Vu (R.getD i 0)):=by
    by_cases he:c=q+1
    ·exact⟨h,if_pos he,fun i y=>by omega⟩
    ·refine⟨h+(q+1),if_neg he,fun i y=>?_⟩;have hz:=ab.out (q+1+i) (by omega);rw[show h+(q+1)+i=h+(q+1+i) by omega,(vk T).1 _ _ (vz hz),hz,<-X];simp
   obtain⟨C,a8,a9⟩:=hA;rw[a1,a8];have am:R.length<=c-(q+1):=by omega
   have an:R.length<=140737488351232:=by omega
   have a6:q+1+R.length=L.length:=by omega
   generalize a5:c-(q+1)=dd at*;have aj:=hiD a5;have a4:=hiD a6;clear a5 a6;have HA:=hiD a9;have I:=hiD X;have ak:=hiD a1;clear a8 a9 X a1;have P:=c4.drewN nq;have K:Bz wr (V.drewN nq):=⟨T.os,T.tape,T.output,T.size,T.block⟩;have a7:=hiD (fun i y=>(show (V.drewN nq).cell? _=_ from HA.out i y));generalize V.drewN nq=W3 at*;obtain⟨d0,d1,d2,df,-⟩:=P.g3;by_cases ap:(R.length:Int)<x
   ·gi_wp2;refine⟨trivial,rfl,(callsIn_wide.2 (Tryz.bytes_Clone_at ⟨b,C,none⟩ R.length dd R _ rfl (by omega) ?_)).mono ?_⟩
    ·intro i y;have e1:=a7.out i (by omega);refine(Eq.trans ?_ e1).trans rfl;rw[show (⟨b,C,none⟩:Addr).add i=⟨b,C+i,none⟩ by unfold Addr.add;split<;>simp[*]];exact Af (a:=⟨b,C+i,none⟩) (p:=⟨wr.1.size,2,none⟩) (Nat.ne_of_lt aa) _
    rintro e J ⟨v,rfl,d,F,u⟩;obtain⟨g,l,z,j,O⟩:=Kt d F rfl (by omega);have s:∃n q,J.1[g]?=some (.cells n 5 q):=by rw[z]at d;exact qP d rfl
    have H:=QA (by rw[z]at d;exact d);subst z;have c6:=((P.set 2 (.bool true)).later u);obtain⟨y0,y1,y2,yf,-⟩:=c6.g3;obtain⟨m,E,A⟩:=F0 Z.out (HX.out.trans (by rw[I.out])) I.out;have t:Bz wr (J.setCell ⟨wr.1.size,1,none⟩ (.slice (some ⟨g,0,none⟩) R.length l)):=((K.setCell (p:=⟨wr.1.size,2,none⟩) nLe (.bool true)).trans (u.mono (K.setCell (p:=⟨wr.1.size,2,none⟩) nLe (.bool true)).size)).setCell (p:=⟨wr.1.size,1,none⟩) nLe _;have w:(qx 0 L).getD i ⟨0,[],false⟩=⟨q,R,true⟩:=by rw[E,jy (by omega)];simp;omega
    have o:(R:List Int).length=R.length:=rfl;have k:g≠wr.1.size:=by have:=P.size;have e8:=(KeepsOthers.setCell W3 ⟨wr.1.size,2,none⟩ (.bool false)).size;simp at O;omega
    obtain⟨fn,ag,ae,af,hy,a2⟩:=hY i (#[.agg #[Vi q,.slice (some ⟨g,0,none⟩) R.length l,.bool true]]) _ m ((hJ i).on S t) (by rw[w];exact⟨some ⟨g,0,none⟩,l,by rw[o],Il j k,by rw[o];exact H,fun b U=>by cases U;obtain⟨n,q,a3⟩:=s;exact⟨n,q,(Below.heap_setCell _ _ _ _ (fun e=>k e)).trans a3⟩⟩);have ST:=hiD A;have D:i+1<=(qx 0 L).length:=m;have ac:=hiD k;clear m E A w o k t d F j s H;gi_wp2;refine⟨rfl,a2.mono ?_⟩;rintro e W' (⟨rfl,N⟩|⟨rfl,M⟩)
    ·gi_wp2;go_roundw;case rel=>exact⟨i+1,q+1+min x.toNat R.length,by have:=a4.out;omega,by congr 1;omega,N,ST.out,D⟩
     case measure=>simp[intOf];omega
    ·gi_wp2;refine bodyPost_ret (results_none rfl _ _ _) rfl ?_;exact⟨⟨_,rfl⟩,.inr ⟨i,D,M⟩⟩
   ·gi_wp2;refine⟨trivial,rfl,(callsIn_wide.2 (Tryz.bytes_Clone_at ⟨b,C,none⟩ x.toNat dd (R.take x.toNat) _ (by simp;omega) (by omega) ?_)).mono ?_⟩
    ·intro i y;have e1:=a7.out i (by omega);refine(Eq.trans ?_ e1).trans (by simp[List.getD,y]);rw[show (⟨b,C,none⟩:Addr).add i=⟨b,C+i,none⟩ by unfold Addr.add;split<;>simp[*]];exact Af (a:=⟨b,C+i,none⟩) (p:=⟨wr.1.size,2,none⟩) (Nat.ne_of_lt aa) _
    rintro e J ⟨v,rfl,d,F,u⟩;obtain⟨g,l,z,j,O⟩:=Kt d F (by simp;omega) (by omega);have s:∃n q,J.1[g]?=some (.cells n 5 q):=by rw[z]at d;exact qP d rfl
    have H:=QA (by rw[z]at d;exact d);subst z;have c6:=((P.set 2 (.bool false)).later u);obtain⟨y0,y1,y2,yf,-⟩:=c6.g3;obtain⟨m,E,A⟩:=F0 Z.out (HX.out.trans (by rw[I.out])) I.out;have t:Bz wr (J.setCell ⟨wr.1.size,1,none⟩ (.slice (some ⟨g,0,none⟩) x.toNat l)):=((K.setCell (p:=⟨wr.1.size,2,none⟩) nLe (.bool false)).trans (u.mono (K.setCell (p:=⟨wr.1.size,2,none⟩) nLe (.bool false)).size)).setCell (p:=⟨wr.1.size,1,none⟩) nLe _;have w:(qx 0 L).getD i ⟨0,[],false⟩=⟨q,(R.take x.toNat),false⟩:=by rw[E];simp;omega
    have o:((R.take x.toNat):List Int).length=x.toNat:=by simp;omega
    have k:g≠wr.1.size:=by have:=P.size;have e8:=(KeepsOthers.setCell W3 ⟨wr.1.size,2,none⟩ (.bool false)).size;simp at O;omega
    obtain⟨fn,ag,ae,af,hy,a2⟩:=hY i (#[.agg #[Vi q,.slice (some ⟨g,0,none⟩) x.toNat l,.bool false]]) _ m ((hJ i).on S t) (by rw[w];exact⟨some ⟨g,0,none⟩,l,by rw[o],Il j k,by rw[o];exact H,fun b U=>by cases U;obtain⟨n,q,a3⟩:=s;exact⟨n,q,(Below.heap_setCell _ _ _ _ (fun e=>k e)).trans a3⟩⟩);have ST:=hiD A;have D:i+1<=(qx 0 L).length:=m;have ac:=hiD k;clear m E A w o k t d F j s H;gi_wp2;refine⟨rfl,a2.mono ?_⟩;rintro e W' (⟨rfl,N⟩|⟨rfl,M⟩)
    ·gi_wp2;go_roundw;case rel=>exact⟨i+1,q+1+min x.toNat R.length,by have:=a4.out;omega,by congr 1;omega,N,ST.out,D⟩
     case measure=>simp[intOf];omega
    ·gi_wp2;refine bodyPost_ret (results_none rfl _ _ _) rfl ?_;exact⟨⟨_,rfl⟩,.inr ⟨i,D,M⟩⟩
  ·gi_wp2;go_end0;have e:i=(qx 0 L).length:=by
    have:=Z.out;rw[jt (show L.length<=q by omega)]at this;have Q:=congrArg List.length this;simp[qx]at Q;omega
   subst e;exact⟨⟨_,rfl⟩,.inl S⟩
def pcR (x:Pc) (d:List Value) (W:World):Prop:=∃a c,d=[Vi x.at',Sq a x.bytes.length c,Vb x.short]∧zA W .u8 a x.bytes∧x.bytes.length<=c∧∀b,Value.ownBlock (Sq a x.bytes.length c)=some b->∃d q,W.1[b]?=some (.cells d 5 q)
theorem pcR.keptT {W n:World} {D:Nat->Prop} {x:Pc} {l:List Value} (h:pcR x l W) (p:qg D W n) (o:∀b,D b->∀l q,W.1[b]?≠some (.cells l 5 q)):pcR x l n:=by
 obtain⟨a,c,e,m,f,r⟩:=h;refine⟨a,c,e,⟨m.1,?_⟩,f,fun b k=>?_⟩
 ·rcases m.2 with h|⟨b,s,j,h⟩
  ·exact .inl h
  ·subst j;refine .inr ⟨b,s,rfl,fun i m=>km (h i m) p (fun g=>?_)⟩;obtain⟨l,q,d⟩:=r b rfl;exact o b g l q d
 ·obtain⟨l,q,d⟩:=r b k;exact⟨l,q,p.same b l _ q d (fun g=>o b g l q d)⟩
theorem pcR.kept (x:Pc) (c:List Value):Kept (pcR x c):=fun _ _ h a=>h.keptT a (fun _ h=>h.elim)
theorem LL {W d:World} {k:IntKind} {a:Option Addr} {l:List Int} (h:zA W k a l) (e:Bz W d):zA d k a l:=by
 refine⟨h.1,h.2.imp id ?_⟩;rintro⟨b,g,c,h⟩;exact⟨b,g,c,fun i f=>qd e nLe (h i f)⟩
theorem RA (L:List Int) (hL:∀x∈L,0<=x∧x<=255) (b4:(qx 0 L).length<=1000000) (a:Option Addr) (c:Nat) (b1:L.length<=c) (w:World) (hl:zA w .u8 a L):
  Cs 88 #[Sq a L.length c] w fun x w'=>∃K,x=Rt K∧qj 3 w.1.size 170 pcR w' K (qx 0 L)∧Bz w w':=by
 obtain⟨i0,b3,b7,b8,b9⟩:=info_parts (by kernel_rfl:(prog.info? 170).map (fun i=>(i.zero,i.size,i.bytes))=some (some (.agg #[Vi 0,Vn,Vb false]),3,40));obtain⟨G,hG⟩:=xR (qx 0 L);have a2:=fun aj=>Lk aj a c L hL b1;rw[hG]at b4⊢;simp only[hG]at a2;have an:=hiD a2;have HL:=hiD hl;clear a2 hG hl;obtain⟨n,hn⟩:=xR L.length;have HN:=hiD hn;rw[hn];clear hn;have a6:=(Below.refl w.1.size w).alloc nLe (Oc #[Vn] 167);have z0:=Holds.fresh w 167 #[Vn];refine qH func88 rfl ?_;simp only[ntmps88,jW,jF,jO,Nat.reduceAdd,Nat.reduceSub,jR,jQ,jX,jU,jD,jE];go_wp2_with fail;generalize b6:w.alloc (Oc #[Vn] 167)=M at*;have be:=z0.size;clear b6;refine(KZ a n c M).mono ?_;rintro x w2 ⟨rfl,rfl⟩;have a9:=(Below.refl M.1.size M).alloc nLe (Oc #[Sq a n c] 33);have az:=a6.trans (a9.mono a6.size);have zb:=Holds.fresh M 33 #[Sq a n c];have z1:=z0.alloc (Oc #[Sq a n c] 33);have bf:(M.alloc (Oc #[Sq a n c] 33)).1.size=M.1.size+1:=by simp
 generalize M.alloc (Oc #[Sq a n c] 33)=w2 at*;clear a9 z0;go_wp2_with fail;have bb:w.1.size<w2.1.size:=by omega
 refine kF rfl Jk (an.out M.1.size) (by rintro i vs X ⟨a,c,rfl,_⟩;rfl)
  (fun j X=>∃K,Holds X w.1.size 167 #[K]∧qj 3 w.1.size 170 pcR X K (G.take j)∧Holds X M.1.size 33 #[Sq a n c]∧Bz w X)
  (fun _ _ _=>False) ?_ ?_ ?_ ⟨_,z1,by rw[dF];exact qj.nil _ _ _ _ _,zb,az⟩
  (fun j V X=>∃(B:Nat) (e:Int) (s:Option Addr) (m t:Nat) (E:Bool),Holds X B 170 #[Vi e,Sq s m t,Vb E]∧pcR (G.getD j ⟨0,[],false⟩) [Vi e,Sq s m t,Vb E] X∧V={tmps:=#[Sq a n c,undef,Vp w.1.size 0,Vp B 0,Sq a n c,.func (.func 155) #[] #[Vp M.1.size 0],.agg #[Vi e,Sq s m t,Vb E],undef,undef,undef,undef,undef],defers:=[]}) ?_ ?_ ?_ ?_ ?_
 ·intro j;exact qe.ex fun v=>(qi _ _ _).and (((qj.kept pcR.kept _ _).stable _).and ((qi _ _ _).and (qe.below (by omega) nLe)))
 ·intro c j;exact qe.pure _
 ·rintro j X ⟨K,hx,hd,hz,T⟩;exact⟨by rw[HN.out];exact hz,⟨HL.out.1,HL.out.2.imp id (fun ⟨b,ba,ea,h⟩=>⟨b,ba,ea,fun i z=>qd T nLe (h i z)⟩)⟩⟩
 ·intro j V;exact qe.ex fun B=>qe.ex fun _=>qe.ex fun _=>qe.ex fun _=>qe.ex fun _=>qe.ex fun _=>(qi _ _ _).and (((pcR.kept _ _).stable _).and (qe.pure _))
 ·rintro l' j vs X K' z ⟨K,f,k,p,l⟩ ⟨s,t,rfl,ah,ae,O⟩ af;obtain⟨m,hm⟩:=xR (G.getD j ⟨0,[],false⟩).bytes.length;obtain⟨e,P⟩:=xR ((G.getD j ⟨0,[],false⟩).at':Int);obtain⟨E,a1⟩:=xR (G.getD j ⟨0,[],false⟩).short;have R:pcR (G.getD j ⟨0,[],false⟩) [Vi e,Sq s m t,Vb E] X:=⟨s,t,by rw[hm,P,a1],ah,ae,O⟩;simp only[hm,P,a1];clear hm P a1 ah ae O;have J:Bz X (X.alloc (Oc #[Vi e,Sq s m t,Vb E] 170)):=bRf.alloc nLe _;have W:w.1.size<=X.1.size:=l.size;have ab:=af {tmps:=#[Sq a n c,undef,Vp w.1.size 0,Vp X.1.size 0,Sq a n c,.func (.func 155) #[] #[Vp M.1.size 0],.agg #[Vi e,Sq s m t,Vb E],undef,undef,undef,undef,undef],defers:=[]} (X.alloc (Oc #[Vi e,Sq s m t,Vb E] 170)) ((KeepsOthers.alloc _ _).from _) ⟨K,f.alloc _,(qj.kept pcR.kept _ _).later k J,p.alloc _,l.trans (J.mono W)⟩ ⟨X.1.size,e,s,m,t,E,Holds.fresh _ _ _,(pcR.kept _ _).later R J,rfl⟩;have ao:=hiD ab;clear ab af J R f k p l;gi_wp2;exact ao.out
 ·rintro l' j V X bc z ⟨K,f,k,p,l⟩ ⟨B,e,s,m,t,E,zm,R,rfl⟩;obtain⟨l2,he,o,ai⟩:=k;have ac:G.getD j ⟨0,[],false⟩=G[j]:=by simp[List.getD,z]
  have a8:G.take (j+1)=G.take j++[G.getD j ⟨0,[],false⟩]:=by rw[ja z,ac]
  have ax:(G.take j).length<1000001:=by rw[jb];omega
  obtain⟨N,hN⟩:=xR (G.take j).length;rw[hN]at o ax;have au:=hiD a8;have ar:=hiD hN;have am:=hiD he;have a4:=hiD ai;have aq:=hiD R;clear a8 hN ac he ai R;have c0:=f.cell 0;obtain⟨q0,q1,q2,-⟩:=zm.g3;simp at c0;have bg:=f.size;have bd:=zm.size;have W:w.1.size<=X.1.size:=l.size;have b5:w.1.size<=(X.alloc (Oc #[Vi e,Sq s m t,Vb E] 170)).1.size:=by simp;omega
  gi_wp2_with (gi_at_builtin;refine wpListIn_append_own_at _ rfl (.tmp 7) (.tmp 9) 167 rfl w.1.size 170 i0 (.agg #[Vi 0,Vn,Vb false]) 3 40 underlying167 b3 b7 b8 b9 rfl (by decide) K N (l2.flatMap fun y=>y.2.1) rfl (o.alloc _) (Ad X.1.size 0) 1 1 [Vi e,Sq s m t,Vb E] rfl rfl ?c1 ?c2 ?c3 ?c4 b5 ?_);case c1=>exact qR X [Vi e,Sq s m t,Vb E] 170
  case c2=>
   intro bh hu;simp only[jI,jH,or_false]at hu;rcases hu with rfl|rfl|rfl<;>rfl
  case c3=>unfold maxLen;omega
  case c4=>omega
  intro v2 X1 ag A _ ay;obtain⟨r,d,rfl⟩:=qh ag;obtain⟨a5,U,a7,C,H⟩:=Boxed.appended f (by decide) o W nLe ag A;have kv:=a5.cell;have kf:=a5.frozen;have kz:=Holds.size a5;have S:qg (BoxD w.1.size K) X (X1.setCell (Ad w.1.size 0) (Sq r (N+1) d)):=((qg.alloc _ _ _).trans (qg.row A (fun b T=>.inr T))).trans (qg.set (.inl rfl) _ _);have a0:∀b,BoxD w.1.size K b->∀u q,X.1[b]?≠some (.cells u 5 q):=fun b T u q=>BoxD.apart f o (by decide) (by decide) b T u q;have I:=p.keepsN S (fun h=>BoxD.apart f o (F:=33) (by decide) (by decide) _ h _ _ p);have g:qj 3 w.1.size 170 pcR (X1.setCell (Ad w.1.size 0) (Sq r (N+1) d)) (Sq r (N+1) d) (G.take (j+1)):=by
   rw[au.out];exact qj.snoc am.out (cs:=[Vi e,Sq s m t,Vb E]) rfl (by rw[ar.out];exact a7) (fun y hy=>(a4.out y hy).keptT S a0) (aq.out.keptT S a0)
  have ak:=hiD (⟨g,H,C,U,I⟩:_∧_∧_∧_∧_);clear S a0 g H C U a7 ay ag A I;gi_wp2;obtain⟨g,H,C,U,I⟩:=ak.out;exact⟨C.from _,_,U,g,I,l.trans H⟩
 ·rintro Q X aw ⟨K,f,k,p,l⟩ a3;rw[jn]at k;obtain⟨r,d,aa⟩:=qh k.row.choose_spec;generalize G.length=GL at aa;subst aa;have HD:=hiD k;have al:=hiD l;have ap:=hiD a3;have ad:=hiD f;have q0:=f.cell 0;simp at q0;have qf:=Boxed.frozen f;have qs:=f.size;clear k l a3 f p;show Exit.inBlock _ _ _ _ _;go_wp2_with fail;have hk:qg (fun b=>b=w.1.size) X (X.setCell (Ad w.1.size 0) (Sq r GL d)):=qg.set (D:=fun b=>b=w.1.size) rfl _ _;have O:X.1[w.1.size]?=some (.cells #[Sq r GL d] 167 (0,0)):=ad.out;have b2:qj 3 w.1.size 170 pcR (X.setCell (Ad w.1.size 0) (Sq r GL d)) (Sq r GL d) G:=by
   obtain⟨l',av,hr,ha⟩:=HD.out;refine⟨l',av,yx hr hk (fun b T hd=>?_),fun y hy=>(ha y hy).keptT hk (fun b T u q h=>?_)⟩
   ·obtain⟨u,q',hc⟩:=qP hr T;rw[hd,O]at hc;cases hc
   ·rw[T,O]at h;cases h
  have a':Holds (X.setCell (Ad w.1.size 0) (Sq r GL d)) w.1.size 167 #[Sq r GL d]:=by simpa using ad.out.set 0 (Sq r GL d)
  have J:Bz w (X.setCell (Ad w.1.size 0) (Sq r GL d)):=al.out.setCell nLe _;have Z:(X.setCell (Ad w.1.size 0) (Sq r GL d)).1[Q]?=some (.deferred (some [])):=(KeepsOthers.setCell X _ _).same _ _ ap.out rfl;generalize X.setCell (Ad w.1.size 0) (Sq r GL d)=X3 at*;have hp:qg (fun _=>False) X3 (X3.putObj Q (.deferred none)):=qg.putObj Z rfl;have b0:=a'.keepsN hp (fun h=>h);have r0:=b0.cell 0;simp at r0;exact qZ (v:=Sq r GL d) Z (by simp[results,results88,go_sem,r0]) ⟨_,rfl,(qj.kept pcR.kept _ _) _ _ b2 hp,qB J Z (by omega)⟩
 ·rintro Q c j X aw z hf a3;exact hf.elim
def Ed (L:List Int) (R:Rc):Prop:=RcOk R∧∃b,L=R.kind::b∧(∀x∈b,0<=x∧x<256)∧Ft (qT R.kind) b=true∧Ct R.kind=(b.length:Int)+1∧xP (qT R.kind) b=Ts R
theorem Ep (x:Pc) (R:Rc) (T:x.short=false) (Z:Ed x.bytes R) (U:List Value) (w:World) (X:pcR x U w):
  Cs 90 #[.agg U.toArray] w (Rw w (.tuple #[rcA R,Vi 0])):=by
 have H:=hst1;obtain⟨l,L,J⟩:=x;simp only at T;subst T;obtain⟨a,c,rfl,d,j,-⟩:=X;obtain⟨u,b,v,A,y,B,z⟩:=Z;simp only at v;subst v;obtain⟨g,o,rfl⟩:∃g o,a=some (Ad g o):=by
  rcases d.2 with h|⟨g,o,e,-⟩
  ·cases h
  ·exact⟨g,o,e⟩
 have q:=hiD (fun S (V:Bz w S)=>Q8 R u _ rfl b A y B z g o c (by simpa using j) S (LL d V));simp only[jF]at q j⊢;obtain⟨n,W⟩:=xR (b.length+1);rw[W]at q j⊢;have F:((n:Int)==0)=false:=by simp;omega
 clear d u A y B z;obtain⟨k,⟨Q,P,O,M,N,r⟩,p,m⟩:=R;simp only[rcA,rcV,evV,jE,jD]at q⊢;have f:=(bA w (Oc #[Vi l,Vs g o n c,Vb false] 170)).alloc (by simp) (Oc #[Vu 0,Vi 0,Vi 0,Vi 0,Vi 0,Vc 0 0,Vi 0,Vi 0] 38);have t:=Holds.fresh' (w:=w.alloc (Oc #[Vi l,Vs g o n c,Vb false] 170)) (b:=w.1.size+1) (by simp) 38 #[Vu 0,Vi 0,Vi 0,Vi 0,Vi 0,Vc 0 0,Vi 0,Vi 0];go_enter func90,ntmps90;go_wp2_with fail;refine zE 0 rfl ?_;go_wp2_with fail;refine(q.out _ f).mono ?_;rintro x I ⟨rfl,i⟩;have s:=f.trans (i.mono f.size);have C:=t.later i;obtain⟨a2,k1,a7,a1,K,a0,a6,a5,a3,a4⟩:=C.g8;clear q i t f;go_wp2_with fail;rw[qU];have D:=(C.setsAll [Vu k,Vi Q,Vi P,Vi O,Vi M,Vc N r,Vi p,Vi m] rfl).setsAll [Vu k,Vi Q,Vi P,Vi O,Vi M,Vc N r,Vi p,Vi m] rfl;have E:=Below.setCells (b:=w.1.size+1) (Nat.le_succ _) [Vu k,Vi Q,Vi P,Vi O,Vi M,Vc N r,Vi p,Vi m] 0 (Below.setCells (b:=w.1.size+1) (Nat.le_succ _) [Vu k,Vi Q,Vi P,Vi O,Vi M,Vc N r,Vi p,Vi m] 0 s);refine bodyPost_ret (kw rfl _ _ (w.1.size+1) 38 #[Vu k,Vi Q,Vi P,Vi O,Vi M,Vc N r,Vi p,Vi m] _ (Vi 0) rfl D underlying38 rfl rfl rfl) rfl ?_;exact⟨rfl,E⟩
theorem MM {P:Program} {n:Func} {p q r:Tmp} {k l:TypeId} (h:n.results=#[.cell p k,.cell q l,.tmp r]) (f:Array Value) (w:World) (b:Nat) (t:TypeId) (i:Array Value) (d:TypeDesc) (g:Nat) (o:TypeId) (j:Array Value) (m:TypeDesc) (x:Value)
  (C:f.getD p undef=Vp b 0) (s:Holds w b t i) (F:P.underlying k=some d) (y:(match d with|.struct _|.array _ _=>true|_=>false)=true) (A:(P.info? k).map (·.size)=some i.size)
  (D:f.getD q undef=Vp g 0) (u:Holds w g o j) (H:P.underlying l=some m) (z:(match m with|.struct _|.array _ _=>true|_=>false)=true) (B:(P.info? l).map (·.size)=some j.size) (E:f.getD r undef=x):
  (results n f).run P w= .ok (.tuple #[.agg i,.agg j,x]) w:=by
 have c:f[p]?.getD undef=Vp b 0:=by simpa using C
 have a:f[q]?.getD undef=Vp g 0:=by simpa using D
 have e:f[r]?.getD undef=x:=by simpa using E
 simp[results,h,c,a,e,asAddr,run_loadVar_row w b t k i (0,0) d s F y A,run_loadVar_row w g o l j (0,0) m u H z B]
theorem qg.setCells {D:Nat->Prop} {b:Nat} (c:D b):∀(a:List Value) (o:Nat) (W:World),qg D W (W.setCells b o a)
 |[],_,_=>qg.refl _ _
 |v::a,o,_=>(qg.set c o v).trans (qg.setCells c a (o+1) _)
theorem Ih (c:Cf) (f:Fo) (R:Rc) (hS:Ls c f R) (x:Pc) (hs:x.short=false) (ht:Ed x.bytes R)
  (v a9:Value) (pv:List Value) (w:World) (hv:Ai w v c) (hk:vw w a9 f) (ah:pcR x pv w):
  Cs 230 #[v,a9,.agg pv.toArray] w fun av w'=>∃v',av= .returned (.tuple #[v',rcA R,Vu 0])∧vw w' v' (nowF f R)∧Bz w w':=by
 have b2:=hst1;have u:=hiD (fun A (K:Bz w A)=>Ep x R hs ht pv A ((pcR.kept _ _).later ah K));have CJ:=hiD (fun A (K:Bz w A)=>S5 c f R hS v a9 A (hv.later K) (hk.later K));generalize nowF f R=nf at*;clear ht hS;obtain⟨b4,rfl,ae⟩:=hv;obtain⟨m0,m1,m2,m3,kk,hm,rfl,ag⟩:=hk;obtain⟨aq,ar,rfl,_⟩:=ae.form;obtain⟨a2,au,rfl,_⟩:=ag.form;obtain⟨pa,pc,rfl,_⟩:=ah;obtain⟨a8,ao,sh⟩:=x;simp only at hs;subst hs;simp only at u⊢;obtain⟨pn,ad⟩:=xR ao.length;rw[ad]at u⊢;generalize ((a8:Nat):Int)=a8 at*;clear ad ae ag hm;obtain⟨o,⟨n,k,j,a,e,p⟩,r,m⟩:=R;simp only[rcA,rcV,evV,cfC,foC,jE,jD]at u CJ⊢;obtain⟨ap,hW⟩:=xL (((((w.alloc (.cells #[.slice aq c.p.1.length ar,Vi c.p.2,Vu c.2,Vi c.cap,Vi c.4,Vi c.5] 45)).alloc (.cells #[Vi m0,Vi m1,Vi m2,Vi m3,.slice a2 f.2.length au,Vi f.hi] 114)).alloc (.cells #[Vi a8,.slice pa pn pc,.bool false] 170)).alloc (.cells #[Vi 0,Vi 0,Vi 0,Vi 0,.slice none 0 0,Vi 0] 114)).alloc (.cells #[Vu 0,Vi 0,Vi 0,Vi 0,Vi 0,.complex .f64 0 0,Vi 0,Vi 0] 38));obtain⟨zc,zf,zp,zo,T,a0⟩:=Q0 w _ _ _ _ _ _ _ _ _ _ ap hW;have HW:=hiD hW;clear hW;go_enter func230,ntmps230;go_wp2_with fail;rw[<-HW.out];clear HW;refine(u.out _ a0).mono ?_;rintro x w1 ⟨rfl,l⟩;have af:=a0.trans (l.mono a0.size);replace zc:=zc.later l;replace zf:=zf.later l;replace zo:=zo.later l;replace T:=T.later l;obtain⟨C,D,E,M,F,V,k6,k7,H,I⟩:=T.g8;obtain⟨S,L,O,Q,P,W,-⟩:=zc.g6;obtain⟨q0,q1,q2,q3,q4,q5,-⟩:=zf.g6;clear u l a0;go_wp2_with fail;generalize ai:World.setCell _ _ _=w2;have a5:w2=w1.setCells (w.1.size+1+1+1+1) 0 [Vu o,Vi n,Vi k,Vi j,Vi a,.complex .f64 e p,Vi r,Vi m]:=ai.symm;clear ai C D E M F V k6 k7 S L O Q P W q0 q1 q2 q3 q4 q5 H I;have Z:Holds w2 (w.1.size+1+1+1+1) 38 #[Vu o,Vi n,Vi k,Vi j,Vi a,.complex .f64 e p,Vi r,Vi m]:=by rw[a5];exact T.setsAll [Vu o,Vi n,Vi k,Vi j,Vi a,.complex .f64 e p,Vi r,Vi m] rfl
 have X:Holds w2 (w.1.size+1+1+1) 114 #[Vi 0,Vi 0,Vi 0,Vi 0,.slice none 0 0,Vi 0]:=by rw[a5];exact zo.farSets [Vu o,Vi n,Vi k,Vi j,Vi a,.complex .f64 e p,Vi r,Vi m] 0 (by omega)
 have a4:Bz w w2:=by rw[a5];exact Below.setCells (by omega) [Vu o,Vi n,Vi k,Vi j,Vi a,.complex .f64 e p,Vi r,Vi m] 0 af
 clear a5 T zo zc zf af;refine(CJ.out _ a4).mono ?_;rintro x U ⟨v',hx,ay,a1⟩;cases hx;obtain⟨y,z,s,t,M,ab,rfl,a3⟩:=ay;obtain⟨q,d,rfl,_⟩:=a3.form;obtain⟨kl,a6⟩:=xR nf.2.length;obtain⟨g,a7⟩:=xR nf.hi;rw[a6]at a3;simp only[foC,a7,a6];have aa:=hiD a3;have am:=hiD ab;have al:=hiD a7;have ac:=a4.trans (a1.mono a4.size);replace Z:=Z.later a1;replace X:=X.later a1;obtain⟨C,D,E,M,F,V,H,I⟩:=X.g6;obtain⟨S,L,O,Q,P,W,p6,p7,pf,ps⟩:=Z.g8;clear a3 ab a7 a6 a1 a4 CJ;go_wp2_with fail;generalize aj:World.setCell _ _ _=N;have i:N=U.setCells (w.1.size+1+1+1) 0 [Vi y,Vi z,Vi s,Vi t,.slice q kl d,Vi g]:=aj.symm;clear aj C D E M F V S L O Q P W p6 p7 H I pf ps;have xo:Holds N (w.1.size+1+1+1) 114 #[Vi y,Vi z,Vi s,Vi t,.slice q kl d,Vi g]:=by rw[i];exact X.setsAll [Vi y,Vi z,Vi s,Vi t,.slice q kl d,Vi g] rfl
 have xr:Holds N (w.1.size+1+1+1+1) 38 #[Vu o,Vi n,Vi k,Vi j,Vi a,.complex .f64 e p,Vi r,Vi m]:=by rw[i];exact Z.farSets [Vi y,Vi z,Vi s,Vi t,.slice q kl d,Vi g] 0 (by omega)
 have aw:Bz w N:=by rw[i];exact Below.setCells (by omega) [Vi y,Vi z,Vi s,Vi t,.slice q kl d,Vi g] 0 ac
 have az:qg (fun b=>b=w.1.size+1+1+1∨b=w.1.size+1+1+1+1) U N:=by rw[i];exact qg.setCells (.inl rfl) _ _ _
 obtain⟨C,D,E,M,F,V,H,I⟩:=xo.g6;obtain⟨S,L,O,Q,P,W,p6,p7,pf,ps⟩:=xr.g8;clear i ac;go_wp2_with fail;go_region;generalize ak:World.drew _=J;have h:J=((N.setCells (w.1.size+1+1+1) 0 [Vi y,Vi z,Vi s,Vi t,.slice q kl d,Vi g]).setCells (w.1.size+1+1+1+1) 0 [Vu o,Vi n,Vi k,Vi j,Vi a,.complex .f64 e p,Vi r,Vi m]).drew:=ak.symm;clear ak;have b0:Holds J (w.1.size+1+1+1) 114 #[Vi y,Vi z,Vi s,Vi t,.slice q kl d,Vi g]:=by rw[h];exact((xo.setsAll [Vi y,Vi z,Vi s,Vi t,.slice q kl d,Vi g] rfl).farSets [Vu o,Vi n,Vi k,Vi j,Vi a,.complex .f64 e p,Vi r,Vi m] 0 (by omega)).drew
 have b1:Holds J (w.1.size+1+1+1+1) 38 #[Vu o,Vi n,Vi k,Vi j,Vi a,.complex .f64 e p,Vi r,Vi m]:=by rw[h];exact((xr.farSets [Vi y,Vi z,Vi s,Vi t,.slice q kl d,Vi g] 0 (by omega)).setsAll [Vu o,Vi n,Vi k,Vi j,Vi a,.complex .f64 e p,Vi r,Vi m] rfl).drew
 have ax:Bz w J:=by rw[h];exact(Below.setCells (by omega) [Vu o,Vi n,Vi k,Vi j,Vi a,.complex .f64 e p,Vi r,Vi m] 0 (Below.setCells (by omega) [Vi y,Vi z,Vi s,Vi t,.slice q kl d,Vi g] 0 aw)).drew
 have a':qg (fun b=>b=w.1.size+1+1+1∨b=w.1.size+1+1+1+1) U J:=by rw[h];exact((az.trans (qg.setCells (.inl rfl) _ _ _)).trans (qg.setCells (.inr rfl) _ _ _)).trans (qg.drew _ _)
 have an:RowT 5 36 evV J (.slice q kl d) nf.2:=by
  refine aa.out.keptD a' (fun b K B=>?_);obtain⟨cs,b3,hc⟩:=aa.out.2 b K;rcases B with B|B
  ·have h1:U.1[b]?=some (.cells #[Vi 0,Vi 0,Vi 0,Vi 0,.slice none 0 0,Vi 0] 114 (0,0)):=by rw[B];exact X
   rw[h1]at hc;cases hc
  ·have h1:U.1[b]?=some (.cells #[Vu o,Vi n,Vi k,Vi j,Vi a,.complex .f64 e p,Vi r,Vi m] 38 (0,0)):=by rw[B];exact Z
   rw[h1]at hc;cases hc
 clear h C D E M F V S L O Q P W p6 p7 H I pf ps;go_wp2_with fail;refine bodyPost_ret (MM rfl _ _ (w.1.size+1+1+1) 114 #[Vi y,Vi z,Vi s,Vi t,.slice q kl d,Vi g] _ (w.1.size+1+1+1+1) 38 #[Vu o,Vi n,Vi k,Vi j,Vi a,.complex .f64 e p,Vi r,Vi m] _ (Vu 0) rfl b0 underlying114 rfl rfl rfl b1 underlying38 rfl rfl rfl) rfl ?_;exact⟨_,rfl,⟨y,z,s,t,_,am.out,by rw[al.out];rfl,an⟩,ax⟩
def enC (u:Value) (c:Cf) (f g i j:Int) (k:Value) (d:Int) (e:Value) (a:Int):Array Value:=#[u,Vi c.p.2,Vu c.2,Vi c.cap,Vi c.4,Vi c.5,Vi f,Vi g,Vi i,Vi j,k,Vi d,e,Vi a]
def EnV (W:World) (v:Value) (a:En):Prop:=∃u d e f g k c,a.f.1=[d,e,f,g]∧v= .agg (enC u a.c d e f g k a.f.hi c a.count)∧vC W u a.c.p.1∧RowT 5 36 evV W k a.f.2∧qv 2 127 mtR W c a.led
theorem EnV.later {W m:World} {v:Value} {n:En} (h:EnV W v n) (l:Bz W m):EnV m v n:=by
 obtain⟨u,f,d,e,a,k,o,g,b,i,c,j⟩:=h;exact⟨u,f,d,e,a,k,o,g,b,i.mono l nLe,c.later l,qD j l⟩
theorem Iw (c:Cf) (hp:PtOk c.p) (W:∀a5∈c.p.1,a5.6=[]) (X:1<=c.p.1.length) (U:c.p.1.length<=1000000) (x:Bc c=true) (v:Value) (w:World) (Z:Ai w v c):
  Cs 51 #[v] w fun a3 w'=>∃N,a3=Rt (.tuple #[N,Vi 0])∧EnV w' N ⟨c,newF,[],0⟩∧Bz w w':=by
 have D:=hiD (fun o (z:Bz w o)=>S6 c hp x v o (Z.later z));simp only[foC]at D;obtain⟨aa,rfl,u⟩:=Z;obtain⟨a,s,rfl,_⟩:=u.form;have K:=hiD (fun o (z:Bz w o)=>Mm c.p W U X (.agg #[Sq a c.p.1.length s,Vi c.p.2]) o ⟨_,rfl,u.mono z nLe⟩);obtain⟨n,l⟩:=xR c.p.1.length;have t:=hiD l;rw[l]at D K⊢;simp only[cfC]at D⊢;clear u W x X U l;have i:=(bA w (Oc #[Sq a n s,Vi c.p.2,Vu c.2,Vi c.cap,Vi c.4,Vi c.5] 45)).alloc (by simp) (Oc #[Vn,Vi 0,Vu 0,Vi 0,Vi 0,Vi 0,Vi 0,Vi 0,Vi 0,Vi 0,Vn,Vi 0,Vn,Vi 0] 117);have k:=(Holds.fresh w 45 #[Sq a n s,Vi c.p.2,Vu c.2,Vi c.cap,Vi c.4,Vi c.5]).alloc (Oc #[Vn,Vi 0,Vu 0,Vi 0,Vi 0,Vi 0,Vi 0,Vi 0,Vi 0,Vi 0,Vn,Vi 0,Vn,Vi 0] 117);have f:=Holds.fresh' (w:=w.alloc (Oc #[Sq a n s,Vi c.p.2,Vu c.2,Vi c.cap,Vi c.4,Vi c.5] 45)) (b:=w.1.size+1) (by simp) 117 #[Vn,Vi 0,Vu 0,Vi 0,Vi 0,Vi 0,Vi 0,Vi 0,Vi 0,Vi 0,Vn,Vi 0,Vn,Vi 0];go_enter func51,ntmps51;go_wp2_with fail;generalize (w.alloc (Oc #[Sq a n s,Vi c.p.2,Vu c.2,Vi c.cap,Vi c.4,Vi c.5] 45)).alloc (Oc #[Vn,Vi 0,Vu 0,Vi 0,Vi 0,Vi 0,Vi 0,Vi 0,Vi 0,Vi 0,Vn,Vi 0,Vn,Vi 0] 117)=w0 at*;refine(D.out _ i).mono ?_;rintro a6 F ⟨rfl,j⟩;have q:=i.trans (j.mono i.size);replace k:=k.later j;replace f:=f.later j;have a9:=f.size;have m:=q.alloc q.size (Oc #[Vi 0,Vi 0,Vi 0,Vi 0,Vn,Vi (-1)] 114);have P:=Holds.fresh F 114 #[Vi 0,Vi 0,Vi 0,Vi 0,Vn,Vi (-1)];replace k:=k.alloc (Oc #[Vi 0,Vi 0,Vi 0,Vi 0,Vn,Vi (-1)] 114);replace f:=f.alloc (Oc #[Vi 0,Vi 0,Vi 0,Vi 0,Vn,Vi (-1)] 114);obtain⟨k0,k1,-⟩:=k.g2;clear D j i q;go_wp2_with fail;generalize E:F.alloc (Oc #[Vi 0,Vi 0,Vi 0,Vi 0,Vn,Vi (-1)] 114)=w2 at*;have a8:F.1.size<w2.1.size:=by rw[<-E];simp
 refine(K.out _ m).mono ?_;rintro a6 T ⟨N,rfl,⟨u2,rfl,r⟩,H,h⟩;obtain⟨e,d,rfl,_⟩:=r.form;rw[t.out];have a7:=hiD r;have J:=m.trans (h.mono m.size);replace k:=k.later h;replace f:=f.later h;replace P:=P.later h;obtain⟨q0,q1,q2,q3,q4,q5,qf,qs⟩:=k.g6;have r0:=f.cell 0;have r1:=f.cell 1;have a2:=f.cell 2;have V:=f.cell 3;have r4:=f.cell 4;have r5:=f.cell 5;have a0:=f.cell 6;have r7:=f.cell 7;have r8:=f.cell 8;have r9:=f.cell 9;have M:=f.cell 10;have L:=f.cell 11;have O:=f.cell 12;have I:=f.cell 13;have rf:=f.free;have rs:=f.size;obtain⟨s0,s1,s2,s3,s4,s5,-⟩:=P.g6;simp at r0 r1 a2 V r4 r5 a0 r7 r8 r9 M L O I;clear r h K k0 k1 E;go_wp2_with fail;generalize B:World.setCell _ _ _=A;have g:A=((T.setCell (Ad w.1.size 0) (Sq e n d)).setCell (Ad w.1.size 1) (Vi c.p.2)).setCells (w.1.size+1) 0 [Sq e n d,Vi c.p.2,Vu c.2,Vi c.cap,Vi c.4,Vi c.5,Vi 0,Vi 0,Vi 0,Vi 0,Vn,Vi (-1),Vn,Vi 0]:=B.symm;clear B;have y4:Holds A (w.1.size+1) 117 #[Sq e n d,Vi c.p.2,Vu c.2,Vi c.cap,Vi c.4,Vi c.5,Vi 0,Vi 0,Vi 0,Vi 0,Vn,Vi (-1),Vn,Vi 0]:=by rw[g];exact((f.far (p:=Ad w.1.size 0) (by simp) (Sq e n d)).far (p:=Ad w.1.size 1) (by simp) (Vi c.p.2)).setsAll [Sq e n d,Vi c.p.2,Vu c.2,Vi c.cap,Vi c.4,Vi c.5,Vi 0,Vi 0,Vi 0,Vi 0,Vn,Vi (-1),Vn,Vi 0] rfl
 have S:qg (fun b=>b=w.1.size∨b=w.1.size+1) T A:=by rw[g];exact((qg.set (.inl rfl) _ _).trans (qg.set (.inl rfl) _ _)).trans (qg.setCells (.inr rfl) _ _ _)
 have C:=H _ _ S (fun b z=>by rcases z with rfl|rfl<;>omega);obtain⟨a1,R,y⟩:=C;have Q:a1=Sq e n d:=by simp at R;rw[<-R,t.out]
 rw[Q]at y;have hB:Bz w A:=by rw[g];exact Below.setCells (Nat.le_succ _) [Sq e n d,Vi c.p.2,Vu c.2,Vi c.cap,Vi c.4,Vi c.5,Vi 0,Vi 0,Vi 0,Vi 0,Vn,Vi (-1),Vn,Vi 0] 0 ((J.setCell (p:=Ad w.1.size 0) nLe _).setCell (p:=Ad w.1.size 1) nLe _)
 clear g R S;have a4:EnV A (.agg #[Sq e n d,Vi c.p.2,Vu c.2,Vi c.cap,Vi c.4,Vi c.5,Vi 0,Vi 0,Vi 0,Vi 0,Vn,Vi (-1),Vn,Vi 0]) ⟨c,newF,[],0⟩:=⟨Sq e n d,0,0,0,0,Vn,Vn,rfl,rfl,y,RowT.nil _ _ _ _,qv.nil _ _ _ _⟩;refine bodyPost_ret (kw rfl _ _ (w.1.size+1) 117 #[Sq e n d,Vi c.p.2,Vu c.2,Vi c.cap,Vi c.4,Vi c.5,Vi 0,Vi 0,Vi 0,Vi 0,Vn,Vi (-1),Vn,Vi 0] _ (Vi 0) rfl y4 underlying117 rfl rfl rfl) rfl ?_;exact⟨_,rfl,a4,hB⟩
end
end Go.Proofs.YtnmpcdnbklmhkaaGreatDoor
