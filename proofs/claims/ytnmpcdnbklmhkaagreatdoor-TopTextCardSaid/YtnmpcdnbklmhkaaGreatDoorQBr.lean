import Derived.Test.YtnmpcdnbklmhkaaGreatDoorQBq
import Derived.Test.YtnmpcdnbklmhkaaGreatDoorQBf
import Derived.Test.YtnmpcdnbklmhkaaGreatDoorQAp
import Derived.Test.YtnmpcdnbklmhkaaGreatDoorQAx
namespace Go.Proofs.YtnmpcdnbklmhkaaGreatDoor
open Go.Proofs.Tryz Go.RowKit
set_option maxRecDepth 100000
set_option linter.all false
set_option maxHeartbeats 8000000
section
attribute [local go_sem] Oper.semAt_some
theorem MV (c:Cf) (e:Option Addr) (g f:Nat) (a:Option Addr) (n d:Nat) (w:World):Cs 52 #[.agg (cfC (Sq e g f) c),Sq a n d] w fun x w'=>x=Rt (.func (.func 87) #[] #[Vp w.1.size 0,Vp (w.1.size+1) 0])∧
  Holds w' w.1.size 45 (cfC (Sq e g f) c)∧Holds w' (w.1.size+1) 33 #[Sq a n d]∧Bz w w':=by
 have b:=hmf1;simp only[cfC];go_enter func52,ntmps52;go_wp2_with fail;go_ret;exact⟨by simp,(Holds.fresh _ _ _).alloc _,Holds.fresh' (by simp) _ _,bB.alloc (by simp) _⟩
theorem otR.abides {F:TypeId->Bool} (c:F 3=false) (d:F 36=false) (o:Ot) (a:List Value):qM F (otR o a):=qM.ex fun r=>qM.ex fun e=>(qM.pure _).and (MtV.abides c d r e o.m)
def outsN (E:Nat->En) (a:Nat->Fo) (c:Nat->Rc) (j:Nat):List Ot:=(List.range j).flatMap (outsR E a c)
def PlyI (w:World) (c:Nat) (O:Nat->List Ot) (j:Nat) (X:World):Prop:=
 ∃a,Holds X c 78 #[a]∧qj 5 w.1.size 129 otR X a (O j)∧Bz w X
theorem PlyI.stable {B:Nat} (w:World) (a:w.1.size<=B) (c:Nat) (O:Nat->List Ot) (j:Nat):zW fPlay B (PlyI w c O j):=
 zW.ex fun _=>((qM.holds _ _ _ (by decide)).stableF B).and (((qj.abides (by decide) (otR.abides (by decide) (by decide)) _ _).stableF B).and (zW.below a nLe))
theorem R9 (c:Cf) (L:List Int) (hL:∀b8∈L,0<=b8∧b8<=255) (b1:(qx 0 L).length<=1000) (E:Nat->En) (e:Nat->Fo) (h:Nat->Rc) (H:RunH c (qx 0 L) E e h) (b2:∀j,j<=(qx 0 L).length->(outsN E e h j).length<=1000000) (u:Value) (a:Option Addr) (n:Nat) (au:L.length<=n) (w:World) (a3:qN w u c.p.1) (ae:zA w .u8 a L):
  Cs 30 #[.agg (cfC u c),.slice a L.length n] w fun bq w'=>∃ov,bq= .returned (.tuple #[ov,Vi 0])∧qj 5 w.1.size 129 otR w' ov (outsN E e h (qx 0 L).length)∧Bz w w':=by
 obtain⟨i0,bx,bz,b',c0⟩:=Vw;have W:=hiD (fun t (s:Bz w t)=>Iw c H.hp H.hn H.hpos H.hl6 H.hcf (.agg (cfC u c)) t ⟨u,rfl,a3.mono s nLe⟩);have ax:=fun cb sb=>MU c L hL b1 E e h H cb sb u a n au;have bg:=hiD (fun t (s:Bz w t)=>(⟨ae.1,ae.2.imp id (fun ⟨b,c6,ea,a9⟩=>⟨b,c6,ea,fun b6 hi=>qd s nLe (a9 b6 hi)⟩)⟩:zA t .u8 a L));have bp:=hiD (fun t (s:Bz w t)=>a3.mono s nLe);have bo:=hiD (fun j (i:j<(qx 0 L).length)=>(show (outsR E e h j).length<=1000 from(H.step j _ (jB i)).1.hlen));have HO:=hiD (fun j=>(show outsN E e h (j+1)=outsN E e h j++outsR E e h j from by unfold outsN;rw[List.range_succ,dH];simp));have bk:=hiD (show outsN E e h 0=[]from rfl);have bl:=hiD b2;generalize (qx 0 L).length=b7 at*;generalize outsN E e h=O at*;generalize outsR E e h=OR at*;obtain⟨D,F,rfl,_⟩:=a3.form;have bh:=hiD ax;obtain⟨K,ab⟩:=xR L.length;have bj:=hiD ab;rw[ab]at au⊢;obtain⟨B,af⟩:=xR c.p.1.length;have bn:=hiD af;rw[af]at W⊢;clear ax ae a3 hL b1 ab af b2 H;simp only[cfC]at W⊢;have R:=(bA w (.cells #[.slice D B F,Vi c.p.2,Vu c.2,Vi c.cap,Vi c.4,Vi c.5] 45)).alloc (by simp) (.cells #[.slice none 0 0] 78);have zc:=(Holds.fresh w 45 #[.slice D B F,Vi c.p.2,Vu c.2,Vi c.cap,Vi c.4,Vi c.5]).alloc (.cells #[.slice none 0 0] 78);have zo:=Holds.fresh' (w:=w.alloc (.cells #[.slice D B F,Vi c.p.2,Vu c.2,Vi c.cap,Vi c.4,Vi c.5] 45)) (b:=w.1.size+1) (by simp) 78 #[.slice none 0 0];refine qH func30 rfl ?_;simp only[ntmps30,jW,jF,jO,Nat.reduceAdd,Nat.reduceSub,jR,jQ,jX,jU,jD,jE];go_wp2_with fail;generalize (w.alloc (.cells #[.slice D B F,Vi c.p.2,Vu c.2,Vi c.cap,Vi c.4,Vi c.5] 45)).alloc (.cells #[.slice none 0 0] 78)=w1 at*;refine(W.out w1 R).mono ?_;rintro c7 x ⟨v1,rfl,l,S⟩;obtain⟨xa,xn,xc,x6,x7,x8,x9,ya,yn,yc,c8,za,zn,ca,x1,x2,x3,x4,x5,c9,rfl⟩:=l.cells;have b9:=zc.later S;have ag:=zo.later S;have ar:=R.trans (S.mono R.size);obtain⟨Q,c1,c2,c3,c4,c5,-⟩:=b9.g6;have cj:=ag.size;clear l zc zo R S W;go_wp2_with fail;refine(MV c D B F a K n x).mono ?_;rintro c7 w3 ⟨rfl,zq,zs,aq⟩;have cc:=ag.later aq;have d:=ar.trans (aq.mono ar.size);clear ag b9 Q c1 c2 c3 c4 c5;generalize Value.agg #[.slice xa xn xc,Vi x1,Vu x2,Vi x3,Vi x4,Vi x5,Vi x6,Vi x7,Vi x8,Vi x9,.slice ya yn yc,Vi c8,.slice za zn ca,Vi c9]=A1;generalize Value.agg #[.slice D B F,Vi c.p.2,Vu c.2,Vi c.cap,Vi c.4,Vi c.5]=A2;go_wp2_with fail;refine KE rfl NJ (bh.out x.1.size (x.1.size+1)) (by rintro b6 vs X ⟨tv,ov,rfl,_⟩;rfl)
  (PlyI w (w.1.size+1) O) (fun _ _ _=>False) (fun j=>PlyI.stable w d.size _ O j) (fun _ _=>zW.pure _) (fun a2 hW=>⟨by rw[bn.out];exact zq.later hW,bp.out a2 (d.trans (hW.mono d.size)),by rw[bj.out];exact zs.later hW,bg.out a2 (d.trans (hW.mono d.size))⟩) ⟨_,cc,by rw[bk.out];exact qj.nil _ _ _ _ _,d⟩
  (fun j a' X=>∃(tv:Value) (U:Option Addr) (V M:Nat),(OR j).length=M∧qv 5 129 otR X (.slice U M V) (OR j)∧a'={tmps:=#[A2,.slice a K n,Vp w.1.size 0,undef,Vp (w.1.size+1) 0,Vi 0,undef,.slice U M V,.tuple #[A1,Vi 0],A2,.tuple #[A1,Vi 0],A1,Vi 0,Vi 0,.bool false,undef,A2,.slice a K n,.func (.func 87) #[] #[Vp x.1.size 0,Vp (x.1.size+1) 0],tv,.slice U M V,undef,undef,undef,undef],defers:=[]}) ?_ ?_ ?_ ?_ ?_
 ·intro j a';exact qe.ex fun tv=>qe.ex fun _=>qe.ex fun _=>qe.ex fun _=>(qe.pure _).and (((qv.kept otR.kept _ _).stable _).and (qe.pure _))
 ·rintro l' j vs X K' i hi ⟨tv,ov,rfl,y⟩ am;obtain⟨U,V,rfl,-⟩:=y.form;obtain⟨M,Z⟩:=xR (OR j).length;rw[Z]at y⊢;have an:=am {tmps:=#[A2,.slice a K n,Vp w.1.size 0,undef,Vp (w.1.size+1) 0,Vi 0,undef,.slice U M V,.tuple #[A1,Vi 0],A2,.tuple #[A1,Vi 0],A1,Vi 0,Vi 0,.bool false,undef,A2,.slice a K n,.func (.func 87) #[] #[Vp x.1.size 0,Vp (x.1.size+1) 0],tv,.slice U M V,undef,undef,undef,undef],defers:=[]} X (KeepsFrom.refl _ _) (yd.refl _ _) hi ⟨tv,U,V,M,Z,y,rfl⟩;have bi:=hiD an;clear an am hi y Z;gi_wp2;exact bi.out
 ·rintro l' j a' X ch i ⟨I,f,P,J⟩ ⟨tv,U,V,M,Z,y,rfl⟩;obtain⟨l2,av,a8,a0⟩:=P;obtain⟨l3,ad,b4,ai⟩:=y;have b0:l3.length=M:=by rw[<-Z,<-ad,List.length_map]
  have cg:M<=1000:=by rw[<-Z];exact bo.out j i
  have bs:=bl.out j (Nat.le_of_lt i);obtain⟨N,hN⟩:=xR (O j).length;rw[hN]at a8 bs;have HN:=hiD hN;have be:=hiD av;have bf:=hiD ad;have bb:=hiD a0;have ah:=hiD ai;have r:=hiD a8;have m:=hiD f;have bm:=hiD b4.1;have HM:=hiD Z;have a7:=hiD b0;have aj:=J.size;have Q:=f.cell 0;simp at Q;have ci:=f.size;clear hN av ad a0 ai a8 b4 Z b0 f;gi_wp2_with (gi_at_builtin;refine Bh rfl (.tmp 21) (.tmp 22) 78 rfl w.1.size 129 i0 (.agg #[Vu 0,.slice none 0 0,.slice none 0 0,Vi 0,Vu 0]) 5 72 underlying78 bx bz b' c0 rfl (by decide) I N _ rfl r.out (.slice U M V) rfl bm.out (fun a4=>a4.2.2) (Ug ah.out) ?c1 ?c2 aj ?_);case c1=>rw[a7.out];unfold maxLen;omega
  case c2=>rw[a7.out];omega
  intro v2 C k g bt;rw[a7.out]at k;obtain⟨z,A,rfl⟩:=qh k;have bv:some (w.1.size+1)≠I.ownBlock:=Boxed.not_row m.out (by decide) r.out;have l:Boxed C (w.1.size+1) 78 I:=Holds.grown m.out g bv;have kv:=l.cell;have kf:=l.frozen;have kz:=Holds.size l;have a1:qg (BoxD (w.1.size+1) I) X (C.setCell (Ad (w.1.size+1) 0) (.slice z (N+M) A)):=(qg.row g (fun b s=>.inr s)).trans (qg.set (.inl rfl) _ _);have ac:∀b,BoxD (w.1.size+1) I b->∀o q,X.1[b]?≠some (.cells o 3 q)∧X.1[b]?≠some (.cells o 36 q):=fun b s o q=>⟨BoxD.apart m.out r.out (by decide) (by decide) b s o q,BoxD.apart m.out r.out (by decide) (by decide) b s o q⟩;have az:yd UP X (C.setCell (Ad (w.1.size+1) 0) (.slice z (N+M) A)):=yd.of a1 (fun b s o cl q hc=>by
   obtain⟨ce,q',t',h1,h2⟩:=BoxD.typed m.out r.out s;rw[h1]at hc;cases hc;rcases h2 with rfl|rfl<;>decide)
  have b5:Holds (C.setCell (Ad (w.1.size+1) 0) (.slice z (N+M) A)) (w.1.size+1) 78 #[.slice z (N+M) A]:=Holds.set l 0 _;have b3:=k.kept (grownBy_setCell' C (w.1.size+1) (.slice z (N+M) A)) (.inr (l.not_row (by decide) k).symm);have ap:=((Below.refl w.1.size X).grown g aj (fun b s=>qE r.out b s)).setCell (p:=Ad (w.1.size+1) 0) (show w.1.size<=w.1.size+1 by omega) (.slice z (N+M) A);have ay:KeepsOthers X (C.setCell (Ad (w.1.size+1) 0) (.slice z (N+M) A)):=(KeepsOthers.of_grownBy g fun j ck ej i=>by
   obtain⟨o,q,hh⟩:=qP r.out ej;rw[hh]at i;cases i;rfl).trans (KeepsOthers.setCell C (Ad (w.1.size+1) 0) _)
  have ak:qj 5 w.1.size 129 otR (C.setCell (Ad (w.1.size+1) 0) (.slice z (N+M) A)) (.slice z (N+M) A) (O (j+1)):=by
   rw[HO.out j];refine⟨l2++l3,by rw[dC,be.out,bf.out],?_,fun a4 T=>?_⟩
   ·rw[jZ,HN.out,HM.out,dH];exact b3
   ·rcases List.mem_append.1 T with T|T
    ·exact(bb.out a4 T).keptT a1 ac
    ·exact(ah.out a4 T).keptT a1 ac
  have ba:=hiD (⟨ay.from _,az,_,b5,ak,J.trans ap⟩:KeepsFrom w3.1.size X (C.setCell (Ad (w.1.size+1) 0) (.slice z (N+M) A))∧yd UP X (C.setCell (Ad (w.1.size+1) 0) (.slice z (N+M) A))∧PlyI w (w.1.size+1) O (j+1) (C.setCell (Ad (w.1.size+1) 0) (.slice z (N+M) A)));clear a1 ac az b5 b3 ap ay ak k g bt;gi_wp2;exact ba.out
 ·rintro Kd X ao ⟨I,f,P,J⟩ aa;obtain⟨g',a5,aw⟩:=qh P.row.choose_spec;obtain⟨GL,al⟩:=xR (O b7).length;rw[al]at aw;subst aw;have bd:=hiD P;have bc:=hiD J;have a6:=hiD aa;have m:=hiD f;have so:X.setCell (Ad (w.1.size+1) 0) (.slice g' GL a5)=X:=qY f 0 _ rfl;have Q:=f.cell 0;simp at Q;have cf:=f.free;have o:=f.size;have br:w.1.size<=Kd:=jS d.size ao;clear P J aa f al;show Exit.inBlock _ _ _ _ _;go_wp2_with fail;have hp:qg (fun _=>False) X (X.putObj Kd (.deferred none)):=qg.putObj a6.out rfl;have bu:=m.out.keepsN hp (fun a9=>a9);have bw:=(qj.kept otR.kept _ _:Kept (fun a2=>qj 5 w.1.size 129 otR a2 (.slice g' GL a5) (O b7))) _ _ bd.out hp;have q0:=bu.cell 0;simp at q0;exact qZ (v:= .tuple #[.slice g' GL a5,Vi 0]) a6.out (by simp[results,results30,go_sem,q0]) ⟨_,rfl,bw,qB bc.out a6.out br⟩
 ·rintro Kd cd j X ao i hf aa;exact hf.elim
theorem I9 (s:ByteArray) (Q:s.size<=3000) (C z:Int) (J:Pt) (I:zg s.data.toList=(J,C,z)) (H:z≠0) (c:Cf) (u:Value) (L:∃A n B,u=Sq A n B) (M:Value) (w:World) (K:GL w):
  Cs 11 #[.string s,.agg (cfC u c),M] w (Rw w (.tuple #[Vn,Vi C,Vi z])):=by
 have i:=hiD (show ∀W,GL W->Cs 5 #[.string s] W fun e w'=>∃v,e=Rt (.tuple #[v,Vi C,Vi z])∧PatV w' v J∧Bz W w' from fun W h=>(Ap s (by omega) W h).mono (fun e w' D=>by
  unfold R9P at D;rw[I]at D;exact D))
 obtain⟨A,E,B,rfl⟩:=L;have a:=bA w (Oc #[Sq A E B,Vi c.p.2,Vu c.2,Vi c.cap,Vi c.4,Vi c.5] 45);have N:=Holds.fresh w 45 #[Sq A E B,Vi c.p.2,Vu c.2,Vi c.cap,Vi c.4,Vi c.5];simp only[cfC];clear I;go_enter func11,ntmps11;go_wp2_with fail;refine zE 0 rfl ?_;go_wp2_with fail;generalize w.alloc (Oc #[Sq A E B,Vi c.p.2,Vu c.2,Vi c.cap,Vi c.4,Vi c.5] 45)=l at*;refine(i.out l (K.mono a)).mono ?_;rintro r y ⟨v,rfl,g,b⟩;obtain⟨x,rfl,d⟩:=g;obtain⟨q,t,rfl,_⟩:=d.form;have F:=N.later b;have f:=a.trans (b.mono a.size);obtain⟨O,m,-⟩:=F.g2;have o:=F.free;have P:=F.size;have k:(z !=0)=true:=by simpa using H
 have j:(z==0)=false:=by simpa using H
 clear d i;go_wp2_with fail;apply wp_goto;refine⟨rfl,?_⟩;go_wp2_with fail;rw[dD];refine bodyPost_ret (v:= .tuple #[Vn,Vi C,Vi z]) (by simp[results,results11,go_sem]) rfl ?_;exact⟨rfl,(f.setCell (p:=Ad w.1.size 0) nLe _).setCell (p:=Ad w.1.size 1) nLe _⟩
theorem R8 (s:ByteArray) (hs:s.size<=3000) (a7:Int) (c:Cf) (ac:zg s.data.toList=(c.p,a7,0)) (K:Int) (L:List Int) (hL:∀x∈L,0<=x∧x<=255) (aa:(qx 0 L).length<=1000) (E:Nat->En) (M:Nat->Fo) (N:Nat->Rc) (H:RunH c (qx 0 L) E M N) (ab:∀ad,ad<=(qx 0 L).length->(outsN E M N ad).length<=1000000)
  (m:Mt) (hm:outB m) (a8:outsN E M N (qx 0 L).length=[⟨1,m,0,0⟩]) (u:Value) (hu:∃y n J,u=Sq y n J) (a:Option Addr) (P:Nat) (a9:L.length<=P) (w:World) (hG:GL w) (Q:zA w .u8 a L):
  Cs 11 #[.string s,.agg #[u,Vi K,Vu c.2,Vi c.cap,Vi c.4,Vi c.5],Sq a L.length P] w fun e w'=>∃v n,e=Rt (.tuple #[v,Vi 0,Vi 0])∧w'.ownsRow w.1.size 5 1 v n ((Du m).map (Value.int .u8))∧Bz w w':=by
 have CP:=hiD (show ∀W,GL W->Cs 5 #[.string s] W fun e w'=>∃v,e=Rt (.tuple #[v,Vi a7,Vi 0])∧PatV w' v c.p∧Bz W w' from fun W h=>(Ap s (by omega) W h).mono (fun e w' S=>by
  unfold R9P at S;rw[ac]at S;exact S))
 have CC:=hiD (fun v W h=>Gj c.p H.hp v W h);have I:=hiD (fun u W (hb:Bz w W) aj=>R9 c L hL aa E M N H ab u a P a9 W aj ⟨Q.1,Q.2.imp id (fun ⟨b,ak,ea,h⟩=>⟨b,ak,ea,fun i hi=>qd hb nLe (h i hi)⟩)⟩);rw[a8]at I;obtain⟨y,X,J,rfl⟩:=hu;have k:=bA w (Oc #[Sq y X J,Vi K,Vu c.2,Vi c.cap,Vi c.4,Vi c.5] 45);have z0:=Holds.fresh w 45 #[Sq y X J,Vi K,Vu c.2,Vi c.cap,Vi c.4,Vi c.5];obtain⟨Ln,a2⟩:=xR L.length;rw[a2]at I⊢;obtain⟨F,a6⟩:=xR c.p.1.length;have a1:=hiD a6;simp only[cfC]at I;have HN:=hiD H.hn;clear ac a8 a2 a9 a6 H ab Q aa hL;go_enter func11,ntmps11;go_wp2_with fail;refine zE 0 rfl ?_;go_wp2_with fail;generalize w.alloc (Oc #[Sq y X J,Vi K,Vu c.2,Vi c.cap,Vi c.4,Vi c.5] 45)=w1 at*;refine(CP.out w1 (hG.mono k)).mono ?_;rintro r Z ⟨v,rfl,ai,p⟩;obtain⟨pu,rfl,B⟩:=ai;obtain⟨C,D,rfl,_⟩:=B.form;have j:=z0.later p;have t:=k.trans (p.mono k.size);obtain⟨O,T,-⟩:=j.g2;have cf:=j.free;have cs:=j.size;have a0:=hiD B;rw[a1.out];clear B CP z0 k p;go_wp2_with fail;obtain⟨R,o⟩:=xL ((Z.setCell (Ad w.1.size 0) (Sq C F D)).setCell (Ad w.1.size 1) (Vi c.p.2));rw[<-o];have U:Z.grownBy R (some w.1.size):=by rw[o];exact yw _ [Sq C F D,Vi c.p.2] 0 Z
 have z3:Holds R w.1.size 45 #[Sq C F D,Vi c.p.2,Vu c.2,Vi c.cap,Vi c.4,Vi c.5]:=by
  have ae:=(j.set 0 (Sq C F D)).set 1 (Vi c.p.2);simp only[jC,jK,jL]at ae;rw[o];exact ae
 have A:qN R (Sq C F D) c.p.1:=by
  rw[<-a1.out];refine a0.out.keptW HN.out (yJ U) ?_;rintro b rfl i x e;rw[j.cell i]at e;rcases(show i=0∨i=1∨i=2∨i=3∨i=4∨i=5∨6<=i by omega)with rfl|rfl|rfl|rfl|rfl|rfl|h6
  all_goals first
   |(simp at e;done)
   |(rw[Array.getElem?_eq_none (by simpa using h6)]at e;cases e)
 have q:Bz w R:=t.grown U t.size (fun r e=>by cases e;exact Nat.le_refl _);clear o U O T cf cs j a0 t;refine(CC.out _ R ⟨_,rfl,A⟩).mono ?_;rintro r w4 ⟨rfl,l⟩;have a4:=A.mono l nLe;have z4:=z3.later l;have d:=q.trans (l.mono q.size);obtain⟨O,T,c2,c3,c4,c5,-⟩:=z4.g6;clear A z3 q l CC;go_wp2_with fail;have a5:qN w4 (Sq C F D) c.p.1:=a4;refine(I.out (Sq C F D) w4 d a5).mono ?_;rintro r w5 ⟨ov,rfl,z,ag⟩;obtain⟨oa,oc,rfl,-⟩:=z.deep.form;obtain⟨ob,oo,al,cs,e1,-,-,⟨mr,me,e2,a3⟩,V⟩:=z.deep.get (i:=0) rfl;have f:=d.trans (ag.mono d.size);simp only[jF,jO,Nat.reduceAdd]at e1⊢;cases e1;subst e2;simp only[Nat.zero_mul,Nat.add_zero]at V;have CO:=hiD (out_Put m hm mr me ob oo oc w5 V a3);clear z V a3 I a4 a5 O T c2 c3 c4 c5;go_wp2_with fail;refine CO.out.mono ?_;rintro r w6 ⟨v6,n6,rfl,g,ah⟩;obtain⟨va,vc,rfl⟩:=qh g;have af:=hiD (yV g f.size);clear g;go_wp2_with fail;rw[qU];refine bodyPost_ret (v:= .tuple #[Sq va n6 vc,Vi 0,Vi 0]) (by simp[results,results11,go_sem]) rfl ?_;exact⟨_,_,rfl,af.out,f.trans (ah.mono f.size)⟩
end
def lT:List UInt8:=[48,97,44,49,98,32,119,105,116,104,105,110,32,53]
def lT':List UInt8:=[48,97,44,49,98,32,119,105,116,104,105,110]
def lL:List Int:=[20,1,0,0,0,0,0,3,0,0,0,0,1,0,0,0,0,0,0,0,0,20,1,0,0,0,0,0,2,0,0,0,0,0,0,0,0,0,0,0,0,0,8,2,0,0,0,0,0,0,4]
def lF3:Fo:=⟨[4,0,0,0],[l2,l1],3⟩
def lE (a:Int) (i:Nat):En:=if i=0 then ⟨lC a,newF,[],0⟩else if i=1 then ⟨lC a,lF1,[],1⟩else if i=2 then ⟨lC a,lF2,if a=2 then [lM]else [],2⟩else ⟨lC a,lF3,[],3⟩
def lN (i:Nat):Fo:=if i=0 then lF1 else if i=1 then lF2 else lF3
def lX0:Pc:=⟨0,[1,0,0,0,0,0,3,0,0,0,0,1,0,0,0,0,0,0,0,0],false⟩
def lX1:Pc:=⟨21,[1,0,0,0,0,0,2,0,0,0,0,0,0,0,0,0,0,0,0,0],false⟩
def lX2:Pc:=⟨42,[2,0,0,0,0,0,0,4],false⟩
theorem SL:zg lT=(lP,0,0):=by kernel_rfl
theorem Pw:zg lT'=(⟨[],0⟩,12,90):=by kernel_rfl
theorem Ia:qx 0 lL=[lX0,lX1,lX2]:=by kernel_rfl
theorem lif_way (a:Int) (h:a=1∨a=2) (i:Nat) (c:i<3):wayE (lE a i) (lN i) (lR i)=((lE a (i+1)).led,if a=1∧i=2∨a=2∧i=1 then [⟨1,lM,0,0⟩]else []):=by
 rcases h with rfl|rfl<;>rcases(show i=0∨i=1∨i=2 by omega)with rfl|rfl|rfl
 all_goals kernel_rfl
theorem Uv (a:Int) (h:a=1∨a=2) (i:Nat) (c:i<3):lE a (i+1)=nextE (lE a i) (lN i) (lR i):=by
 rcases h with rfl|rfl<;>rcases(show i=0∨i=1∨i=2 by omega)with rfl|rfl|rfl
 all_goals kernel_rfl
theorem SK (a:Int) (h:a=1∨a=2) (i:Nat) (c:i<3):Fe (lE a i)=true:=by
 rcases h with rfl|rfl<;>rcases(show i=0∨i=1∨i=2 by omega)with rfl|rfl|rfl
 all_goals kernel_rfl
theorem Uu:PtOk lP:=rfl
theorem lif_noC:∀s∈lP.1,s.6=[]:=Uu.noC
theorem Ni (i:Nat) (c:i<3) (x:Pc) (a:[lX0,lX1,lX2][i]?=some x):x.short=false∧Ed x.bytes (lR i):=by
 rcases(show i=0∨i=1∨i=2 by omega)with rfl|rfl|rfl<;>cases a
 ·exact⟨rfl,.inl rfl,_,rfl,by decide,by kernel_rfl,by kernel_rfl,by kernel_rfl⟩
 ·exact⟨rfl,.inr (.inl rfl),_,rfl,by decide,by kernel_rfl,by kernel_rfl,by kernel_rfl⟩
 ·exact⟨rfl,.inr (.inr rfl),_,rfl,by decide,by kernel_rfl,by kernel_rfl,by kernel_rfl⟩
theorem lif_tak (e:Int) (h:e=1∨e=2) (i:Nat) (hi:i<3):TakH (lE e i) (lN i) (lR i):=by
 have hj:nowF (lE e i).f (lR i)=lN i:=by
  rcases h with rfl|rfl<;>rcases(show i=0∨i=1∨i=2 by omega)with rfl|rfl|rfl
  all_goals kernel_rfl
 rcases(show i=0∨i=1∨i=2 by omega)with rfl|rfl|rfl
 ·exact {hS:=⟨e,0,h,hi,rfl,rfl,rfl⟩,hmode:=h,hkind:= .inl rfl,hj:=hj,hSn:= .inr (.inl rfl),h21:=fun _ _=>⟨rfl,.inl ⟨rfl,rfl⟩⟩,h22:=fun _ a=>absurd a (by decide)}
 ·exact {hS:=⟨e,1,h,hi,rfl,rfl,rfl⟩,hmode:=h,hkind:= .inl rfl,hj:=hj,hSn:= .inr (.inr rfl),h21:=fun _ _=>⟨rfl,.inr ⟨rfl,rfl⟩⟩,h22:=fun _ a=>absurd a (by decide)}
 ·refine {hS:=⟨e,2,h,hi,rfl,rfl,rfl⟩,hmode:=h,hkind:= .inr rfl,hj:=hj,hSn:= .inr (.inr rfl),h21:=fun _ a=>absurd a (by decide),h22:=fun c _=>?_};have b:e=2:=c;subst b;exact⟨fun m d=>by
   have:m=lM:=by simpa[lE]using d
   exact this,by decide⟩
theorem lif_all (c:Int) (h:c=1∨c=2) (i:Nat) (d:i<3) (x:Pc) (e:[lX0,lX1,lX2][i]?=some x):AllH (lE c i) (lN i) (lR i) x:=by
 have a:(lE c i).c.p=lP:=by rcases(show i=0∨i=1∨i=2 by omega)with rfl|rfl|rfl<;>rfl
 refine⟨lif_tak c h i d,(Ni i d x e).1,(Ni i d x e).2,?_,by rw[a];decide,by rw[a];decide,?_,SK c h i d⟩
 ·rw[lif_way c h i d];show (if _ then _ else _:List Ot).length<=1000;split<;>simp
 ·rcases h with rfl|rfl<;>rcases(show i=0∨i=1∨i=2 by omega)with rfl|rfl|rfl
  all_goals first|exact .inl rfl|exact .inr rfl
theorem lif_run (c:Int) (h:c=1∨c=2):RunH (lC c) (qx 0 lL) (lE c) lN lR:=by
 rw[Ia];refine⟨rfl,fun i x a=>?_,Uu,lif_noC,(by show (1:Nat)<=2;decide),(by show (2:Nat)<=1000000;decide),?_⟩
 ·have d:i<3:=(jG.1 a).1;exact⟨lif_all c h i d x a,Uv c h i d⟩
 ·rcases h with rfl|rfl<;>kernel_rfl
theorem Nj (a:Int) (h:a=1∨a=2):outsN (lE a) lN lR 3=[⟨1,lM,0,0⟩]:=by
 rcases h with rfl|rfl<;>kernel_rfl
theorem Ut:outB lM:=by
 refine⟨rfl,by decide,by decide,by decide,by decide,fun x a=>?_,fun i x y a b=>?_⟩
 ·simp only[lM,jI,jH,or_false]at a;rcases a with rfl|rfl
  ·exact .inr rfl
  ·exact .inl rfl
 ·rcases i with _|i
  ·cases a;cases b;kernel_rfl
  ·rcases i with _|i
   ·simp[lM]at b
   ·simp[lM]at a
theorem Cx:(Du lM).length=44:=by kernel_rfl
section
attribute [local go_sem] Oper.semAt_some
def lB (i:Nat):List Int:=if i=0 then lX0.bytes else if i=1 then lX1.bytes else lX2.bytes
def lK (i:Nat):Nat:=if i<2 then 20 else 8
def lPre (i:Nat):List Int:=(List.range i).flatMap fun j=>(lK j:Int)::lB j
theorem LH (i:Nat) (a:i<3) (w:World):Cs 10 #[rcA (lR i)] w fun r w'=>∃v,r=Rt (.tuple #[v,Vi 0])∧w'.ownsRow w.1.size 5 1 v (lK i) ((lB i).map (Value.int .u8))∧Bz w w':=by
 rcases(show i=0∨i=1∨i=2 by omega)with rfl|rfl|rfl
 ·exact JS l1 (.inl rfl) w
 ·exact JS l2 (.inr rfl) w
 ·exact RZ w
theorem KC {P:Program} {o:Oper} {a:Act} {w w':World} {next:Act->World->Prop} {Q:Exit->Act->World->Prop} {T:TypeId} {c x:Operand} (h:o.op= .store T c x) (e:(Instr.storeAt T (a.eval c) (a.eval x)).run P w= .ok () w') (d:next (a.put o.dst undef) w'):Oper.wp P o a w next Q:=by
 unfold Oper.wp execOp;rw[h];simp only[Sem.run_bind,Sem.run_pure,e,Result.andThen];exact d
theorem xM (w:World) (hG:GL w):Cs 4 #[] w (Rw w (.bool true)):=by
 have c7:=hst1;obtain⟨i0,a5,a6,a7,a8⟩:=iP5;have C0:=hiD (fun W=>(Qy l1 W));have C1:=hiD (fun W=>(Qy l2 W));have C2:=hiD (fun W=>(R1 0 4 W));have e0:rcA (rcOf l1)= .agg #[Vu 1,Vi 3,Vi 0,Vi 0,Vi 1,.complex .f64 0 0,Vi 0,Vi 0]:=rfl;have e1:rcA (rcOf l2)= .agg #[Vu 1,Vi 2,Vi 0,Vi 0,Vi 0,.complex .f64 0 0,Vi 0,Vi 0]:=rfl;have e2:rcA (rcMk 0 4)= .agg #[Vu 2,Vi 0,Vi 0,Vi 0,Vi 0,.complex .f64 0 0,Vi 0,Vi 4]:=rfl;have v1:evA l1= .agg #[Vi 3,Vi 0,Vi 0,Vi 1,.complex .f64 0 0]:=rfl;have v2:evA l2= .agg #[Vi 2,Vi 0,Vi 0,Vi 0,.complex .f64 0 0]:=rfl;rw[e0,v1]at C0;rw[e1,v2]at C1;rw[e2]at C2;have bn:∀w,(Instr.build 41 #[(0,.agg #[Vu 1,Vi 3,Vi 0,Vi 0,Vi 1,.complex .f64 0 0,Vi 0,Vi 0]),(1,.agg #[Vu 1,Vi 2,Vi 0,Vi 0,Vi 0,.complex .f64 0 0,Vi 0,Vi 0]),(2,.agg #[Vu 2,Vi 0,Vi 0,Vi 0,Vi 0,.complex .f64 0 0,Vi 0,Vi 4])]).run prog w= .ok (.agg #[Vu 1,Vi 3,Vi 0,Vi 0,Vi 1,.complex .f64 0 0,Vi 0,Vi 0,Vu 1,Vi 2,Vi 0,Vi 0,Vi 0,.complex .f64 0 0,Vi 0,Vi 0,Vu 2,Vi 0,Vi 0,Vi 0,Vi 0,.complex .f64 0 0,Vi 0,Vi 4]) w:=fun w=>run_build w _ _ _ (by kernel_rfl);obtain⟨bz,-⟩:=zero_of_info (P:=prog) (t:=41) (v:= .agg #[Vu 0,Vi 0,Vi 0,Vi 0,Vi 0,.complex .f64 0 0,Vi 0,Vi 0,Vu 0,Vi 0,Vi 0,Vi 0,Vi 0,.complex .f64 0 0,Vi 0,Vi 0,Vu 0,Vi 0,Vi 0,Vi 0,Vi 0,.complex .f64 0 0,Vi 0,Vi 0]) (n:=24) (by kernel_rfl);clear e0 e1 e2 v1 v2;go_enter func4,ntmps4;go_wp2_with fail;refine(C0.out _).mono ?_;rintro af w1 ⟨rfl,J⟩;go_wp2_with fail;refine(C1.out _).mono ?_;rintro af w2 ⟨rfl,a3⟩;go_wp2_with fail;refine(C2.out _).mono ?_;rintro af w3 ⟨rfl,b7⟩;dsimp only
 go_at_K
 go_step;go_step;go_simp
 go_at_K
 go_step;go_step;go_simp;have ab:=(J.trans (a3.mono J.size)).trans (b7.mono (jS J.size a3.size));have ai:=ab.alloc ab.size (.cells #[Vu 0,Vi 0,Vi 0,Vi 0,Vi 0,.complex .f64 0 0,Vi 0,Vi 0,Vu 0,Vi 0,Vi 0,Vi 0,Vi 0,.complex .f64 0 0,Vi 0,Vi 0,Vu 0,Vi 0,Vi 0,Vi 0,Vi 0,.complex .f64 0 0,Vi 0,Vi 0] 41);have za:=Holds.fresh w3 41 #[Vu 0,Vi 0,Vi 0,Vi 0,Vi 0,.complex .f64 0 0,Vi 0,Vi 0,Vu 0,Vi 0,Vi 0,Vi 0,Vi 0,.complex .f64 0 0,Vi 0,Vi 0,Vu 0,Vi 0,Vi 0,Vi 0,Vi 0,.complex .f64 0 0,Vi 0,Vi 0];have bm:w.1.size<=w3.1.size:=ab.size;generalize w3.1.size=U at*;generalize w3.alloc (.cells #[Vu 0,Vi 0,Vi 0,Vi 0,Vi 0,.complex .f64 0 0,Vi 0,Vi 0,Vu 0,Vi 0,Vi 0,Vi 0,Vi 0,.complex .f64 0 0,Vi 0,Vi 0,Vu 0,Vi 0,Vi 0,Vi 0,Vi 0,.complex .f64 0 0,Vi 0,Vi 0] 41)=V at*;obtain⟨X,av⟩:=xL (V.setRow U #[Vu 1,Vi 3,Vi 0,Vi 0,Vi 1,.complex .f64 0 0,Vi 0,Vi 0,Vu 1,Vi 2,Vi 0,Vi 0,Vi 0,.complex .f64 0 0,Vi 0,Vi 0,Vu 2,Vi 0,Vi 0,Vi 0,Vi 0,.complex .f64 0 0,Vi 0,Vi 4]);have d:Sem.run prog (storeVar 41 ⟨U,0,none⟩ (.agg #[Vu 1,Vi 3,Vi 0,Vi 0,Vi 1,.complex .f64 0 0,Vi 0,Vi 0,Vu 1,Vi 2,Vi 0,Vi 0,Vi 0,.complex .f64 0 0,Vi 0,Vi 0,Vu 2,Vi 0,Vi 0,Vi 0,Vi 0,.complex .f64 0 0,Vi 0,Vi 4])) V= .ok () X:=by rw[av];exact run_storeVar_row V U 41 41 #[Vu 0,Vi 0,Vi 0,Vi 0,Vi 0,.complex .f64 0 0,Vi 0,Vi 0,Vu 0,Vi 0,Vi 0,Vi 0,Vi 0,.complex .f64 0 0,Vi 0,Vi 0,Vu 0,Vi 0,Vi 0,Vi 0,Vi 0,.complex .f64 0 0,Vi 0,Vi 0] #[Vu 1,Vi 3,Vi 0,Vi 0,Vi 1,.complex .f64 0 0,Vi 0,Vi 0,Vu 1,Vi 2,Vi 0,Vi 0,Vi 0,.complex .f64 0 0,Vi 0,Vi 0,Vu 2,Vi 0,Vi 0,Vi 0,Vi 0,.complex .f64 0 0,Vi 0,Vi 4] za (by kernel_rfl) rfl (by kernel_rfl)
 have bf:Sem.run prog (Instr.storeAt 41 (Vp U 0) (.agg #[Vu 1,Vi 3,Vi 0,Vi 0,Vi 1,.complex .f64 0 0,Vi 0,Vi 0,Vu 1,Vi 2,Vi 0,Vi 0,Vi 0,.complex .f64 0 0,Vi 0,Vi 0,Vu 2,Vi 0,Vi 0,Vi 0,Vi 0,.complex .f64 0 0,Vi 0,Vi 4])) V= .ok () X:=by
  simp only[Instr.storeAt,Instr.sureAddr,Sem.run_bind,Sem.run_pure,Result.andThen];exact d
 go_at_K
 go_step;go_step;refine KC rfl bf ?_;have hT:V.grownBy X (some U):=by
  rw[av];exact⟨rfl,rfl,rfl,by simp[World.setRow],fun c8 hk a4=>by
   simp only[World.setRow,Array.getElem?_modify];rw[if_neg (fun e=>a4 (by rw[e]))]⟩
 have z5:Holds X U 41 #[Vu 1,Vi 3,Vi 0,Vi 0,Vi 1,.complex .f64 0 0,Vi 0,Vi 0,Vu 1,Vi 2,Vi 0,Vi 0,Vi 0,.complex .f64 0 0,Vi 0,Vi 0,Vu 2,Vi 0,Vi 0,Vi 0,Vi 0,.complex .f64 0 0,Vi 0,Vi 4]:=by
  have h':V.1[U]?=some (.cells #[Vu 0,Vi 0,Vi 0,Vi 0,Vi 0,.complex .f64 0 0,Vi 0,Vi 0,Vu 0,Vi 0,Vi 0,Vi 0,Vi 0,.complex .f64 0 0,Vi 0,Vi 0,Vu 0,Vi 0,Vi 0,Vi 0,Vi 0,.complex .f64 0 0,Vi 0,Vi 0] 41 (0,0)):=za;rw[av];show (V.setRow U _).1[U]?=_;simp only[World.setRow,Array.getElem?_modify,if_true,h',Option.map_some]
 have b8:Bz w X:=ai.grown hT ai.size (fun af e=>by cases e;exact bm);clear d bf av hT za J a3 b7 ab ai C0 C1 C2 bn bz;simp only[Act.put]
 go_at_K
 go_wp2_with fail;generalize Value.agg #[Vu 1,Vi 3,Vi 0,Vi 0,Vi 1,.complex .f64 0 0,Vi 0,Vi 0,Vu 1,Vi 2,Vi 0,Vi 0,Vi 0,.complex .f64 0 0,Vi 0,Vi 0,Vu 2,Vi 0,Vi 0,Vi 0,Vi 0,.complex .f64 0 0,Vi 0,Vi 4]=AA;go_loopw [1,3] (fun x1 x3 wr=>∃i:Nat,i<=3∧x3=Vi i∧wr.ownsRow w.1.size 5 1 x1 (lPre i).length ((lPre i).map (Value.int .u8))∧Holds wr U 41 #[Vu 1,Vi 3,Vi 0,Vi 0,Vi 1,.complex .f64 0 0,Vi 0,Vi 0,Vu 1,Vi 2,Vi 0,Vi 0,Vi 0,.complex .f64 0 0,Vi 0,Vi 0,Vu 2,Vi 0,Vi 0,Vi 0,Vi 0,.complex .f64 0 0,Vi 0,Vi 4]∧Bz w wr) (fun _ x3 _=>3-(intOf x3).toNat);case atStart=>exact⟨0,by decide,rfl,js _ _ _ _,z5,b8⟩
 case round=>
  obtain⟨i,hi,rfl,d,j,H⟩:=hrel;clear z5 b8;rcases(show i=0∨i=1∨i=2∨i=3 by omega)with rfl|rfl|rfl|rfl
  ·obtain⟨x,y,A,C,M,S,k6,k7,-⟩:=j.g8;have zs:=j.size;have r:=LH 0 (by decide) wr;rw[show rcA (lR 0)= .agg #[Vu 1,Vi 3,Vi 0,Vi 0,Vi 1,.complex .f64 0 0,Vi 0,Vi 0]from by kernel_rfl,show lK 0=20 from by kernel_rfl]at r;have HZ:=hiD j;obtain⟨N,q,b6⟩:∃N,(lPre 0).length=N∧N<=100:=⟨_,rfl,by rw[show (lPre 0).length=0 from by kernel_rfl];decide⟩;rw[q]at d;have ac:=hiD q;clear q;obtain⟨O,R,rfl⟩:=qh d;clear j;go_wp2_with fail;refine r.mono ?_;rintro af L ⟨v,rfl,k,s⟩;obtain⟨g,T,rfl⟩:∃g c,v= .slice (some ⟨g,0,none⟩) 20 c:=by
    rcases k.2 with⟨_,n⟩|⟨g,ao,ae,e,_⟩
    ·exact absurd n (by decide)
    ·exact⟨_,_,e⟩
   have a0:=HZ.out.later s;have ag:L.ownsRow w.1.size 5 1 (.slice O N R) N ((lPre 0).map (Value.int .u8)):=yx d (qg.below' (D:=fun _=>False) s) (fun _ _ h=>h);have a4:(Value.slice (some ⟨g,0,none⟩) 20 T).ownBlock≠(Value.slice O N R).ownBlock:=fun e=>by
    rcases B:(Value.slice O N R).ownBlock with _|b
    ·rw[B]at e;cases e
    ·obtain⟨cs,ax,hc⟩:=qP d B;have h1:=(jA.1 hc).1;rw[B]at e;have h2:=qE k b e;omega
   have o:=H.trans (s.mono H.size);have HV:=hiD k;have F:=hiD ag;have ad:=hiD a0;have I:w.1.size<=(L.alloc (.cells #[Vu 20] 5)).1.size:=by have:=o.size;simp;omega
   clear k d ag a0 r HZ x y A C M S k6 k7;go_wp2_with (at_builtin;refine wpList_append_own_at _ rfl (.tmp 33) (.tmp 37) 33 rfl w.1.size 5 i0 (Vu 0) 1 1 underlying33 a5 a6 a7 a8 rfl (by decide) (.slice O N R) N _ rfl (F.out.alloc _) ⟨L.1.size,0,none⟩ 1 1 [Vu 20] rfl rfl ?c1 ?c2 ?c3 ?c4 I ?_);case c1=>exact qR L [Vu 20] 5
   case c2=>
    intro u Q;simp only[jI,jH,or_false]at Q;subst Q;rfl
   case c3=>unfold maxLen;omega
   case c4=>omega
   intro v2 w7 l a _ _;obtain⟨g2,c2,rfl⟩:=qh l;have a1:=yb (ad.out.alloc (.cells #[Vu 20] 5)) (F.out.alloc _) a (by decide);have am:w7.ownsRow wr.1.size 5 1 (.slice (some ⟨g,0,none⟩) 20 T) 20 ((lB 0).map (Value.int .u8)):=(HV.out.alloc _).kept a (.inr a4);have aj:Below w.1.size L w7:=((Below.refl w.1.size L).alloc o.size (.cells #[Vu 20] 5)).grown a I (fun b B=>qE F.out b B);have z:=o.trans aj;obtain⟨a',c',e',ap,-,K⟩:=yL am (by decide);cases e';have Z:=hiD K.news;have E:=hiD l;have ak:=z.size;clear am K l a aj I;go_wp2_with (at_builtin;refine wpList_append_own_at _ rfl (.tmp 38) (.tmp 39) 33 rfl w.1.size 5 i0 (Vu 0) 1 1 underlying33 a5 a6 a7 a8 rfl (by decide) (.slice g2 (N+1) c2) (N+1) _ rfl E.out ⟨g,0,none⟩ 20 T ((lB 0).map (Value.int .u8)) rfl ?d0 Z.out ?d1 ?d2 ?d3 ak ?_);case d0=>rfl
   case d1=>intro u Q;obtain⟨bi,_,rfl⟩:=List.mem_map.1 Q;rfl
   case d2=>unfold maxLen;omega
   case d3=>omega
   intro v3 w8 m f _ _;obtain⟨g3,c3,rfl⟩:=qh m;have a2:=yb a1 E.out f (by decide);have ah:=z.grown f ak (fun b B=>qE E.out b B);have al:w8.ownsRow w.1.size 5 1 (.slice g3 (N+1+20) c3) (lPre 1).length ((lPre 1).map (Value.int .u8)):=by
    rw[show (lPre 1).length=N+1+20 from by rw[<-ac.out];kernel_rfl,show (lPre 1).map (Value.int .u8)=((lPre 0).map (Value.int .u8)++[Vu 20])++(lB 0).map (Value.int .u8)from by kernel_rfl];exact m
   have aa:=hiD (⟨al,a2,ah⟩:_∧_∧_);clear m f al a2 ah a1 z o H;go_wp2_with fail;go_roundw;case rel=>exact⟨1,by decide,rfl,aa.out⟩
   case measure=>simp[intOf]
  ·have x:=j.cell 8;have y:=j.cell 9;have A:=j.cell 10;have C:=j.cell 11;have M:=j.cell 12;have S:=j.cell 13;have k6:=j.cell 14;have k7:=j.cell 15;simp at x y A C M S k6 k7;have zs:=j.size;have r:=LH 1 (by decide) wr;rw[show rcA (lR 1)= .agg #[Vu 1,Vi 2,Vi 0,Vi 0,Vi 0,.complex .f64 0 0,Vi 0,Vi 0]from by kernel_rfl,show lK 1=20 from by kernel_rfl]at r;have HZ:=hiD j;obtain⟨N,q,b6⟩:∃N,(lPre 1).length=N∧N<=100:=⟨_,rfl,by rw[show (lPre 1).length=21 from by kernel_rfl];decide⟩;rw[q]at d;have ac:=hiD q;clear q;obtain⟨O,R,rfl⟩:=qh d;clear j;go_wp2_with fail;refine r.mono ?_;rintro af L ⟨v,rfl,k,s⟩;obtain⟨g,T,rfl⟩:∃g c,v= .slice (some ⟨g,0,none⟩) 20 c:=by
    rcases k.2 with⟨_,n⟩|⟨g,ao,ae,e,_⟩
    ·exact absurd n (by decide)
    ·exact⟨_,_,e⟩
   have a0:=HZ.out.later s;have ag:L.ownsRow w.1.size 5 1 (.slice O N R) N ((lPre 1).map (Value.int .u8)):=yx d (qg.below' (D:=fun _=>False) s) (fun _ _ h=>h);have a4:(Value.slice (some ⟨g,0,none⟩) 20 T).ownBlock≠(Value.slice O N R).ownBlock:=fun e=>by
    rcases B:(Value.slice O N R).ownBlock with _|b
    ·rw[B]at e;cases e
    ·obtain⟨cs,ax,hc⟩:=qP d B;have h1:=(jA.1 hc).1;rw[B]at e;have h2:=qE k b e;omega
   have o:=H.trans (s.mono H.size);have HV:=hiD k;have F:=hiD ag;have ad:=hiD a0;have I:w.1.size<=(L.alloc (.cells #[Vu 20] 5)).1.size:=by have:=o.size;simp;omega
   clear k d ag a0 r HZ x y A C M S k6 k7;go_wp2_with (at_builtin;refine wpList_append_own_at _ rfl (.tmp 33) (.tmp 37) 33 rfl w.1.size 5 i0 (Vu 0) 1 1 underlying33 a5 a6 a7 a8 rfl (by decide) (.slice O N R) N _ rfl (F.out.alloc _) ⟨L.1.size,0,none⟩ 1 1 [Vu 20] rfl rfl ?c1 ?c2 ?c3 ?c4 I ?_);case c1=>exact qR L [Vu 20] 5
   case c2=>
    intro u Q;simp only[jI,jH,or_false]at Q;subst Q;rfl
   case c3=>unfold maxLen;omega
   case c4=>omega
   intro v2 w7 l a _ _;obtain⟨g2,c2,rfl⟩:=qh l;have a1:=yb (ad.out.alloc (.cells #[Vu 20] 5)) (F.out.alloc _) a (by decide);have am:w7.ownsRow wr.1.size 5 1 (.slice (some ⟨g,0,none⟩) 20 T) 20 ((lB 1).map (Value.int .u8)):=(HV.out.alloc _).kept a (.inr a4);have aj:Below w.1.size L w7:=((Below.refl w.1.size L).alloc o.size (.cells #[Vu 20] 5)).grown a I (fun b B=>qE F.out b B);have z:=o.trans aj;obtain⟨a',c',e',ap,-,K⟩:=yL am (by decide);cases e';have Z:=hiD K.news;have E:=hiD l;have ak:=z.size;clear am K l a aj I;go_wp2_with (at_builtin;refine wpList_append_own_at _ rfl (.tmp 38) (.tmp 39) 33 rfl w.1.size 5 i0 (Vu 0) 1 1 underlying33 a5 a6 a7 a8 rfl (by decide) (.slice g2 (N+1) c2) (N+1) _ rfl E.out ⟨g,0,none⟩ 20 T ((lB 1).map (Value.int .u8)) rfl ?d0 Z.out ?d1 ?d2 ?d3 ak ?_);case d0=>rfl
   case d1=>intro u Q;obtain⟨bi,_,rfl⟩:=List.mem_map.1 Q;rfl
   case d2=>unfold maxLen;omega
   case d3=>omega
   intro v3 w8 m f _ _;obtain⟨g3,c3,rfl⟩:=qh m;have a2:=yb a1 E.out f (by decide);have ah:=z.grown f ak (fun b B=>qE E.out b B);have al:w8.ownsRow w.1.size 5 1 (.slice g3 (N+1+20) c3) (lPre 2).length ((lPre 2).map (Value.int .u8)):=by
    rw[show (lPre 2).length=N+1+20 from by rw[<-ac.out];kernel_rfl,show (lPre 2).map (Value.int .u8)=((lPre 1).map (Value.int .u8)++[Vu 20])++(lB 1).map (Value.int .u8)from by kernel_rfl];exact m
   have aa:=hiD (⟨al,a2,ah⟩:_∧_∧_);clear m f al a2 ah a1 z o H;go_wp2_with fail;go_roundw;case rel=>exact⟨2,by decide,rfl,aa.out⟩
   case measure=>simp[intOf]
  ·have x:=j.cell 16;have y:=j.cell 17;have A:=j.cell 18;have C:=j.cell 19;have M:=j.cell 20;have S:=j.cell 21;have k6:=j.cell 22;have k7:=j.cell 23;simp at x y A C M S k6 k7;have zs:=j.size;have r:=LH 2 (by decide) wr;rw[show rcA (lR 2)= .agg #[Vu 2,Vi 0,Vi 0,Vi 0,Vi 0,.complex .f64 0 0,Vi 0,Vi 4]from by kernel_rfl,show lK 2=8 from by kernel_rfl]at r;have HZ:=hiD j;obtain⟨N,q,b6⟩:∃N,(lPre 2).length=N∧N<=100:=⟨_,rfl,by rw[show (lPre 2).length=42 from by kernel_rfl];decide⟩;rw[q]at d;have ac:=hiD q;clear q;obtain⟨O,R,rfl⟩:=qh d;clear j;go_wp2_with fail;refine r.mono ?_;rintro af L ⟨v,rfl,k,s⟩;obtain⟨g,T,rfl⟩:∃g c,v= .slice (some ⟨g,0,none⟩) 8 c:=by
    rcases k.2 with⟨_,n⟩|⟨g,ao,ae,e,_⟩
    ·exact absurd n (by decide)
    ·exact⟨_,_,e⟩
   have a0:=HZ.out.later s;have ag:L.ownsRow w.1.size 5 1 (.slice O N R) N ((lPre 2).map (Value.int .u8)):=yx d (qg.below' (D:=fun _=>False) s) (fun _ _ h=>h);have a4:(Value.slice (some ⟨g,0,none⟩) 8 T).ownBlock≠(Value.slice O N R).ownBlock:=fun e=>by
    rcases B:(Value.slice O N R).ownBlock with _|b
    ·rw[B]at e;cases e
    ·obtain⟨cs,ax,hc⟩:=qP d B;have h1:=(jA.1 hc).1;rw[B]at e;have h2:=qE k b e;omega
   have o:=H.trans (s.mono H.size);have HV:=hiD k;have F:=hiD ag;have ad:=hiD a0;have I:w.1.size<=(L.alloc (.cells #[Vu 8] 5)).1.size:=by have:=o.size;simp;omega
   clear k d ag a0 r HZ x y A C M S k6 k7;go_wp2_with (at_builtin;refine wpList_append_own_at _ rfl (.tmp 33) (.tmp 37) 33 rfl w.1.size 5 i0 (Vu 0) 1 1 underlying33 a5 a6 a7 a8 rfl (by decide) (.slice O N R) N _ rfl (F.out.alloc _) ⟨L.1.size,0,none⟩ 1 1 [Vu 8] rfl rfl ?c1 ?c2 ?c3 ?c4 I ?_);case c1=>exact qR L [Vu 8] 5
   case c2=>
    intro u Q;simp only[jI,jH,or_false]at Q;subst Q;rfl
   case c3=>unfold maxLen;omega
   case c4=>omega
   intro v2 w7 l a _ _;obtain⟨g2,c2,rfl⟩:=qh l;have a1:=yb (ad.out.alloc (.cells #[Vu 8] 5)) (F.out.alloc _) a (by decide);have am:w7.ownsRow wr.1.size 5 1 (.slice (some ⟨g,0,none⟩) 8 T) 8 ((lB 2).map (Value.int .u8)):=(HV.out.alloc _).kept a (.inr a4);have aj:Below w.1.size L w7:=((Below.refl w.1.size L).alloc o.size (.cells #[Vu 8] 5)).grown a I (fun b B=>qE F.out b B);have z:=o.trans aj;obtain⟨a',c',e',ap,-,K⟩:=yL am (by decide);cases e';have Z:=hiD K.news;have E:=hiD l;have ak:=z.size;clear am K l a aj I;go_wp2_with (at_builtin;refine wpList_append_own_at _ rfl (.tmp 38) (.tmp 39) 33 rfl w.1.size 5 i0 (Vu 0) 1 1 underlying33 a5 a6 a7 a8 rfl (by decide) (.slice g2 (N+1) c2) (N+1) _ rfl E.out ⟨g,0,none⟩ 8 T ((lB 2).map (Value.int .u8)) rfl ?d0 Z.out ?d1 ?d2 ?d3 ak ?_);case d0=>rfl
   case d1=>intro u Q;obtain⟨bi,_,rfl⟩:=List.mem_map.1 Q;rfl
   case d2=>unfold maxLen;omega
   case d3=>omega
   intro v3 w8 m f _ _;obtain⟨g3,c3,rfl⟩:=qh m;have a2:=yb a1 E.out f (by decide);have ah:=z.grown f ak (fun b B=>qE E.out b B);have al:w8.ownsRow w.1.size 5 1 (.slice g3 (N+1+8) c3) (lPre 3).length ((lPre 3).map (Value.int .u8)):=by
    rw[show (lPre 3).length=N+1+8 from by rw[<-ac.out];kernel_rfl,show (lPre 3).map (Value.int .u8)=((lPre 2).map (Value.int .u8)++[Vu 8])++(lB 2).map (Value.int .u8)from by kernel_rfl];exact m
   have aa:=hiD (⟨al,a2,ah⟩:_∧_∧_);clear m f al a2 ah a1 z o H;go_wp2_with fail;go_roundw;case rel=>exact⟨3,by decide,rfl,aa.out⟩
   case measure=>simp[intOf]
  ·have bd:(lPre 3).map (Value.int .u8)=lL.map (Value.int .u8):=by kernel_rfl
   rw[bd,show (lPre 3).length=51 from by kernel_rfl]at d;obtain⟨O,R,rfl,bs,bv,ba⟩:=yL d (by decide);have bo:51<=R:=by
    rcases d.2 with⟨_,n⟩|⟨g,ao,ae,e,_,_,br,_⟩
    ·exact absurd n (by decide)
    ·cases e;exact br
   have Z:=hiD ba;clear d bd bv bs j ba;have b5:lL.length=51:=by kernel_rfl
   have b1:(qx 0 lL).length=3:=by rw[Ia];rfl
   have CT:=hiD (fun (md:Int) (aq:md=1∨md=2) (u:Value) (Q:∃ua an uc,u= .slice ua an uc) (w0:Int) (W:World) (az:GL W) (hi:zA W .u8 O lL)=>
    (show Cs 11 #[.string ⟨lT.toArray⟩,.agg #[u,Vi w0,Vu md,Vi 3,Vi 9,Vi 1],.slice O 51 R] W fun e w'=>∃v an,e= .returned (.tuple #[v,Vi 0,Vi 0])∧w'.ownsRow W.1.size 5 1 v an ((Du lM).map (Value.int .u8))∧Bz W w' from by
     have h:=R8 ⟨lT.toArray⟩ (by decide) 0 (lC md) (by rw[show (⟨lT.toArray⟩:ByteArray).data.toList=lT from rfl];exact SL) w0 lL (by decide) (by rw[b1];decide) (lE md) lN lR (lif_run md aq) (fun aw hj=>by
      rw[b1]at hj;rcases(show aw=0∨aw=1∨aw=2∨aw=3 by omega)with rfl|rfl|rfl|rfl
      ·exact jg _
      ·rcases aq with rfl|rfl
       ·rw[show (outsN (lE 1) lN lR 1).length=0 from by kernel_rfl];decide
       ·rw[show (outsN (lE 2) lN lR 1).length=0 from by kernel_rfl];decide
      ·rcases aq with rfl|rfl
       ·rw[show (outsN (lE 1) lN lR 2).length=0 from by kernel_rfl];decide
       ·rw[show (outsN (lE 2) lN lR 2).length=1 from by kernel_rfl];decide
      ·rw[Nj md aq];decide) lM Ut (by rw[b1];exact Nj md aq) u Q O R (by rw[b5];exact bo) W az hi
     rw[b5]at h;exact h))
   have CN:=hiD (fun (c:Cf) (u:Value) (Q:∃ua an uc,u= .slice ua an uc) (sv:Value) (W:World) (az:GL W)=>I9 ⟨lT'.toArray⟩ (by decide) 12 90 ⟨[],0⟩ (by rw[show (⟨lT'.toArray⟩:ByteArray).data.toList=lT' from rfl];exact Pw) (by decide) c u Q sv W az);have ay:=hiD (fun W (B:Below wr.1.size wr W)=>(⟨Z.out.1,Z.out.2.imp id (fun ⟨b,bh,ea,h⟩=>⟨b,bh,ea,fun i hi=>qd B nLe (h i hi)⟩)⟩:zA W .u8 O lL));have HG:=hiD (fun W (B:Bz w W)=>hG.mono B);clear hG;have J:=(Below.refl wr.1.size wr).alloc nLe (.cells #[.slice none 0 0,Vi 0,Vu 1,Vi 3,Vi 9,Vi 1] 45);have zc:=Holds.fresh wr 45 #[.slice none 0 0,Vi 0,Vu 1,Vi 3,Vi 9,Vi 1];have b9:w.1.size<=wr.1.size:=H.size;go_wp2_with fail;generalize wr.alloc (.cells #[.slice none 0 0,Vi 0,Vu 1,Vi 3,Vi 9,Vi 1] 45)=W1 at*;have b2:=H.trans (J.mono b9);have c6:=zc.size;refine(CT.out 1 (.inl rfl) (.slice none 0 0) ⟨_,_,_,rfl⟩ 0 W1 (HG.out W1 b2) (ay.out W1 J)).mono ?_;rintro af w2 ⟨v1,n1,rfl,ar,a3⟩;have bt:n1=44:=by
    have:=ar.1;rw[List.length_map,Cx]at this;omega
   subst bt;obtain⟨g1,c1,rfl⟩:∃g c,v1= .slice (some ⟨g,0,none⟩) 44 c:=by
    rcases ar.2 with⟨_,n⟩|⟨g,ao,ae,e,_⟩
    ·exact absurd n (by decide)
    ·exact⟨_,_,e⟩
   have a9:=zc.later a3;have bg:=b2.trans (a3.mono b2.size);have be:=J.trans (a3.mono J.size);obtain⟨x,y,A,C,M,S,-⟩:=a9.g6;have b':=a9.free;have c0:=a9.size;clear zc J;generalize wr.1.size=cb at*;go_wp2_with fail;have hT:w2.grownBy (w2.setCell ⟨cb,2,none⟩ (Vu 2)) (some cb):=vN cb 2 w2 _;have bk:Holds (w2.setCell ⟨cb,2,none⟩ (Vu 2)) cb 45 #[.slice none 0 0,Vi 0,Vu 2,Vi 3,Vi 9,Vi 1]:=by
    have bj:=a9.set 2 (Vu 2);simp only[jC,jK,jL]at bj;exact bj
   have bb:=ar.kept hT (.inr (fun e=>by
    cases e;obtain⟨cs,ax,hc⟩:=qP ar rfl;exact zV a9 (by decide) cs ax hc))
   have b3:=bg.setCell (p:=⟨cb,2,none⟩) b9 (Vu 2);have bw:=be.setCell (p:=⟨cb,2,none⟩) nLe (Vu 2);clear a9 ar bg be x y A C M S b' c0 hT;generalize w2.setCell ⟨cb,2,none⟩ (Vu 2)=w3 at*;refine(CT.out 2 (.inr rfl) (.slice none 0 0) ⟨_,_,_,rfl⟩ 0 w3 (HG.out w3 b3) (ay.out w3 bw)).mono ?_;rintro af V ⟨v2,n2,rfl,au,ab⟩;have bu:n2=44:=by
    have:=au.1;rw[List.length_map,Cx]at this;omega
   subst bu;obtain⟨g2,c2,rfl⟩:∃g c,v2= .slice (some ⟨g,0,none⟩) 44 c:=by
    rcases au.2 with⟨_,n⟩|⟨g,ao,ae,e,_⟩
    ·exact absurd n (by decide)
    ·exact⟨_,_,e⟩
   have bl:=bk.later ab;have b4:=b3.trans (ab.mono b3.size);have bc:=yx bb (qg.below' (D:=fun _=>False) ab) (fun _ _ h=>h);obtain⟨x,y,A,C,M,S,-⟩:=bl.g6;clear bk bb ab;go_wp2_with fail;refine(CN.out ⟨⟨[],0⟩,2,3,9,1⟩ (.slice none 0 0) ⟨_,_,_,rfl⟩ _ V (HG.out V b4)).mono ?_;rintro af X ⟨rfl,ai⟩;have bx:=b4.trans (ai.mono b4.size);have h1:=yx bc (qg.below' (D:=fun _=>False) ai) (fun _ _ h=>h);have h2:=yx au (qg.below' (D:=fun _=>False) ai) (fun _ _ h=>h);have b0:∀(n0 g c:Nat),X.ownsRow n0 5 1 (.slice (some ⟨g,0,none⟩) 44 c) 44 ((Du lM).map (Value.int .u8))->(convert 33 9 (.slice (some ⟨g,0,none⟩) 44 c)).run prog X= .ok (.string (strOfNums (Du lM))) X:=by
    intro n0 g c ho;obtain⟨a',c',e',ap,-,K⟩:=yL ho (by decide);cases e';rcases K.2 with h|⟨b,bh,e,hc⟩
    ·rw[h]at ap;exact absurd ap (by decide)
    ·cases e;exact run_convert_bytes_arg (P:=prog) (w:=X) 33 5 underlying33 underlying5 g 0 44 c (Du lM) Cx (fun i hi=>hc i (by rw[Cx];exact hi)) 9 underlying9
   have bp:=b0 _ _ _ h1;have bq:=b0 _ _ _ h2;generalize strOfNums (Du lM)=c5 at bp bq;clear b0 h1 h2 au bc ai bl x y A C M S CT CN ay HG Z;go_wp2_with fail;go_ret;exact⟨rfl,bx⟩
theorem IX (s:ByteArray) (d:3000<s.size) (e:s.size<=140737488351232) (w:World) (c:GL w):
  Cs 3 #[.string s] w (Rw w (Vb true)):=by
 have C:=hiD (fun W (a:Bz w W)=>xM W (c.mono a));go_enter func3,ntmps3;go_wp2_with fail;refine(C.out w bRf).mono ?_;rintro r b ⟨rfl,a⟩;go_wp2_with fail;go_ret;exact⟨rfl,a⟩
theorem Mn (s:ByteArray) (L:s.size<=3000) (p:Pt) (n E:Int) (F:zg s.data.toList=(p,n,E)) (I:E≠0) (w:World) (H:GL w):
  Cs 3 #[.string s] w (Rw w (Vb true)):=by
 have C:=hiD (fun W (K:Bz w W)=>xM W (H.mono K));have q:=hiD (show Cs 5 #[.string s] w fun e w'=>∃v,e=Rt (.tuple #[v,Vi n,Vi E])∧PatV w' v p∧Bz w w' from(Ap s (by omega) w H).mono (fun e w' J=>by
  unfold R9P at J;rw[F]at J;exact J))
 have g:=OC s.data.toList;rw[F]at g;have b:=Rh F I;simp only at g;obtain⟨l,m⟩:=g;have o:(s.data.toList.length:Int)=s.size:=by rw[Array.length_toList];rfl
 have i:n<=s.size:=by omega
 clear F m o H;obtain⟨M,A⟩:=p;simp only at b;subst b;have x:(E !=0)=true:=by simpa using I
 have t:(E==0)=false:=by simpa using I
 have y:decide (0<=n)=true:=by simpa using l
 have z:decide (n<=(s.size:Int))=true:=by simpa using i
 go_enter func3,ntmps3;go_wp2_with fail;refine q.out.mono ?_;rintro r B ⟨v,rfl,⟨u,rfl,j⟩,f⟩;obtain⟨a,c,rfl,_⟩:=j.form;simp only[jO];clear j q;go_wp2_with fail;have d:=f.alloc f.size (Oc #[Sq a 0 c,Vi A] 25);refine(C.out _ d).mono ?_;rintro r D ⟨rfl,h⟩;have k:=d.trans (h.mono d.size);clear f d h;go_wp2_with fail;go_ret;exact⟨rfl,k⟩
theorem Hm (s:ByteArray) (i:s.size<=140737488351232) (p:Pt) (a c:Int) (g:zg s.data.toList=(p,a,c)) (W:World) (f:GL W):
  Cs 5 #[.string s] W fun e w'=>∃v,e=Rt (.tuple #[v,Vi a,Vi c])∧PatV w' v p∧Bz W w':=(Ap s i W f).mono (fun e w' d=>by
 unfold R9P at d;rw[g]at d;exact d)
theorem KM (s:ByteArray) (P:s.size<=3000) (p:Pt) (K:Int) (J:zg s.data.toList=(p,K,0)) (M:¬(patT p).length<=2000) (w:World) (H:GL w) (L:GP w):
  Cs 3 #[.string s] w (Rw w (Vb true)):=by
 have C:=hiD (fun W (I:Bz w W)=>xM W (H.mono I));have m:=hiD (Hm s (by omega) p K 0 J w H);obtain⟨rfl,o,x,B,y,z⟩:=JI J;have l:bnd p.2:=by have:=(vR o).2.2.1;unfold bnd;omega
 have i:=hiD (fun v W (I:Bz w W) O=>FX p y l z v W O (L.mono I));rw[FY o x M]at i;rw[show sV []= .string ⟨#[]⟩from rfl]at i;simp only at i;clear J H L o x B y z M l;obtain⟨F,t⟩:=p
 try simp only at m i
 go_enter func3,ntmps3;go_wp2_with fail;refine m.out.mono ?_;rintro r A ⟨v,rfl,⟨u,rfl,e⟩,h⟩;obtain⟨a,c,rfl,_⟩:=e.form
 try simp only at e⊢
 have b:=h.alloc h.size (Oc #[Sq a F.length c,Vi t] 25);have f:=e.mono ((Below.refl A.1.size A).alloc nLe (Oc #[Sq a F.length c,Vi t] 25)) nLe;have g:=hiD (i.out (.agg #[Sq a F.length c,Vi t]) _ b ⟨_,rfl,f⟩);clear e f m i;obtain⟨n,N⟩:=xR F.length;rw[N]at g b⊢;clear N;go_wp2_with fail;refine g.out.mono ?_;rintro r D ⟨rfl,j⟩;have d:=b.trans (j.mono b.size);clear g h b j;go_wp2_with fail;refine(C.out _ d).mono ?_;rintro r E ⟨rfl,k⟩;have q:=d.trans (k.mono d.size);clear d k;go_wp2_with fail;go_ret;exact⟨rfl,q⟩
theorem Oo (s:ByteArray) (hs:s.size<=3000) (p:Pt) (N:Int) (y:zg s.data.toList=(p,N,0)) (u:(patT p).length<=2000) (w:World) (t:GL w) (hG:GP w):
  Cs 3 #[.string s] w (Rw w (Vb true)):=by
 have a4:=hiD (fun W (L:Bz w W)=>xM W (t.mono L));have V:=hiD (Hm s (by omega) p N 0 y w t);obtain⟨rfl,J,K,Z,h4,h5⟩:=JI y;have O:bnd p.2:=by have:=(vR J).2.2.1;unfold bnd;omega
 obtain⟨A,U⟩:∃A:ByteArray,A=⟨(patT p).toArray⟩:=⟨_,rfl⟩;have aa:A.size<=2000:=by rw[U];simpa[ByteArray.size]using u
 have S:=hiD (show ∀v W,Bz w W->PatV W v p->Cs 6 #[v] W fun a8 w'=>a8=Rt (.tuple #[.string A,Vi 0])∧Bz W w' from fun v W L hv=>by
  have:=FX p h4 O h5 v W hv (hG.mono L);rw[Hh J K u]at this;rw[U];exact this)
 have X:=hiD (fun W (L:Bz w W)=>Hm A (by omega) p 0 0 (by rw[U];exact MY J Z K u) W (t.mono L));have T:=hiD (fun vp vq W J K=>RY p p vp vq W J K);simp only[decide_true]at T;clear y t hG J K Z h4 h5 u O U;obtain⟨e,I⟩:=p
 try simp only at V S X T
 go_enter func3,ntmps3;go_wp2_with fail;refine V.out.mono ?_;rintro r P ⟨v,rfl,⟨a9,rfl,q⟩,E⟩;obtain⟨a,c,rfl,_⟩:=q.form
 try simp only at q⊢
 have h:=E.alloc E.size (Oc #[Sq a e.length c,Vi I] 25);have b:=(Below.refl P.1.size P).alloc nLe (Oc #[Sq a e.length c,Vi I] 25);have f:=q.mono b nLe;have M:=Holds.fresh P 25 #[Sq a e.length c,Vi I];have HN:=hiD (rfl:e.length=e.length);obtain⟨n,x⟩:∃n,e.length=n:=⟨_,rfl⟩;rw[x]at h f M⊢;have a7:=hiD x;clear q V b HN x;go_wp2_with fail;generalize a6:P.1.size=pb at*;generalize P.alloc (Oc #[Sq a n c,Vi I] 25)=W1 at*;refine(S.out _ W1 h ⟨_,rfl,f⟩).mono ?_;rintro r w2 ⟨rfl,j⟩;have k:=h.trans (j.mono h.size);have z2:=M.later j;have a3:=f.mono j nLe;clear E h j a6 M f;go_wp2_with fail;refine(X.out w2 k).mono ?_;rintro r Q ⟨v,rfl,⟨a9,rfl,o⟩,l⟩;obtain⟨z,C,rfl,_⟩:=o.form;simp only[a7.out]at o⊢;have F:=k.trans (l.mono k.size);have b:=(Below.refl Q.1.size Q).alloc nLe (Oc #[Sq z n C,Vi I] 25);have m:=F.trans (b.mono F.size);have z3:=(z2.later l).later b;have B:=(a3.mono l nLe).mono b nLe;have i:=o.mono b nLe;have zq:=Holds.fresh Q 25 #[Sq z n C,Vi I];clear k l F b z2 a3 o X;go_wp2_with fail;generalize Q.1.size=qb at*;generalize Q.alloc (Oc #[Sq z n C,Vi I] 25)=W3 at*;refine(S.out _ W3 m ⟨_,rfl,i⟩).mono ?_;rintro r w4 ⟨rfl,g⟩;have H:=m.trans (g.mono m.size);have z4:=z3.later g;have R:=zq.later g;have D:=B.mono g nLe;have a2:=i.mono g nLe;obtain⟨c0,c1,-⟩:=z4.g2;obtain⟨d0,d1,-⟩:=R.g2;clear m g z3 zq B i S;go_wp2_with fail;refine(T.out _ _ w4 ⟨_,rfl,D⟩ ⟨_,rfl,a2⟩).mono ?_;rintro r w5 ⟨rfl,a0⟩;have d:=H.trans (a0.mono H.size);clear H a0 T D a2 c0 c1 d0 d1 z4 R;go_wp2_with fail;refine(a4.out _ d).mono ?_;rintro r w6 ⟨rfl,a1⟩;have a5:=d.trans (a1.mono d.size);clear d a1;go_wp2_with fail;go_ret;exact⟨rfl,a5⟩
theorem KK (s:ByteArray) (w:World) (g:s.size<=140737488351232) (d:GL w∧GP w):
  Cs 3 #[.string s] w (Rw w (Vb true)):=by
 by_cases f:3000<s.size
 ·exact IX s f g w d.1
 ·rcases hp:zg s.data.toList with⟨p,a,c⟩;by_cases b:c=0
  ·subst b;by_cases e:(patT p).length<=2000
   ·exact Oo s (by omega) p a hp e w d.1 d.2
   ·exact KM s (by omega) p a hp e w d.1 d.2
  ·exact Mn s (by omega) p a c hp b w d.1
end
end Go.Proofs.YtnmpcdnbklmhkaaGreatDoor
