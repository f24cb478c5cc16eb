import Derived.Test.YtnmpcdnbklmhkaaGreatDoorQBd
import Derived.Test.YtnmpcdnbklmhkaaGreatDoorQBc
import Derived.Test.YtnmpcdnbklmhkaaGreatDoorQAh
import Derived.Test.YtnmpcdnbklmhkaaGreatDoorQAp
namespace Go.Proofs.YtnmpcdnbklmhkaaGreatDoor
open Go.Proofs.Tryz Go.RowKit
set_option maxRecDepth 100000
set_option linter.all false
set_option maxHeartbeats 8000000
section
attribute [local go_sem] Oper.semAt_some
attribute [local go_sem ↓] Go.wp_at_zero Go.wp_at_succ
theorem qj.less {c d k E:Nat} {α:Type} {R:α->List Value->World->Prop} {W:World} {v:Value} {l:List α} (h:qj k c E R W v l) (f:d<=c):qj k d E R W v l:=by
 obtain⟨g,e,b,a⟩:=h;exact⟨g,e,yV b f,a⟩
theorem LW:En0 246:=enters_of func246 rfl rfl
theorem D8 (v:Value) (l:List Mt):Kept (fun W=>qv 2 127 mtR W v l):=qv.kept mtR.kept _ _
theorem At (l E:List Mt) (P:∀m∈l,m.row.length<=1000000∧m.2.length<=1000000) (O:l.length<=1000000) (K F:Value) (w:World) (H:qv 2 127 mtR w K l) (I:qv 2 127 mtR w F E):
  Cs 192 #[K,F] w fun x w'=>∃v,x=Rt v∧qj 2 w.1.size 127 mtR w' v (FN l E)∧Bz w w':=by
 have d:FN l E=l.filter fun x=>!hasM E x:=rfl;rw[d];have b:=bA w (Oc #[F] 115);have L:=Holds.fresh w 115 #[F];have j:=hiD (F8 (fun x=>hasM E x) 246 #[Vp w.1.size 0] LW l P O K _ (qD H b)
  (fun q o m s r e f=>F9 E m F r e w.1.size q (D8 _ _ _ _ (qD I b) o) (L.keepsN o (fun h=>h)) f))
 obtain⟨B,u,rfl,_⟩:=H.form;obtain⟨M,N,rfl,_⟩:=I.form;have i:∃a n c,Value.slice M E.length N=Sq a n c:=⟨_,_,_,rfl⟩;clear H I L d;go_enter func192,ntmps192;go_wp2_with fail;refine(Ic _ _ i).mono ?_;rintro x t ⟨rfl,rfl⟩;go_wp2_with fail;refine j.out.mono ?_;rintro x D ⟨C,y,rfl,k,J,g⟩;obtain⟨Q,z,rfl⟩:=qh k.row.choose_spec;obtain⟨R,A,rfl⟩:=qh J.row.choose_spec;have p:=hiD J;clear k J j;go_wp2_with fail;go_ret;exact⟨_,rfl,p.out.less (by simp),b.trans (g.mono b.size)⟩
theorem Nn (l n:List Mt) (E:∀m∈l,m.row.length<=1000000∧m.2.length<=1000000) (C:l.length<=1000000) (F:∀m∈n,m.row.length<=1000000∧m.2.length<=1000000) (D:n.length<=1000000) (y z:Value) (w:World) (t:qv 2 127 mtR w y l) (u:qv 2 127 mtR w z n):
  Cs 294 #[y,z] w fun x w'=>∃c d,x=Rt (.tuple #[c,d])∧qj 2 w.1.size 127 mtR w' c (FN l n)∧qj 2 w.1.size 127 mtR w' d (FN n l)∧Bz w w':=by
 have h:=hiD (At l n E C y z w t u);have g:=hiD (fun A (B:Bz w A)=>At n l F D z y A (qD u B) (qD t B));obtain⟨r,o,rfl,_⟩:=t.form;obtain⟨H,I,rfl,_⟩:=u.form;clear t u;go_enter func294,ntmps294;go_wp2_with fail;refine h.out.mono ?_;rintro x k ⟨c,rfl,f,a⟩;obtain⟨J,p,rfl⟩:=qh f.row.choose_spec;have i:=hiD f;clear f h;go_wp2_with fail;refine(g.out _ a).mono ?_;rintro x s ⟨d,rfl,e,b⟩;obtain⟨K,q,rfl⟩:=qh e.row.choose_spec;have j:=hiD e;clear e g;go_wp2_with fail;go_ret2;exact⟨_,_,rfl,(qj.kept mtR.kept _ _).later i.out b,j.out.less a.size,a.trans (b.mono a.size)⟩
theorem It:En0 332:=enters_of func332 rfl rfl
theorem Jd {p:Pt} (R:PtOk p) (m:Mt) (N:0<m.2.length) (L:Int) (u r e:Value) (Q K:Nat) (w:World) (O:Holds w Q 25 #[u,Vi p.2]) (J:qN w u p.1) (P:Holds w K 3 #[Vi L]) (I:MtV w r e m):
  Cs 332 #[.agg #[r,e],Vp Q 0,Vp K 0] w fun x w'=>x=Rt (Vb (decide (yH p m<L)))∧Bz w w':=by
 obtain⟨B,q,rfl,l,j⟩:=J.form;obtain⟨n,E,rfl,_⟩:=I.1.form;obtain⟨D,F,rfl,_⟩:=I.2.form;have a:=bA w (Oc #[Sq n m.row.length E,Sq D m.2.length F] 127);have z:=Holds.fresh w 127 #[Sq n m.row.length E,Sq D m.2.length F];obtain⟨c,f⟩:=xR (w.alloc (Oc #[Sq n m.row.length E,Sq D m.2.length F] 127));rw[f]at a z;obtain⟨y,b⟩:∃x,yH p m=x:=⟨_,rfl⟩;rw[b];have d:=J.mono a nLe;have k:=hiD (fun M (H:Bz c M)=>(AM R (.agg #[Sq B p.1.length q,Vi p.2]) (Sq n m.row.length E) (Sq D m.2.length F) m M ⟨_,rfl,d.mono H nLe⟩ ((I.2.later a).later H).1 N).mono (fun e w' h=>(⟨by rw[h.1,b],H.trans (h.2.mono H.size)⟩:e=Rt (Vi y)∧Bz c w')));obtain⟨t,v,-⟩:=(O.later a).l2;obtain⟨A,s,-⟩:=z.l2;have o:∀u:Lat c,Cq u.v K 0 (Vi L):=fun u=>u.cell ((P.later a).cell 0);clear b J d I O P N;go_enter func332,ntmps332;go_wp2_with fail;clear f z;refine qz c (by kernel_rfl) (by kernel_rfl) bRf ?_
 repeat (go_big_quiet_step (first|with_reducible exact Lat.call k.out _))
 refine wpQuiet_nil ?_;rintro C ⟨⟨_,g⟩,rfl⟩;clear t v A s o k;have i:=a.trans (g.mono a.size);go_wp2_with fail;go_ret;exact⟨rfl,i⟩
theorem LI {p:Pt} (R:PtOk p) (l:List Mt) (K:∀m∈l,MtSm p m) (Q:l.length<=1000000) (n:Int) (v O:Value) (w:World) (S:PatV w v p) (L:qv 2 127 mtR w O l):
  Cs 300 #[v,O,Vi n] w fun e w'=>∃s j,e=Rt (.tuple #[s,j])∧qj 2 w.1.size 127 mtR w' s (Mc p l n)∧qj 2 w.1.size 127 mtR w' j (vY p l n)∧Bz w w':=by
 have F:=hmf1;have d:Mc p l n=l.filter fun m=>decide (yH p m<n):=rfl;have c:vY p l n=l.filter fun m=>!decide (yH p m<n):=by
  unfold vY;congr 1;funext m;rw[<-decide_not];simp
 rw[d,c];clear d c;obtain⟨u,rfl,N⟩:=S;obtain⟨t,g,rfl,A,z⟩:=N.form;obtain⟨V,W,rfl,B⟩:=L.form;have a:=(bA w (Oc #[Sq t p.1.length g,Vi p.2] 25)).alloc (by simp) (Oc #[Vi n] 3);have y:=(Holds.fresh w 25 #[Sq t p.1.length g,Vi p.2]).alloc (Oc #[Vi n] 3);have P:=Holds.fresh' (w:=w.alloc (Oc #[Sq t p.1.length g,Vi p.2] 25)) (b:=w.1.size+1) (by simp) 3 #[Vi n];have x:=hiD (F8 (fun m=>decide (yH p m<n)) 332 #[Vp w.1.size 0,Vp (w.1.size+1) 0] It l (fun m f=>⟨(K m f).row,(K m f).evl⟩) Q _ _ (qD L a)
  (fun C q m f r e i=>Jd R m (K m f).pos n _ r e w.1.size (w.1.size+1) C (y.keepsN q (fun h=>h)) (qN.kept _ _ _ _ (N.mono a nLe) q) (P.keepsN q (fun h=>h)) i))
 clear N L K y P;go_enter func300,ntmps300;go_wp2_with fail;refine x.out.mono ?_;rintro r H ⟨s,j,rfl,k,M,o⟩;obtain⟨T,I,rfl⟩:=qh k.row.choose_spec;obtain⟨U,J,rfl⟩:=qh M.row.choose_spec;have E:=hiD k;have D:=hiD M;clear k M x;go_wp2_with fail;go_ret2;exact⟨_,_,rfl,E.out.less a.size,D.out.less a.size,a.trans (o.mono a.size)⟩
theorem P7 {p:Pt} (E:PtOk p) (l:List Mt) (C:∀m∈l,MtSm p m) (D:l.length<=1000000) (B:Int) (v A:Value) (w:World) (F:PatV w v p) (n:qv 2 127 mtR w A l):
  Cs 265 #[v,A,Vi B] w fun e w'=>∃b,e=Rt b∧qj 2 w.1.size 127 mtR w' b (vY p l B)∧Bz w w':=by
 obtain⟨u,rfl,z⟩:=F;have a:=bA w (Oc #[u,Vi p.2] 25);have g:=hiD (LI E l C D B (.agg #[u,Vi p.2]) A _ ⟨_,rfl,z.mono a nLe⟩ (qD n a));obtain⟨t,o,rfl,i,d⟩:=z.form;obtain⟨J,K,rfl,j⟩:=n.form;clear z n C;go_enter func265,ntmps265;go_wp2_with fail;refine g.out.mono ?_;rintro r k ⟨x,b,rfl,f,y,c⟩;obtain⟨H,q,rfl⟩:=qh f.row.choose_spec;obtain⟨I,s,rfl⟩:=qh y.row.choose_spec;have h:=hiD y;clear f y g;go_wp2_with fail;go_ret;exact⟨_,rfl,h.out.less a.size,a.trans (c.mono a.size)⟩
def xK (a:List Mt) (x:Mt):List Mt:=if hasM a x=true then a else a++[x]
theorem addM_eq (p:Pt) (l a:List Mt):addM p l a=sortM p (a.foldl xK l):=rfl
theorem Qo (a:List Mt) (x:Mt):(xK a x).length<=a.length+1:=by
 unfold xK;split<;>simp
theorem Cp:∀(c l:List Mt),(c.foldl xK l).length<=l.length+c.length
 |[],l=>by simp
 |x::c,l=>by
   have b:=Cp c (xK l x);have a:=Qo l x;simp only[List.foldl_cons,jF];omega
theorem addFold_mem:∀(a l:List Mt) (m:Mt),m∈a.foldl xK l->m∈l∨m∈a
 |[],l,m,h=>.inl h
 |x::a,l,m,h=>by
   rcases addFold_mem a (xK l x) m h with h|h
   ·unfold xK at h;split at h
    ·exact .inl h
    ·rcases List.mem_append.1 h with h|h
     ·exact .inl h
     ·simp at h;subst h;exact .inr (by simp)
   ·exact .inr (List.mem_cons_of_mem _ h)
theorem RowV.recode {α β:Type} {k:Nat} {t:α->List Value} {n:β->List Value} {W:World} {v:Value} {l:List α} {L:List β} (h:RowV k t W v l) (z:L.map n=l.map t):RowV k n W v L:=by
 have r:L.length=l.length:=by simpa using congrArg List.length z
 obtain⟨a,c,rfl,p,f,q,e⟩:=h;refine⟨a,c,by rw[r],by rw[r];exact p,by rw[r];exact f,q,?_⟩;rcases e with e|⟨b,A,m,e⟩
 ·subst e;exact .inl (by simpa using r)
 ·refine .inr ⟨b,A,m,fun i y o j u g=>?_⟩;have d:(L.map n)[i]?=some (n y):=by rw[List.getElem?_map,o];rfl
  rw[z,List.getElem?_map]at d;cases s:l[i]? with
  |none=>rw[s]at d;cases d
  |some x=>
    rw[s]at d;simp at d;exact e i x s j u (by rw[d];exact g)
structure Mh where
 m:Mt
 ra:Option Addr
 rc:Nat
 ea:Option Addr
 ec:Nat
def mhV (y:Mh):List Value:=[Sq y.ra y.m.row.length y.rc,Sq y.ea y.m.2.length y.ec]
theorem mh_of {W:World}:∀(j:List El),(∀y∈j,mtR y.1 y.2.1 W)->∃L:List Mh,L.map mhV=j.map fun y=>y.2.1
 |[],_=>⟨[],rfl⟩
 |y::j,h=>by
   obtain⟨L,f⟩:=mh_of j (fun z k=>h z (by simp[k]));obtain⟨r,e,g,a⟩:=h y (by simp);obtain⟨b,i,rfl,_⟩:=a.1.form;obtain⟨d,c,rfl,_⟩:=a.2.form;exact⟨⟨y.1,b,i,d,c⟩::L,by simp[f,mhV,g]⟩
theorem Qb {w:World} {v:Value} {l:List Mt} (h:qv 2 127 mtR w v l) (q:l.length<=1000000):
  Cs 331 #[v] w fun e w'=>∃d,e=Rt d∧qj 2 w.1.size 127 mtR w' d l∧Bz w w':=by
 obtain⟨n,c,j,b⟩:=h;obtain⟨L,f⟩:=mh_of n b;have i:L.length=n.length:=by simpa using congrArg List.length f
 have g:n.length=l.length:=by rw[<-c];simp
 refine(U5 mhV (fun _=>rfl) (fun x u k=>by simp[mhV]at k;rcases k with rfl|rfl<;>rfl) v L w (j.1.recode f) (by omega)).mono ?_;rintro x w' ⟨d,rfl,a,m⟩;refine⟨d,rfl,⟨n,c,?_,fun y p=>(b y p).later m⟩,m⟩;rw[i,g]at a;have o:L.flatMap mhV=n.flatMap fun y=>y.2.1:=by
  rw[List.flatMap_def,List.flatMap_def,f]
 rwa [o]at a
def AJ (p:Pt) (l d:List Mt) (f:Option Addr) (g:Nat) (lv:Value) (j:Option Addr) (k:Nat) (w e:World) (cl:Value) (a:Act) (wr:World):Prop:=
 ∃(i:Nat) (all:Value),i<=d.length∧Bz e wr∧Hid (qj 2 e.1.size 127 mtR wr all ((d.take i).foldl xK l))∧(∃a n c,all=Sq a n c)∧∃u9 u12 u13 u14 u15 u16 u17 u18 u19 u20 u21 u22 u23 u24 u25 u26 u27 u28 u29 u30:Value,
  a={tmps:=#[.agg #[Sq f p.1.length g,Vi p.2],lv,Sq j d.length k,Vp w.1.size 0,undef,undef,Vn,all,Vi i,u9,lv,cl,u12,u13,u14,u15,u16,u17,u18,u19,u20,u21,u22,u23,u24,u25,u26,u27,u28,u29,u30,undef,undef,undef],defers:=[]}
theorem PG (p:Pt) (l d:List Mt) (b5:∀m∈l,MtSm p m) (b6:∀m∈d,MtSm p m) (bn:l.length+d.length<2) (v W mv:Value) (w:World) (hv:PatV w v p) (hl:qv 2 127 mtR w W l) (K:qv 2 127 mtR w mv d):
  Cs 299 #[v,W,mv] w fun x w'=>∃R,x=Rt R∧qj 2 w.1.size 127 mtR w' R (addM p l d)∧Bz w w':=by
 obtain⟨i0,bk,bq,br,bs⟩:=Vv;obtain⟨bv,rfl,hs⟩:=hv;obtain⟨C,c1,rfl,b',c7⟩:=hs.form;obtain⟨la,lc,rfl,bl⟩:=hl.form;obtain⟨ma,mc,rfl,c0⟩:=K.form;rw[addM_eq];have b3:=Cp d l;have az:∀m∈d.foldl xK l,MtSm p m:=fun m K=>(addFold_mem d l m K).elim (b5 m) (b6 m);have ai:=bA w (Oc #[Sq C p.1.length c1,Vi p.2] 25);have zp:=Holds.fresh w 25 #[Sq C p.1.length c1,Vi p.2];have U:=hiD (Qb (qD hl ai) (by omega));have HM:=hiD K;have HS:=hiD hs;obtain⟨L0,a4⟩:=xR l.length;have bm:∃bt,bt=l.length:=⟨_,rfl⟩;rw[a4]at U bl bn⊢;have an:=hiD a4;have bb:=hiD az;have ba:=hiD b3;clear hl K hs b5 b6 az b3 a4 bm;obtain⟨W,ag⟩:=xR (Value.slice la L0 lc);have bx:=hiD ag;go_enter func299,ntmps299;go_wp2_with fail;generalize c8:w.alloc (Oc #[Sq C p.1.length c1,Vi p.2] 25)=S at*;have c9:=zp.size;rw[show Sq la L0 lc=W from ag]at U⊢;clear ag;refine Dj 0 (fun a wr=>∃n,AJ p l d C c1 W ma mc w S n a wr) (fun a _=>d.length-(intOf (a.tmps.getD 8 undef)).toNat) rfl ?_ fun aq=>?_
 ·rintro a wr ⟨n,i,bz,hi,O,r,⟨P,j,Q,rfl⟩,u9,cb,cc,cd,ce,cf,cg,ch,ci,cj,ck,cl,cm,cn,co,cp,cq,cr,ct,cu,rfl⟩;have L:=ai.trans (O.mono ai.size);have bw:=zp.later O;by_cases a3:i<d.length
  ·obtain⟨b1,o1,d1,x,s,o,k,t,e1,hx,a9,p0,p1⟩:=Cw (qD HM.out L) a3;cases e1;have ad:(d.take (i+1)).foldl xK l=xK ((d.take i).foldl xK l) x:=by
    rw[List.take_add_one,hx];simp[List.foldl_append]
   obtain⟨g,a1⟩:=xR ((d.take i).foldl xK l);rw[a1]at r ad;have bf:g.length<2:=by
    have:=Cp (d.take i) l;rw[a1,jb,an.out]at this;omega
   have z:=(Below.refl wr.1.size wr).alloc nLe (Oc #[Sq s x.row.length o,Sq k x.2.length t] 127);have T:=Holds.fresh wr 127 #[Sq s x.row.length o,Sq k x.2.length t];have e:MtV _ _ _ x:=⟨a9.1.later z,a9.2.later z⟩;obtain⟨B,af⟩:=xR (wr.alloc (Oc #[Sq s x.row.length o,Sq k x.2.length t] 127));rw[af]at z T e;have a6:=hiD ((qj.kept mtR.kept _ _).later r.out z);obtain⟨aa,ac,f⟩:=qh r.out.row.choose_spec;obtain⟨LN,a0⟩:=xR g.length;rw[a0]at f bf;cases f;have HH:=hiD (fun h (V:Bz B h)=>Ic (Sq P j Q) h ⟨_,_,_,rfl⟩);have a2:=hiD (fun h (V:Bz B h)=>F9 g x (Sq P j Q) (Sq s x.row.length o) (Sq k x.2.length t) h.1.size _ (qD (qD a6.out.deep V) ((Below.refl h.1.size h).alloc nLe (Oc #[Sq P j Q] 115))) (Holds.fresh h _ _) ⟨(e.1.later V).later ((Below.refl h.1.size h).alloc nLe (Oc #[Sq P j Q] 115)),(e.2.later V).later ((Below.refl h.1.size h).alloc nLe (Oc #[Sq P j Q] 115))⟩);have al:=hiD (fun w' (b0:Bz B w')=>(⟨(T.later b0).cell 0,(T.later b0).cell 1⟩:Cq w' wr.1.size 0 (Sq s x.row.length o)∧Cq w' wr.1.size 1 (Sq k x.2.length t)));obtain⟨bj,a8⟩:=xR (hasM g x);rw[a8]at a2;have ap:=hiD ad;have am:=hiD a8;have ak:=hiD z;have ay:=hiD e;have bc:=hiD T;have ao:=hiD a0;have bo:Hid (wr.alloc (Oc #[Sq s x.row.length o,Sq k x.2.length t] 127)=B):=hiD af;clear a9 hx ad a1 z T e af a8 r a0;go_wp2_with fail;rw[bo.out];refine yA [0,2] 3 1 [4] (by kernel_rfl) (by kernel_rfl) (fun w'=>Bz B w') bRf.drew (fun _ _ bd _ _ be=>by cases bd<;>exact be) ?_;simp only[qI,jM,jN]
   repeat (refine qA rfl (fun w' hS=>by obtain⟨g0,g1⟩:=al.out w' hS;(go_simp<;>rfl)) ?_)
   show zL _ _ _ _ _ _ _ _ _ _ _ _;simp only[Act.put,jC,jL,jK];refine qC [1] (by kernel_rfl) (by simp) (by simp) ?_;intro ca b4;simp only[jI,jH,or_false]at b4;subst b4;refine qq rfl rfl ?_;go_simp;have E:Bz B B.drew:=bRf.drew;refine(HH.out _ E).mono ?_;rintro bu w2 ⟨rfl,rfl⟩;have A:=E.alloc E.size (Oc #[Sq P j Q] 115);refine⟨A,?_⟩;refine kR (by kernel_rfl) (show Region.ready _ _ _=[4]∧Region.ready _ _ _=[]from⟨by kernel_rfl,by kernel_rfl⟩) ?_;refine qq rfl rfl ?_;go_simp;refine(a2.out _ E).mono ?_;rintro bu N ⟨rfl,a'⟩;have J:=A.trans (a'.mono A.size);have bh:=ak.out.trans (J.mono ak.out.size);have F:MtV N _ _ x:=⟨ay.out.1.later J,ay.out.2.later J⟩;have b7:=bc.out.later J;have a7:=hiD ((qj.kept mtR.kept _ _).later a6.out J);have q:=O.trans (bh.mono O.size);clear HH a2 al a6 A a' E;cases bj with
   |true=>
     have I:(d.take (i+1)).foldl xK l=g:=by rw[ap.out];unfold xK;rw[if_pos am.out]
     have Z:=hiD I;clear I b7 F;simp only[jP];refine qq rfl rfl ?_;go_wp2_with fail;apply wp_goto;refine⟨rfl,⟨n,i+1,Sq P j Q,a3,q,hiD (by rw[Z.out];exact a7.out),⟨_,_,_,rfl⟩,_,_,_,_,_,_,_,_,_,_,_,_,_,_,_,_,_,_,_,_,rfl⟩,?_⟩;simp[intOf];omega
   |false=>
     have I:(d.take (i+1)).foldl xK l=g++[x]:=by rw[ap.out];unfold xK;rw[if_neg (by rw[am.out];simp)]
     have Z:=hiD I;obtain⟨q0,q1,-⟩:=b7.g2;obtain⟨l2,he,H,f⟩:=a7.out;have ah:N.ownsRow S.1.size 127 2 (Sq P j Q) j (l2.flatMap fun y=>y.2.1):=by rw[ao.out]at H;exact H
     have c6:S.1.size<=N.1.size:=q.size;have av:=hiD f;have HE:=hiD he;have au:=hiD F;have a5:=hiD ah;clear I F he f H a7;simp only[jP];refine qq rfl rfl ?_;go_wp2_with (at_builtin;refine wpList_append_own _ rfl _ _ 115 rfl S.1.size 127 i0 (.agg #[Vn,Vn]) 2 48 underlying115 bk bq br bs rfl (by decide) (Sq P j Q) j (l2.flatMap fun y=>y.2.1) rfl (a5.out.alloc (Oc #[Sq s x.row.length o,Sq k x.2.length t] 127)) (Ad N.1.size 0) 1 1 [Sq s x.row.length o,Sq k x.2.length t] rfl rfl ?c1 ?c2 ?c3 ?c4 ?c5 ?_);case c1=>exact qR N [Sq s x.row.length o,Sq k x.2.length t] 127
     case c2=>
      intro bv hu;simp only[jI,jH,or_false]at hu;rcases hu with rfl|rfl<;>rfl
     case c3=>unfold maxLen;omega
     case c4=>omega
     case c5=>simp;omega
     intro R w4 D c _;have ab:=q.alloc q.size (Oc #[Sq s x.row.length o,Sq k x.2.length t] 127);have M:=a5.out.alloc (Oc #[Sq s x.row.length o,Sq k x.2.length t] 127);have bi:=ab.grown c ab.size (fun b hb=>qE M b hb);have ax:mtR x [Sq s x.row.length o,Sq k x.2.length t] N:=⟨_,_,rfl,au.out⟩;have ae:Bz N (N.alloc (Oc #[Sq s x.row.length o,Sq k x.2.length t] 127)):=bB;have aw:=vH M c (ax.later ae) (by decide) (by decide);have ar:=(fun y hy=>vH M c ((av.out y hy).later ae) (by decide) (by decide));have aj:qj 2 S.1.size 127 mtR w4 R (g++[x]):=qj.snoc HE.out (cs:=[Sq s x.row.length o,Sq k x.2.length t]) rfl (by rw[ao.out];exact D) ar aw;obtain⟨ga,gc,bp⟩:=qh D;subst bp;have b9:=hiD aj;clear aj aw ar ax ae c D M ab a5 av HE au;go_wp2_with fail;apply wp_goto;refine⟨rfl,⟨n,i+1,_,a3,bi,hiD (by rw[Z.out];exact b9.out),⟨_,_,_,rfl⟩,_,_,_,_,_,_,_,_,_,_,_,_,_,_,_,_,_,_,_,_,rfl⟩,?_⟩;simp[intOf];omega
  ·obtain rfl:i=d.length:=by omega
   obtain⟨q0,q1,-⟩:=bw.g2;have ha:=r.out;rw[jn]at ha;have CS:=hiD (DW p _ bb.out (by have:=ba.out;have:=an.out;omega) (.agg #[Sq C p.1.length c1,Vi p.2]) _ wr ⟨_,rfl,HS.out.mono L nLe⟩ ha.deep);clear ha r;go_wp2_with fail;refine CS.out.mono ?_;rintro x w4 ⟨R,rfl,u,bg⟩;have X:=hiD u;clear u CS;go_wp2_with fail;refine J9 ?_;go_ret;exact⟨_,rfl,X.out.less L.size,L.trans (bg.mono L.size)⟩
 ·have HP:=hiD aq;clear aq;go_wp2_with fail;refine U.out.mono ?_;rintro x w2 ⟨n,rfl,u,A⟩;obtain⟨ga,gc,b2⟩:=qh u.row.choose_spec;have X:=hiD u;have b8:=hiD b2;clear u b2 U;go_wp2_with fail;refine wp_label ?_;rename_i hK;exact hK _ _ (HP.out _ _ ⟨n,0,n,jg _,A,X,⟨_,_,_,b8.out⟩,_,_,_,_,_,_,_,_,_,_,_,_,_,_,_,_,_,_,_,_,rfl⟩)
end
end Go.Proofs.YtnmpcdnbklmhkaaGreatDoor
