import Derived.Test.YtnmpcdnbklmhkaaGreatDoorQBo
namespace Go.Proofs.YtnmpcdnbklmhkaaGreatDoor
open Go.Proofs.Tryz Go.RowKit
set_option maxRecDepth 100000
set_option linter.all false
set_option maxHeartbeats 8000000
section
attribute [local go_sem] Oper.semAt_some
theorem yw (b:Nat):∀(a:List Value) (o:Nat) (w:World),w.grownBy (w.setCells b o a) (some b)
 |[],_,w=>JD b w
 |v::a,o,w=>zM (vN b o w v) (yw b a (o+1) _)
theorem vD {W k:World} {b t:Nat} {g:Array Value} (h:Holds W b t g) (o:t≠63) (j:t≠36) (n:t≠3) (p:t≠127) (s:W.grownBy k (some b)):yO W k:=by
 have c:=yJ s;have a:∀E,t≠E->∀x,x=b->∀g q,W.1[x]?≠some (.cells g E q):=fun E f x d g q=>by subst d;exact zV h f g q
 exact⟨fun u A y z=>z.keptT y c (a _ o),fun v l i=>i.keptT c (a _ j),fun v l i=>vJ i c (fun x d g q=>⟨a _ n x d g q,a _ j x d g q,a _ p x d g q⟩),
  fun r e m i=>⟨i.1.keptT c (a _ n),i.2.keptT c (a _ j)⟩⟩
theorem Ml {f p:Nat} {w A B:World} (c:w.grownBy A (some f)) (d:A.grownBy B (some p)) (g:w.1.size<=p):w.grownBy B (some f):=
 ⟨d.os.trans c.os,d.tape.trans c.tape,d.output.trans c.output,jS c.size d.size,fun k b a=>(d.block k (jf b c.size) (fun e=>by cases e;omega)).trans (c.block k b a)⟩
def wayE (a:En) (c:Fo) (R:Rc):List Mt×List Ot:=
 if a.c.2=2∧R.kind=1 then (addM a.c.p [] (rawW a.c.p c.2),(rawW a.c.p c.2).map fun m=>⟨1,m,0,0⟩)
 else if a.c.2=2∧R.kind=2 then (vY a.c.p a.led (yM a.c c),[])else if a.c.2=1∧R.kind=2 then (a.led,Eu a.c a.f c)else (a.led,[])
structure TakH (en:En) (now:Fo) (R:Rc):Prop where
 hS:Ls en.c en.f R
 hmode:en.c.2=1∨en.c.2=2
 hkind:R.kind=1∨R.kind=2
 hj:nowF en.f R=now
 hSn:SOk now.2
 h21:en.c.2=2->R.kind=1->en.led=[]∧Sp now.2 R.ev
 h22:en.c.2=2->R.kind=2->(∀m∈en.led,MtSm en.c.p m)∧en.led.length<=1000000
theorem TakH.hn {a:En} {c:Fo} {R:Rc} (h:TakH a c R):∀s∈a.c.p.1,s.6=[]:=h.hS.ok.noC
theorem TakH.conf {d:En} {e:Fo} {R:Rc} (h:TakH d e R):Bc d.c=true:=h.hS.all (Q:=fun c _ _=>Bc c=true) fun f a=>by rcases a with rfl|rfl<;>exact⟨by kernel_rfl,by kernel_rfl,by kernel_rfl⟩
theorem SC (a:Int) (c:0<=a):IntKind.i64.wrap (min a 1099511627775+1)=min a 1099511627775+1:=by rw[IntKind.wrap_i64];omega
theorem NR (en:En) (e:Fo) (b6:Rc) (ao:Pc) (bi:TakH en e b6) (hs:ao.short=false) (ht:Ed ao.bytes b6) (dr:0<=en.count) (d:Nat) (pv:List Value) (w:World) (ds:EnB w d en) (d4:pcR ao pv w):
  Cs 198 #[Vp d 0,.agg pv.toArray] w fun ag w'=>∃ov,ag=Rt ov∧EnB w' d ⟨en.c,if b6.kind=2 then B3 en.c e else e,(wayE en e b6).1,min en.count 1099511627775+1⟩∧w.grownBy w' (some d)∧yO w w'∧qj 5 w.1.size 129 otR w' ov (wayE en e b6).2:=by
 have e5:=hst1;obtain⟨ua,uc,m0,m1,m2,m3,ka,kc,la,lc,hm,hz,b3,hk,hd⟩:=ds.form;obtain⟨pa,pc,rfl,dw,dx,dy⟩:=id d4;have hn:=bi.hn;have hj:=bi.hj;have d0:=bi.hSn.short;have CJ:=hiD (fun af (X:Bz w af)=>Ih en.c en.f b6 bi.hS ao hs ht (.agg (cfC (Sq ua en.c.p.1.length uc) en.c)) (.agg (foC m0 m1 m2 m3 (Sq ka en.f.2.length kc) en.f.hi)) _ af ⟨_,rfl,(b3.mono X nLe).1⟩ ⟨m0,m1,m2,m3,_,hm,rfl,hk.later X⟩ ((pcR.kept _ _).later d4 X));rw[hj]at CJ;clear hj dw;have HH:=hiD bi;clear bi;obtain⟨x,d1⟩:=xR e.2.length;have aw:=hiD d1;rw[d1]at d0;clear d1;obtain⟨c,f,az,t⟩:=en;simp only at*;obtain⟨A,d5⟩:=xR c.p.1.length;obtain⟨kl,cw⟩:=xR f.2.length;obtain⟨ll,cx⟩:=xR az.length;obtain⟨pn,dm⟩:=xR ao.bytes.length;have c7:=hiD d5;have c5:=hiD cw;have d':=hiD cx;rw[d5]at hz b3 CJ;rw[cw]at hz hk CJ;rw[cx]at hz hd;rw[dm]at CJ dx⊢;rw[hs]at CJ⊢;clear dy d4 ht dm d5 cw cx;obtain⟨b0,di⟩:=xR ao.at';rw[di]at CJ⊢;clear di;obtain⟨c9,cr⟩:=xR (wayE ⟨c,f,az,t⟩ e b6);rw[cr];have c6:=hiD cr;clear cr hs;obtain⟨rk,⟨ts,ak,aj,kd,re,im⟩,rs,rt⟩:=b6;simp only[enC,foC,cfC,rcA,rcV,evV,List.cons_append,List.nil_append]at hz CJ;go_enter func198,ntmps198;go_wp2_with fail;refine zE 0 rfl ?_;have X:=bA w (Oc #[Vi b0,Sq pa pn pc,Vb false] 170);have yp:=Holds.fresh w 170 #[Vi b0,Sq pa pn pc,Vb false];generalize w.alloc (Oc #[Vi b0,Sq pa pn pc,Vb false] 170)=af at*;have cd:=hz.later X;have bt:=cd.cell 13;simp at bt;have e0:=cd.size;go_wp2_with fail;have HC:=hiD (fun w' (j:Holds w' d 117 #[Sq ua A uc,Vi c.p.2,Vu c.2,Vi c.cap,Vi c.4,Vi c.5,Vi m0,Vi m1,Vi m2,Vi m3,Sq ka kl kc,Vi f.hi,Sq la ll lc,Vi t]∧Holds w' w.1.size 170 #[Vi b0,Sq pa pn pc,Vb false])=>(⟨(j.1).cell 0,(j.1).cell 1,(j.1).cell 2,(j.1).cell 3,(j.1).cell 4,(j.1).cell 5,(j.1).cell 6,(j.1).cell 7,(j.1).cell 8,(j.1).cell 9,(j.1).cell 10,(j.1).cell 11,(j.1).cell 12,(j.1).cell 13,(j.2).cell 0,(j.2).cell 1,(j.2).cell 2⟩:Cq w' d 0 (Sq ua A uc)∧Cq w' d 1 (Vi c.p.2)∧Cq w' d 2 (Vu c.2)∧Cq w' d 3 (Vi c.cap)∧Cq w' d 4 (Vi c.4)∧Cq w' d 5 (Vi c.5)∧Cq w' d 6 (Vi m0)∧Cq w' d 7 (Vi m1)∧Cq w' d 8 (Vi m2)∧Cq w' d 9 (Vi m3)∧Cq w' d 10 (Sq ka kl kc)∧Cq w' d 11 (Vi f.hi)∧Cq w' d 12 (Sq la ll lc)∧Cq w' d 13 (Vi t)∧Cq w' w.1.size 0 (Vi b0)∧Cq w' w.1.size 1 (Sq pa pn pc)∧Cq w' w.1.size 2 (Vb false)));have F:=hiD (fun w' (j:Bz af w')=>(⟨cd.later j,yp.later j⟩:Holds w' d 117 #[Sq ua A uc,Vi c.p.2,Vu c.2,Vi c.cap,Vi c.4,Vi c.5,Vi m0,Vi m1,Vi m2,Vi m3,Sq ka kl kc,Vi f.hi,Sq la ll lc,Vi t]∧Holds w' w.1.size 170 #[Vi b0,Sq pa pn pc,Vb false]));refine Code.wp_mono (fun ag a' w' he=>?_) (show Code.wp _ _ (fun ag a' ca=>ag= .normal∧∃(E p7:Nat) (T U V Z:Int) (o:Option Addr) (s:Nat),a'={tmps:=#[Vp d 0,.agg #[Vi b0,Sq pa pn pc,Vb false],undef,Vp w.1.size 0,Vn,Vi t,Vp E 0,Vp p7 0,Vu 0,undef,Vp d 0,Vp d 0,Vp d 13,Vi t,.tuple #[.agg #[Vi T,Vi U,Vi V,Vi Z,Sq o x s,Vi e.hi],.agg #[Vu rk,Vi ts,Vi ak,Vi aj,Vi kd,Vc re im,Vi rs,Vi rt],Vu 0],Vp d 0,Vp d 0,Vp d 0,.agg #[Sq ua A uc,Vi c.p.2,Vu c.2,Vi c.cap,Vi c.4,Vi c.5],Vp d 0,Vp d 0,Vp d 6,.agg #[Vi m0,Vi m1,Vi m2,Vi m3,Sq ka kl kc,Vi f.hi],.agg #[Vi b0,Sq pa pn pc,Vb false],.tuple #[.agg #[Vi T,Vi U,Vi V,Vi Z,Sq o x s,Vi e.hi],.agg #[Vu rk,Vi ts,Vi ak,Vi aj,Vi kd,Vc re im,Vi rs,Vi rt],Vu 0],.agg #[Vi T,Vi U,Vi V,Vi Z,Sq o x s,Vi e.hi],.agg #[Vu rk,Vi ts,Vi ak,Vi aj,Vi kd,Vc re im,Vi rs,Vi rt],Vu 0,undef,undef,undef,undef,undef,undef,undef,undef,undef,undef,undef,undef,undef,undef,undef,undef,undef,undef,undef,undef,undef,undef,undef,undef,undef,undef,undef,undef,undef,undef,undef,undef,undef,undef,undef,undef,undef,undef,undef,undef,undef,undef,undef],defers:=[]}∧e.1=[T,U,V,Z]∧Holds ca E 114 #[Vi T,Vi U,Vi V,Vi Z,Sq o x s,Vi e.hi]∧Holds ca p7 38 #[Vu rk,Vi ts,Vi ak,Vi aj,Vi kd,Vc re im,Vi rs,Vi rt]∧RowT 5 36 evV ca (Sq o x s) e.2∧Bz af ca∧af.1.size<=E∧af.1.size<=p7∧E≠p7) _ _ from ?_);rotate_left 1
 ·refine yA [0,1,2,3,4,5,6,7,8] 18 9 [] (by kernel_rfl) (by kernel_rfl) (fun w'=>Holds w' d 117 #[Sq ua A uc,Vi c.p.2,Vu c.2,Vi c.cap,Vi c.4,Vi c.5,Vi m0,Vi m1,Vi m2,Vi m3,Sq ka kl kc,Vi f.hi,Sq la ll lc,Vi t]∧Holds w' w.1.size 170 #[Vi b0,Sq pa pn pc,Vb false]) (F.out _ bRf.drew) (fun _ _ _ _ _ h=>nomatch h.1) ?_;simp only[qI,List.getElem?_cons_zero,List.getElem?_cons_succ]
  repeat (refine qA rfl (fun w' hS=>by obtain⟨g0,g1,g2,g3,g4,g5,g6,g7,g8,g9,bv,bw,cl,cm,cn,co,cp⟩:=HC.out w' hS;clear hS;(go_simp<;>rfl)) ?_)
  show zL _ _ _ _ _ _ _ _ _ _ _ _;simp only[Act.put,List.setIfInBounds_toArray,List.set_cons_succ,List.set_cons_zero];have B:Bz af af.drew:=bRf.drew;generalize af.drew=v at*;refine qC [9,14,15] (by kernel_rfl) (by simp) (by simp) ?_;intro bp P;simp only[List.mem_cons,List.not_mem_nil,or_false]at P;rcases P with rfl|rfl|rfl
  all_goals
   refine qq rfl rfl ?_;go_simp
   first
    | show _∧zL _ _ _ _ _ _ _ _ _ _ _ (v.alloc (Oc #[Vi 0,Vi 0,Vi 0,Vi 0,Vn,Vi 0] 114))
      have q:=Holds.fresh v 114 #[Vi 0,Vi 0,Vi 0,Vi 0,Vn,Vi 0];have k:=(Below.refl v.1.size v).alloc nLe (Oc #[Vi 0,Vi 0,Vi 0,Vi 0,Vn,Vi 0] 114);have bc:=B.size;replace B:=B.trans (k.mono B.size)
      try replace z7:=z7.later k
      try replace L:=L.later k
      generalize v.1.size=E at*;generalize v.alloc (Oc #[Vi 0,Vi 0,Vi 0,Vi 0,Vn,Vi 0] 114)=v at*;refine⟨F.out _ B,?_⟩
    | show _∧zL _ _ _ _ _ _ _ _ _ _ _ (v.alloc (Oc #[Vu 0,Vi 0,Vi 0,Vi 0,Vi 0,Vc 0 0,Vi 0,Vi 0] 38))
      have z7:=Holds.fresh v 38 #[Vu 0,Vi 0,Vi 0,Vi 0,Vi 0,Vc 0 0,Vi 0,Vi 0];have k:=(Below.refl v.1.size v).alloc nLe (Oc #[Vu 0,Vi 0,Vi 0,Vi 0,Vi 0,Vc 0 0,Vi 0,Vi 0] 38);have b':=B.size;replace B:=B.trans (k.mono B.size)
      try replace q:=q.later k
      try replace L:=L.later k
      generalize v.1.size=p7 at*;generalize v.alloc (Oc #[Vu 0,Vi 0,Vi 0,Vi 0,Vi 0,Vc 0 0,Vi 0,Vi 0] 38)=v at*;refine⟨F.out _ B,?_⟩
    | refine(CJ.out _ (X.trans (B.mono X.size))).mono ?_
      rintro ab v ⟨_,rfl,⟨T,U,V,Z,nk,ar,rfl,L⟩,k⟩;obtain⟨o,s,rfl,_⟩:=L.form;rw[aw.out]at L;have ap:=hiD ar;clear ar;simp only[foC,aw.out];replace B:=B.trans (k.mono B.size)
      try replace q:=q.later k
      try replace z7:=z7.later k
      refine⟨F.out _ B,?_⟩
      first
       |refine yS (f:=4) [10,11,12,13] (by kernel_rfl) (F.out _ B) (fun _ _ _ _ _ h=>nomatch h.1) ?_
       |refine yS (f:=3) [10,11,12,13] (by kernel_rfl) (F.out _ B) (fun _ _ _ _ _ h=>nomatch h.1) ?_
       |refine yS (f:=2) [10,11,12,13] (by kernel_rfl) (F.out _ B) (fun _ _ _ _ _ h=>nomatch h.1) ?_
      simp only[qI,List.getElem?_cons_zero,List.getElem?_cons_succ]
      repeat (refine qA rfl (fun w' hS=>by obtain⟨g0,g1,g2,g3,g4,g5,g6,g7,g8,g9,bv,bw,cl,cm,cn,co,cp⟩:=HC.out w' hS;clear hS;(go_simp<;>rfl)) ?_)
      show zL _ _ _ _ _ _ _ _ _ _ _ _;simp only[Act.put,List.setIfInBounds_toArray,List.set_cons_succ,List.set_cons_zero]
  refine qC [14,15] (by kernel_rfl) (by simp) (by simp) ?_;rotate_left 1;refine qC [9,15] (by kernel_rfl) (by simp) (by simp) ?_;rotate_left 1;refine qC [9,14] (by kernel_rfl) (by simp) (by simp) ?_;rotate_left 1
  all_goals
   intro bp P;simp only[List.mem_cons,List.not_mem_nil,or_false]at P;rcases P with rfl|rfl|rfl
  all_goals
   refine qq rfl rfl ?_;go_simp
   first
    | show _∧zL _ _ _ _ _ _ _ _ _ _ _ (v.alloc (Oc #[Vi 0,Vi 0,Vi 0,Vi 0,Vn,Vi 0] 114))
      have q:=Holds.fresh v 114 #[Vi 0,Vi 0,Vi 0,Vi 0,Vn,Vi 0];have k:=(Below.refl v.1.size v).alloc nLe (Oc #[Vi 0,Vi 0,Vi 0,Vi 0,Vn,Vi 0] 114);have bc:=B.size;replace B:=B.trans (k.mono B.size)
      try replace z7:=z7.later k
      try replace L:=L.later k
      generalize v.1.size=E at*;generalize v.alloc (Oc #[Vi 0,Vi 0,Vi 0,Vi 0,Vn,Vi 0] 114)=v at*;refine⟨F.out _ B,?_⟩
    | show _∧zL _ _ _ _ _ _ _ _ _ _ _ (v.alloc (Oc #[Vu 0,Vi 0,Vi 0,Vi 0,Vi 0,Vc 0 0,Vi 0,Vi 0] 38))
      have z7:=Holds.fresh v 38 #[Vu 0,Vi 0,Vi 0,Vi 0,Vi 0,Vc 0 0,Vi 0,Vi 0];have k:=(Below.refl v.1.size v).alloc nLe (Oc #[Vu 0,Vi 0,Vi 0,Vi 0,Vi 0,Vc 0 0,Vi 0,Vi 0] 38);have b':=B.size;replace B:=B.trans (k.mono B.size)
      try replace q:=q.later k
      try replace L:=L.later k
      generalize v.1.size=p7 at*;generalize v.alloc (Oc #[Vu 0,Vi 0,Vi 0,Vi 0,Vi 0,Vc 0 0,Vi 0,Vi 0] 38)=v at*;refine⟨F.out _ B,?_⟩
    | refine(CJ.out _ (X.trans (B.mono X.size))).mono ?_
      rintro ab v ⟨_,rfl,⟨T,U,V,Z,nk,ar,rfl,L⟩,k⟩;obtain⟨o,s,rfl,_⟩:=L.form;rw[aw.out]at L;have ap:=hiD ar;clear ar;simp only[foC,aw.out];replace B:=B.trans (k.mono B.size)
      try replace q:=q.later k
      try replace z7:=z7.later k
      refine⟨F.out _ B,?_⟩
      first
       |refine yS (f:=4) [10,11,12,13] (by kernel_rfl) (F.out _ B) (fun _ _ _ _ _ h=>nomatch h.1) ?_
       |refine yS (f:=3) [10,11,12,13] (by kernel_rfl) (F.out _ B) (fun _ _ _ _ _ h=>nomatch h.1) ?_
       |refine yS (f:=2) [10,11,12,13] (by kernel_rfl) (F.out _ B) (fun _ _ _ _ _ h=>nomatch h.1) ?_
      simp only[qI,List.getElem?_cons_zero,List.getElem?_cons_succ]
      repeat (refine qA rfl (fun w' hS=>by obtain⟨g0,g1,g2,g3,g4,g5,g6,g7,g8,g9,bv,bw,cl,cm,cn,co,cp⟩:=HC.out w' hS;clear hS;(go_simp<;>rfl)) ?_)
      show zL _ _ _ _ _ _ _ _ _ _ _ _;simp only[Act.put,List.setIfInBounds_toArray,List.set_cons_succ,List.set_cons_zero]
  refine qC [15] (by kernel_rfl) (by simp) (by simp) ?_;rotate_left 1;refine qC [14] (by kernel_rfl) (by simp) (by simp) ?_;rotate_left 1;refine qC [15] (by kernel_rfl) (by simp) (by simp) ?_;rotate_left 1;refine qC [9] (by kernel_rfl) (by simp) (by simp) ?_;rotate_left 1;refine qC [14] (by kernel_rfl) (by simp) (by simp) ?_;rotate_left 1;refine qC [9] (by kernel_rfl) (by simp) (by simp) ?_;rotate_left 1
  all_goals
   intro bp P;simp only[List.mem_cons,List.not_mem_nil,or_false]at P;rcases P with rfl|rfl|rfl
  all_goals
   refine qq rfl rfl ?_;go_simp
   first
    | show _∧zL _ _ _ _ _ _ _ _ _ _ _ (v.alloc (Oc #[Vi 0,Vi 0,Vi 0,Vi 0,Vn,Vi 0] 114))
      have q:=Holds.fresh v 114 #[Vi 0,Vi 0,Vi 0,Vi 0,Vn,Vi 0];have k:=(Below.refl v.1.size v).alloc nLe (Oc #[Vi 0,Vi 0,Vi 0,Vi 0,Vn,Vi 0] 114);have bc:=B.size;replace B:=B.trans (k.mono B.size)
      try replace z7:=z7.later k
      try replace L:=L.later k
      generalize v.1.size=E at*;generalize v.alloc (Oc #[Vi 0,Vi 0,Vi 0,Vi 0,Vn,Vi 0] 114)=v at*;refine⟨F.out _ B,?_⟩
    | show _∧zL _ _ _ _ _ _ _ _ _ _ _ (v.alloc (Oc #[Vu 0,Vi 0,Vi 0,Vi 0,Vi 0,Vc 0 0,Vi 0,Vi 0] 38))
      have z7:=Holds.fresh v 38 #[Vu 0,Vi 0,Vi 0,Vi 0,Vi 0,Vc 0 0,Vi 0,Vi 0];have k:=(Below.refl v.1.size v).alloc nLe (Oc #[Vu 0,Vi 0,Vi 0,Vi 0,Vi 0,Vc 0 0,Vi 0,Vi 0] 38);have b':=B.size;replace B:=B.trans (k.mono B.size)
      try replace q:=q.later k
      try replace L:=L.later k
      generalize v.1.size=p7 at*;generalize v.alloc (Oc #[Vu 0,Vi 0,Vi 0,Vi 0,Vi 0,Vc 0 0,Vi 0,Vi 0] 38)=v at*;refine⟨F.out _ B,?_⟩
    | refine(CJ.out _ (X.trans (B.mono X.size))).mono ?_
      rintro ab v ⟨_,rfl,⟨T,U,V,Z,nk,ar,rfl,L⟩,k⟩;obtain⟨o,s,rfl,_⟩:=L.form;rw[aw.out]at L;have ap:=hiD ar;clear ar;simp only[foC,aw.out];replace B:=B.trans (k.mono B.size)
      try replace q:=q.later k
      try replace z7:=z7.later k
      refine⟨F.out _ B,?_⟩
      first
       |refine yS (f:=4) [10,11,12,13] (by kernel_rfl) (F.out _ B) (fun _ _ _ _ _ h=>nomatch h.1) ?_
       |refine yS (f:=3) [10,11,12,13] (by kernel_rfl) (F.out _ B) (fun _ _ _ _ _ h=>nomatch h.1) ?_
       |refine yS (f:=2) [10,11,12,13] (by kernel_rfl) (F.out _ B) (fun _ _ _ _ _ h=>nomatch h.1) ?_
      simp only[qI,List.getElem?_cons_zero,List.getElem?_cons_succ]
      repeat (refine qA rfl (fun w' hS=>by obtain⟨g0,g1,g2,g3,g4,g5,g6,g7,g8,g9,bv,bw,cl,cm,cn,co,cp⟩:=HC.out w' hS;clear hS;(go_simp<;>rfl)) ?_)
      show zL _ _ _ _ _ _ _ _ _ _ _ _;simp only[Act.put,List.setIfInBounds_toArray,List.set_cons_succ,List.set_cons_zero]
  all_goals
   have cb:E≠p7:=xD q z7 (by decide);have cz:=q.free;have dq:=q.size;have cy:=z7.free;have ci:=z7.size;obtain⟨a0,a1,a2,a3,a4,a5,-⟩:=q.g6;refine qC [16] (by kernel_rfl) (by simp) (by simp) ?_;intro bp P;simp only[List.mem_cons,List.not_mem_nil,or_false]at P;subst P;refine qq rfl rfl ?_;go_simp;obtain⟨u,K⟩:=xL ((((((v.setCell (Ad E 0) (Vi T)).setCell (Ad E 1) (Vi U)).setCell (Ad E 2) (Vi V)).setCell (Ad E 3) (Vi Z)).setCell (Ad E 4) (Sq o x s)).setCell (Ad E 5) (Vi e.hi));rw[<-K];have c3:u=v.setCells E 0 [Vi T,Vi U,Vi V,Vi Z,Sq o x s,Vi e.hi]:=K;clear K a0 a1 a2 a3 a4 a5 cz cy dq ci;have n:Holds u E 114 #[Vi T,Vi U,Vi V,Vi Z,Sq o x s,Vi e.hi]:=by rw[c3];exact q.setsAll [Vi T,Vi U,Vi V,Vi Z,Sq o x s,Vi e.hi] rfl
   have H:Holds u p7 38 #[Vu 0,Vi 0,Vi 0,Vi 0,Vi 0,Vc 0 0,Vi 0,Vi 0]:=by rw[c3];exact z7.farSets [Vi T,Vi U,Vi V,Vi Z,Sq o x s,Vi e.hi] 0 cb.symm
   have z:RowT 5 36 evV u (Sq o x s) e.2:=by rw[c3];exact L.keptT (qg.setCells (D:=fun b=>b=E) (b:=E) rfl [Vi T,Vi U,Vi V,Vi Z,Sq o x s,Vi e.hi] 0 v) (fun b X cs d9=>by subst X;exact zV q (by decide) cs d9)
   have df:Bz af u:=by rw[c3];exact Below.setCells bc [Vi T,Vi U,Vi V,Vi Z,Sq o x s,Vi e.hi] 0 B
   clear c3 q z7 L;refine⟨F.out _ df,?_⟩;have cy:=H.free;have ci:=H.size;obtain⟨a0,a1,a2,a3,a4,a5,a6,a7,-⟩:=H.g8;refine qC [17] (by kernel_rfl) (by simp) (by simp) ?_;intro bp P;simp only[List.mem_cons,List.not_mem_nil,or_false]at P;subst P;refine qq rfl rfl ?_;go_simp;generalize dn:World.setCell _ _ _=wy;have c2:wy=u.setCells p7 0 [Vu rk,Vi ts,Vi ak,Vi aj,Vi kd,Vc re im,Vi rs,Vi rt]:=dn.symm;clear dn a0 a1 a2 a3 a4 a5 a6 a7 cy ci;have y6:Holds wy E 114 #[Vi T,Vi U,Vi V,Vi Z,Sq o x s,Vi e.hi]:=by rw[c2];exact n.farSets [Vu rk,Vi ts,Vi ak,Vi aj,Vi kd,Vc re im,Vi rs,Vi rt] 0 cb
   have y7:Holds wy p7 38 #[Vu rk,Vi ts,Vi ak,Vi aj,Vi kd,Vc re im,Vi rs,Vi rt]:=by rw[c2];exact H.setsAll [Vu rk,Vi ts,Vi ak,Vi aj,Vi kd,Vc re im,Vi rs,Vi rt] rfl
   have yk:RowT 5 36 evV wy (Sq o x s) e.2:=by rw[c2];exact z.keptT (qg.setCells (D:=fun b=>b=p7) (b:=p7) rfl [Vu rk,Vi ts,Vi ak,Vi aj,Vi kd,Vc re im,Vi rs,Vi rt] 0 u) (fun b X cs d9=>by subst X;exact zV H (by decide) cs d9)
   have bj:Bz af wy:=by rw[c2];exact Below.setCells b' [Vu rk,Vi ts,Vi ak,Vi aj,Vi kd,Vc re im,Vi rs,Vi rt] 0 df
   clear c2 n H z;refine⟨F.out _ bj,?_⟩;refine kR (by kernel_rfl) (show Region.ready _ _ _=[]from by kernel_rfl) ?_;refine qq rfl rfl ?_;go_simp;simp only[jP];exact⟨trivial,E,p7,T,U,V,Z,o,s,rfl,ap.out,y6,y7,yk,bj,bc,b',cb⟩
 obtain⟨rfl,E,p7,T,U,V,Z,o,s,rfl,ar,y6,y7,yk,bj,bc,b',cb⟩:=he;generalize w'=w1 at*;obtain⟨bk,-⟩:=F.out w1 bj;have ap:=hiD ar;clear HC F CJ ar bt;have bt:=bk.cell 13;have dp:=bk.free;have e2:=bk.size;simp at bt;have dv:=SC t dr;go_wp2_with fail;obtain⟨m,b5,r,i,a⟩:=c;simp only at*;clear hz cd yp;have dl:(b5=1∨b5=2)∧(rk=1∨rk=2):=⟨HH.out.hmode,HH.out.hkind⟩;have cf:=hiD dl;clear dl;have bo:=bk.set 13 (Vi (min t 1099511627775+1));simp only[List.setIfInBounds_toArray,List.set_cons_zero,List.set_cons_succ]at bo;have dh:=zM (xz (d:=d) (X.trans (bj.mono X.size))) (vN d 13 w1 (Vi (min t 1099511627775+1)));have cq:yO w1 (w1.setCell (Ad d 13) (Vi (min t 1099511627775+1))):=Ae (K:=ua) (M:=A) (L:=uc) (c:=⟨m,b5,r,i,a⟩) (y:=ka) (A:=kl) (z:=kc) (B:=la) (D:=ll) (C:=lc) bk (vN d 13 w1 _);have dg:=(yO.below (X.trans (bj.mono X.size))).trans cq;replace y6:=y6.far (p:=Ad d 13) (by simp;omega) (Vi (min t 1099511627775+1));replace y7:=y7.far (p:=Ad d 13) (by simp;omega) (Vi (min t 1099511627775+1));replace yk:=cq.ev _ _ yk;clear cq bk bt dp dv;generalize w1.setCell (Ad d 13) (Vi (min t 1099511627775+1))=w2 at*;have e3:=bo.size;have HC:=hiD (fun w' (j:Holds w' d 117 #[Sq ua A uc,Vi m.2,Vu b5,Vi r,Vi i,Vi a,Vi m0,Vi m1,Vi m2,Vi m3,Sq ka kl kc,Vi f.hi,Sq la ll lc,Vi (min t 1099511627775+1)]∧Holds w' p7 38 #[Vu rk,Vi ts,Vi ak,Vi aj,Vi kd,Vc re im,Vi rs,Vi rt])=>(⟨j.1.cell 2,j.2.cell 0⟩:Cq w' d 2 (Vu b5)∧Cq w' p7 0 (Vu rk)));obtain⟨u0,u1,-⟩:=bo.g2;refine yA [0,2,3,4,5,6,7,8,9] 11 2 [] (by kernel_rfl) (by kernel_rfl) (fun w'=>Holds w' d 117 #[Sq ua A uc,Vi m.2,Vu b5,Vi r,Vi i,Vi a,Vi m0,Vi m1,Vi m2,Vi m3,Sq ka kl kc,Vi f.hi,Sq la ll lc,Vi (min t 1099511627775+1)]∧Holds w' p7 38 #[Vu rk,Vi ts,Vi ak,Vi aj,Vi kd,Vc re im,Vi rs,Vi rt]) ⟨bo,y7⟩ (fun _ _ bu _ _ h=>by cases bu<;>exact h) ?_;simp only[qI,List.getElem?_cons_zero,List.getElem?_cons_succ]
 repeat (refine qA rfl (fun w' hS=>by obtain⟨g0,g1⟩:=HC.out w' hS;clear hS;(go_simp<;>rfl)) ?_)
 show zL _ _ _ _ _ _ _ _ _ _ _ _;simp only[Act.put,List.setIfInBounds_toArray,List.set_cons_succ,List.set_cons_zero];refine qC [1] (by kernel_rfl) (by simp) (by simp) ?_;intro bp P;simp only[List.mem_cons,List.not_mem_nil,or_false]at P;subst P;refine qq rfl rfl ?_;go_simp;refine(NQ d (Sq ua A uc) m.2 w2.drew u0 u1 ⟨_,_,_,rfl⟩).mono ?_;rintro ab w3 ⟨mb,pb,xb,rfl,dk,bl,bf,dj⟩;have ba:Bz w2 w3:=(Below.refl w2.1.size w2).drew.trans dj;have ay:=bo.later ba;have M:=zM dh (xz ba);have l:=dg.trans (yO.below ba);have n:=y6.later ba;have H:=y7.later ba;have z:=yk.later ba;obtain⟨wv,d6⟩:=xR (wayV b5 rk pb xb);have du:(Instr.lookup 315 (.map (some mb)) (.agg #[Vu b5,Vu rk]) false).run prog w3= .ok wv w3:=by
  rw[<-d6];exact SG b5 rk cf.out.1 cf.out.2 pb xb mb w3 dk
 have c8:=hiD d6;clear d6;have de:=hiD (And.intro ay H);clear bo dh dg y6 y7 yk ba dj u0 u1 dk HC;refine⟨de.out,?_⟩;refine qC [10] (by kernel_rfl) (by simp) (by simp) ?_;intro bp P;simp only[List.mem_cons,List.not_mem_nil,or_false]at P;subst P;refine qq rfl rfl ?_;go_simp;refine⟨by kernel_rfl,(show Region.ready _ _ _=[]from by kernel_rfl),?_⟩;refine qq rfl rfl ?_;go_simp;simp only[jP];obtain⟨f0,f1,f2,f3,f4,f5,-⟩:=n.g6;obtain⟨k0,k1,k2,k3,k4,k5,k6,k7,-⟩:=H.g8;clear du de;rename_i e4 dt;refine dt _ _ ?_;rcases cf.out with⟨rfl|rfl,rfl|rfl⟩
 ·obtain rfl:(.nilFunc:Value)=wv:=c8.out;have c':∀w,(binOp .neq 314 (.nilFunc) .nilFunc).run prog w= .ok (Vb false) w:=fun w=>by kernel_rfl
  obtain⟨O,bm⟩:=xL w3;rw[<-bm];have ac:w3.grownBy O (some d):=by rw[bm];exact JD _ _
  have ae:yO w3 O:=by rw[bm];exact yO.below bRf
  have ad:EnB O d ⟨⟨m,1,r,i,a⟩,f,az,min t 1099511627775+1⟩:=by rw[bm];exact⟨_,m0,m1,m2,m3,_,_,hm,ay,l.st _ _ hn b3,l.ev _ _ hk,l.ms _ _ hd⟩
  have al:=hiD (qj.nil _ _ _ _ _:qj 5 w.1.size 129 otR O Vn []);rw[<-bm]at f0 f1 f2 f3 f4 f5 k0 k1 k2 k3 k4 k5 k6 k7;clear bm;replace M:=zM M ac;replace l:=l.trans ae;replace n:=zY ac n (by omega);replace H:=zY ac H (by omega);replace z:=ae.ev _ _ z;obtain⟨ai,ah⟩:=xR az;have b8:=hiD ah
  try simp only at ad
  rw[ah]at ad;clear ah ac ae ay bl bf f0 f1 f2 f3 f4 f5 k0 k1 k2 k3 k4 k5 k6 k7;obtain⟨ub,ud,da,db,dc,dd,kb,d7,lb,ld,be,g,J,an,N⟩:=ad.form;simp only[enC]at be g J an N;rw[c7.out]at g J;rw[c5.out]at g an;clear ad;obtain⟨bg,bb⟩:=xR ai.length;rw[bb]at g N;obtain⟨f0,f1,f2,f3,f4,f5,-⟩:=n.g6;have k0:=H.cell 0;simp at k0;have ef:=g.free;have es:=g.size;obtain⟨-,-,-,-,-,-,e6,e7,e8,e9,cj,ck,-⟩:=g.g12;go_wp2_with fail
  try rw[qU]
  obtain⟨u,K⟩:=xL ((((((O.setCell (Ad d 6) (Vi T)).setCell (Ad d 7) (Vi U)).setCell (Ad d 8) (Vi V)).setCell (Ad d 9) (Vi Z)).setCell (Ad d 10) (Sq o x s)).setCell (Ad d 11) (Vi e.hi));rw[<-K];have au:Holds u d 117 #[Sq ub A ud,Vi m.2,Vu 1,Vi r,Vi i,Vi a,Vi T,Vi U,Vi V,Vi Z,Sq o x s,Vi e.hi,Sq lb bg ld,Vi (min t 1099511627775+1)]:=by
   have av:=((((((g.set 6 (Vi T)).set 7 (Vi U)).set 8 (Vi V)).set 9 (Vi Z)).set 10 (Sq o x s)).set 11 (Vi e.hi));simp only[List.setIfInBounds_toArray,List.set_cons_zero,List.set_cons_succ]at av;rw[K];exact av
  have a8:O.grownBy u (some d):=by rw[K];exact yw d [Vi T,Vi U,Vi V,Vi Z,Sq o x s,Vi e.hi] 6 O
  have C:yO O u:=Ae (K:=ub) (M:=A) (L:=ud) (c:=⟨m,1,r,i,a⟩) g a8;have hR:c9=(ai,[]):=by rw[<-c6.out,<-b8.out];simp[wayE]
  have hE:EnB u d ⟨⟨m,1,r,i,a⟩,e,ai,min t 1099511627775+1⟩:=⟨_,T,U,V,Z,_,_,ap.out,au,C.st _ _ hn J,C.ev _ _ (aw.out▸z),C.ms _ _ N⟩;have hO:qj 5 w.1.size 129 otR u Vn []:=xV al.out g (by decide) a8 (fun ao cs h=>by obtain⟨ab,ag,e1,aq⟩:=h;exact⟨ab,ag,e1,C.mt _ _ _ aq⟩);have b7:=hiD (⟨hE,zM M a8,l.trans C,hO⟩:_∧_∧_∧_);clear au a8 C hE hO K;go_ret;rw[hR];exact⟨_,rfl,b7.out⟩
 ·obtain rfl:(.func (.func 266) #[] #[Vp xb 0]:Value)=wv:=c8.out;have c':∀w,(binOp .neq 314 (.func (.func 266) #[] #[Vp xb 0]) .nilFunc).run prog w= .ok (Vb true) w:=fun w=>by kernel_rfl
  go_wp2_with fail;refine(way3 ⟨⟨m,1,r,i,a⟩,f,az,min t 1099511627775+1⟩ HH.out.hS.ok HH.out.conf e ⟨2,⟨ts,ak,aj,kd,re,im⟩,rs,rt⟩ HH.out.hS.sok (.agg #[Vi T,Vi U,Vi V,Vi Z,Sq o x s,Vi e.hi]) d xb w3 ⟨_,m0,m1,m2,m3,_,_,hm,ay,l.st _ _ hn b3,l.ev _ _ hk,l.ms _ _ hd⟩ ⟨T,U,V,Z,_,ap.out,rfl,z⟩ bf).mono ?_;rintro ab O ⟨ov,rfl,ax,ct⟩;have ae:=yO.below ct;have ac:w3.grownBy O (some d):=xz ct;have ad:EnB O d ⟨⟨m,1,r,i,a⟩,f,az,min t 1099511627775+1⟩:=⟨_,m0,m1,m2,m3,_,_,hm,ay.later ct,(l.trans ae).st _ _ hn b3,(l.trans ae).ev _ _ hk,(l.trans ae).ms _ _ hd⟩;obtain⟨oa,bh,oc,rfl⟩:∃oa bh oc,ov=Sq oa bh oc:=by
   obtain⟨oa,oc,d2⟩:=qh ax.row.choose_spec;exact⟨_,_,_,d2⟩
  have cc:w.1.size<=w3.1.size:=M.size;have al:=hiD (ax.less cc);clear ax;replace M:=zM M ac;replace l:=l.trans ae;replace n:=zY ac n (by omega);replace H:=zY ac H (by omega);replace z:=ae.ev _ _ z;obtain⟨ai,ah⟩:=xR az;have b8:=hiD ah
  try simp only at ad
  rw[ah]at ad;clear ah ac ae ay bl bf f0 f1 f2 f3 f4 f5 k0 k1 k2 k3 k4 k5 k6 k7;obtain⟨ub,ud,da,db,dc,dd,kb,d7,lb,ld,be,g,J,an,N⟩:=ad.form;simp only[enC]at be g J an N;rw[c7.out]at g J;rw[c5.out]at g an;clear ad;obtain⟨bg,bb⟩:=xR ai.length;rw[bb]at g N;obtain⟨f0,f1,f2,f3,f4,f5,-⟩:=n.g6;have k0:=H.cell 0;simp at k0;go_wp2_with fail;have CP:=hiD (fun W' (bx:Bz O W')=>If ⟨m,1,r,i,a⟩ e (by rw[aw.out];exact d0) (.agg (cfC (Sq ub A ud) ⟨m,1,r,i,a⟩)) (.agg #[Vi T,Vi U,Vi V,Vi Z,Sq o x s,Vi e.hi]) W' ⟨_,rfl,(J.mono bx nLe).1⟩ ⟨T,U,V,Z,_,ap.out,rfl,z.later bx⟩);simp only[cfC]at CP;obtain⟨y,b9⟩:=xR (B3 ⟨m,1,r,i,a⟩ e);rw[b9]at CP;have ch:=hiD b9;clear b9;have HC:=hiD (fun w' (j:Bz O w')=>(⟨(g.later j).cell 0,(g.later j).cell 1,(g.later j).cell 2,(g.later j).cell 3,(g.later j).cell 4,(g.later j).cell 5,(n.later j).cell 0,(n.later j).cell 1,(n.later j).cell 2,(n.later j).cell 3,(n.later j).cell 4,(n.later j).cell 5⟩:
   Cq w' d 0 (Sq ub A ud)∧Cq w' d 1 (Vi m.2)∧Cq w' d 2 (Vu 1)∧Cq w' d 3 (Vi r)∧Cq w' d 4 (Vi i)∧Cq w' d 5 (Vi a)∧
   Cq w' E 0 (Vi T)∧Cq w' E 1 (Vi U)∧Cq w' E 2 (Vi V)∧Cq w' E 3 (Vi Z)∧Cq w' E 4 (Sq o x s)∧Cq w' E 5 (Vi e.hi)))
  have dz:=g.size;have cu:d≠E:=by omega
  have d3:w.1.size<=E:=Nat.le_trans X.size bc;clear f0 f1 f2 f3 f4 f5 k0;refine qO [(true,0),(true,1),(true,2),(true,3),(true,4),(false,5)] 6 [] (by kernel_rfl) (by kernel_rfl) (fun w'=>Bz O w') bRf.drew (fun _ _ bu _ _ h=>by cases bu<;>exact h) ?_;simp only[qI,xx,List.getElem?_cons_zero,List.getElem?_cons_succ]
  repeat (refine zX rfl (fun w' hS=>by obtain⟨g0,g1,g2,g3,g4,g5,g6,g7,g8,g9,bv,bw⟩:=HC.out w' hS;(go_simp<;>rfl)) ?_)
  simp only[Act.put,List.setIfInBounds_toArray,List.set_cons_succ,List.set_cons_zero];refine zQ rfl ?_;go_simp;refine(CP.out _ (Below.refl O.1.size O).drew).mono ?_;rintro ab w5 ⟨_,rfl,⟨I,R,S,W,ok,c0,rfl,b2⟩,k⟩;obtain⟨Q,aa,rfl,-⟩:=b2.form;have a9:Bz O w5:=(Below.refl O.1.size O).drew.trans k;obtain⟨ol,bd⟩:=xR y.2.length;have cg:=hiD c0;have ce:=hiD a9;rw[bd]at b2;simp only[foC,bd];have c4:=g.later a9;have q:=n.later a9;have bz:=qD N a9;have c1:=J.mono a9 nLe;have br:=hiD (l.trans (yO.below a9));have bs:=hiD (zM M (xz a9));have bq:=hiD ((show Kept (fun af=>qj 5 w.1.size 129 otR af _ _)from qj.kept otR.kept _ _).later al.out a9);clear CP HC g n N J a9 k c0 an l M al H z bd;refine⟨ce.out,?_⟩;refine vf ?_;obtain⟨f0,f1,f2,f3,f4,f5,ff,fs⟩:=q.g6;go_step;go_simp;obtain⟨wq,bn⟩:=xL ((((((w5.setCell (Ad E 0) (Vi I)).setCell (Ad E 1) (Vi R)).setCell (Ad E 2) (Vi S)).setCell (Ad E 3) (Vi W)).setCell (Ad E 4) (Sq Q ol aa)).setCell (Ad E 5) (Vi y.hi));rw[<-bn];have b4:wq=w5.setCells E 0 [Vi I,Vi R,Vi S,Vi W,Sq Q ol aa,Vi y.hi]:=bn;clear bn;have b1:w5.grownBy wq (some E):=by rw[b4];exact yw E [Vi I,Vi R,Vi S,Vi W,Sq Q ol aa,Vi y.hi] 0 w5
  have am:yO w5 wq:=vD q (by decide) (by decide) (by decide) (by decide) b1;have g:=c4.farSets [Vi I,Vi R,Vi S,Vi W,Sq Q ol aa,Vi y.hi] 0 (show d≠E from cu);rw[<-b4]at g;have n:Holds wq E 114 #[Vi I,Vi R,Vi S,Vi W,Sq Q ol aa,Vi y.hi]:=by rw[b4];exact q.setsAll [Vi I,Vi R,Vi S,Vi W,Sq Q ol aa,Vi y.hi] rfl
  have J:=am.st _ _ hn c1;have N:=am.ms _ _ bz;have z:=am.ev _ _ b2;have l:=br.out.trans am;have M:=Ml bs.out b1 d3;have al:=hiD (xV bq.out q (by decide) b1 (fun ao cs h=>by obtain⟨ab,ag,e1,aq⟩:=h;exact⟨ab,ag,e1,am.mt _ _ _ aq⟩));clear b4 b1 am c4 q c1 bz b2 f0 f1 f2 f3 f4 f5 ff fs bq br bs;obtain⟨f0,f1,f2,f3,f4,f5,-⟩:=n.g6;rename_i cv;refine cv _ _ ?_;have ef:=g.free;have es:=g.size;obtain⟨-,-,-,-,-,-,e6,e7,e8,e9,cj,ck,-⟩:=g.g12;go_wp2_with fail
  try rw[qU]
  obtain⟨u,K⟩:=xL ((((((wq.setCell (Ad d 6) (Vi I)).setCell (Ad d 7) (Vi R)).setCell (Ad d 8) (Vi S)).setCell (Ad d 9) (Vi W)).setCell (Ad d 10) (Sq Q ol aa)).setCell (Ad d 11) (Vi y.hi));rw[<-K];have au:Holds u d 117 #[Sq ub A ud,Vi m.2,Vu 1,Vi r,Vi i,Vi a,Vi I,Vi R,Vi S,Vi W,Sq Q ol aa,Vi y.hi,Sq lb bg ld,Vi (min t 1099511627775+1)]:=by
   have av:=((((((g.set 6 (Vi I)).set 7 (Vi R)).set 8 (Vi S)).set 9 (Vi W)).set 10 (Sq Q ol aa)).set 11 (Vi y.hi));simp only[List.setIfInBounds_toArray,List.set_cons_zero,List.set_cons_succ]at av;rw[K];exact av
  have a8:wq.grownBy u (some d):=by rw[K];exact yw d [Vi I,Vi R,Vi S,Vi W,Sq Q ol aa,Vi y.hi] 6 wq
  have C:yO wq u:=Ae (K:=ub) (M:=A) (L:=ud) (c:=⟨m,1,r,i,a⟩) g a8;have hR:c9=(ai,(Eu ⟨m,1,r,i,a⟩ f e)):=by rw[<-c6.out,<-b8.out];simp[wayE]
  have hE:EnB u d ⟨⟨m,1,r,i,a⟩,y,ai,min t 1099511627775+1⟩:=⟨_,I,R,S,W,_,_,cg.out,au,C.st _ _ hn J,C.ev _ _ z,C.ms _ _ N⟩;have hO:qj 5 w.1.size 129 otR u (Sq oa bh oc) (Eu ⟨m,1,r,i,a⟩ f e):=xV al.out g (by decide) a8 (fun ao cs h=>by obtain⟨ab,ag,e1,aq⟩:=h;exact⟨ab,ag,e1,C.mt _ _ _ aq⟩);have b7:=hiD (⟨hE,zM M a8,l.trans C,hO⟩:_∧_∧_∧_);clear au a8 C hE hO K;go_ret;rw[hR,if_pos rfl,ch.out];exact⟨_,rfl,b7.out⟩
 ·obtain rfl:(.func (.func 262) #[] #[Vp pb 0,Vp xb 0]:Value)=wv:=c8.out;have c':∀w,(binOp .neq 314 (.func (.func 262) #[] #[Vp pb 0,Vp xb 0]) .nilFunc).run prog w= .ok (Vb true) w:=fun w=>by kernel_rfl
  go_wp2_with fail;obtain⟨h1,h2⟩:=HH.out.h21 rfl rfl;refine(way1 ⟨⟨m,2,r,i,a⟩,f,az,min t 1099511627775+1⟩ h1 hn HH.out.hS.ok e ⟨1,⟨ts,ak,aj,kd,re,im⟩,rs,rt⟩ h2 (.agg #[Vi T,Vi U,Vi V,Vi Z,Sq o x s,Vi e.hi]) (Sq ua A uc) d pb xb w3 ⟨_,m0,m1,m2,m3,_,_,hm,ay,l.st _ _ hn b3,l.ev _ _ hk,l.ms _ _ hd⟩ ⟨T,U,V,Z,_,ap.out,rfl,z⟩ bl (l.st _ _ hn b3).1 bf).mono ?_;rintro ab O ⟨ov,rfl,ad,ac,ae,ax⟩;obtain⟨oa,bh,oc,rfl⟩:∃oa bh oc,ov=Sq oa bh oc:=by
   obtain⟨oa,oc,d2⟩:=qh ax.row.choose_spec;exact⟨_,_,_,d2⟩
  have cc:w.1.size<=w3.1.size:=M.size;have al:=hiD (ax.less cc);clear ax;replace M:=zM M ac;replace l:=l.trans ae;replace n:=zY ac n (by omega);replace H:=zY ac H (by omega);replace z:=ae.ev _ _ z;obtain⟨ai,ah⟩:=xR (addM m [] (rawW m e.2));have b8:=hiD ah
  try simp only at ad
  rw[ah]at ad;clear ah ac ae ay bl bf f0 f1 f2 f3 f4 f5 k0 k1 k2 k3 k4 k5 k6 k7;obtain⟨ub,ud,da,db,dc,dd,kb,d7,lb,ld,be,g,J,an,N⟩:=ad.form;simp only[enC]at be g J an N;rw[c7.out]at g J;rw[c5.out]at g an;clear ad;obtain⟨bg,bb⟩:=xR ai.length;rw[bb]at g N;obtain⟨f0,f1,f2,f3,f4,f5,-⟩:=n.g6;have k0:=H.cell 0;simp at k0;have ef:=g.free;have es:=g.size;obtain⟨-,-,-,-,-,-,e6,e7,e8,e9,cj,ck,-⟩:=g.g12;go_wp2_with fail
  try rw[qU]
  obtain⟨u,K⟩:=xL ((((((O.setCell (Ad d 6) (Vi T)).setCell (Ad d 7) (Vi U)).setCell (Ad d 8) (Vi V)).setCell (Ad d 9) (Vi Z)).setCell (Ad d 10) (Sq o x s)).setCell (Ad d 11) (Vi e.hi));rw[<-K];have au:Holds u d 117 #[Sq ub A ud,Vi m.2,Vu 2,Vi r,Vi i,Vi a,Vi T,Vi U,Vi V,Vi Z,Sq o x s,Vi e.hi,Sq lb bg ld,Vi (min t 1099511627775+1)]:=by
   have av:=((((((g.set 6 (Vi T)).set 7 (Vi U)).set 8 (Vi V)).set 9 (Vi Z)).set 10 (Sq o x s)).set 11 (Vi e.hi));simp only[List.setIfInBounds_toArray,List.set_cons_zero,List.set_cons_succ]at av;rw[K];exact av
  have a8:O.grownBy u (some d):=by rw[K];exact yw d [Vi T,Vi U,Vi V,Vi Z,Sq o x s,Vi e.hi] 6 O
  have C:yO O u:=Ae (K:=ub) (M:=A) (L:=ud) (c:=⟨m,2,r,i,a⟩) g a8;have hR:c9=(ai,((rawW m e.2).map fun d8=>(⟨1,d8,0,0⟩:Ot))):=by rw[<-c6.out,<-b8.out];simp[wayE]
  have hE:EnB u d ⟨⟨m,2,r,i,a⟩,e,ai,min t 1099511627775+1⟩:=⟨_,T,U,V,Z,_,_,ap.out,au,C.st _ _ hn J,C.ev _ _ (aw.out▸z),C.ms _ _ N⟩;have hO:qj 5 w.1.size 129 otR u (Sq oa bh oc) ((rawW m e.2).map fun d8=>(⟨1,d8,0,0⟩:Ot)):=xV al.out g (by decide) a8 (fun ao cs h=>by obtain⟨ab,ag,e1,aq⟩:=h;exact⟨ab,ag,e1,C.mt _ _ _ aq⟩);have b7:=hiD (⟨hE,zM M a8,l.trans C,hO⟩:_∧_∧_∧_);clear au a8 C hE hO K;go_ret;rw[hR];exact⟨_,rfl,b7.out⟩
 ·obtain rfl:(.func (.func 264) #[] #[Vp pb 0,Vp xb 0]:Value)=wv:=c8.out;have c':∀w,(binOp .neq 314 (.func (.func 264) #[] #[Vp pb 0,Vp xb 0]) .nilFunc).run prog w= .ok (Vb true) w:=fun w=>by kernel_rfl
  go_wp2_with fail;obtain⟨h1,h2⟩:=HH.out.h22 rfl rfl;refine(way2 ⟨⟨m,2,r,i,a⟩,f,az,min t 1099511627775+1⟩ HH.out.hS.ok hn h1 h2 e ⟨2,⟨ts,ak,aj,kd,re,im⟩,rs,rt⟩ (.agg #[Vi T,Vi U,Vi V,Vi Z,Sq o x s,Vi e.hi]) (Sq ua A uc) d pb xb w3 ⟨_,m0,m1,m2,m3,_,_,hm,ay,l.st _ _ hn b3,l.ev _ _ hk,l.ms _ _ hd⟩ ⟨T,U,V,Z,_,ap.out,rfl,z⟩ bl (l.st _ _ hn b3).1 bf).mono ?_;rintro ab O ⟨rfl,ad,ac,ae⟩;have ax:qj 5 w.1.size 129 otR O Vn []:=qj.nil _ _ _ _ _;have cc:w.1.size<=w3.1.size:=M.size;have al:=hiD ax;clear ax;replace M:=zM M ac;replace l:=l.trans ae;replace n:=zY ac n (by omega);replace H:=zY ac H (by omega);replace z:=ae.ev _ _ z;obtain⟨ai,ah⟩:=xR (vY m az (yM ⟨m,2,r,i,a⟩ e));have b8:=hiD ah
  try simp only at ad
  rw[ah]at ad;clear ah ac ae ay bl bf f0 f1 f2 f3 f4 f5 k0 k1 k2 k3 k4 k5 k6 k7;obtain⟨ub,ud,da,db,dc,dd,kb,d7,lb,ld,be,g,J,an,N⟩:=ad.form;simp only[enC]at be g J an N;rw[c7.out]at g J;rw[c5.out]at g an;clear ad;obtain⟨bg,bb⟩:=xR ai.length;rw[bb]at g N;obtain⟨f0,f1,f2,f3,f4,f5,-⟩:=n.g6;have k0:=H.cell 0;simp at k0;go_wp2_with fail;have CP:=hiD (fun W' (bx:Bz O W')=>If ⟨m,2,r,i,a⟩ e (by rw[aw.out];exact d0) (.agg (cfC (Sq ub A ud) ⟨m,2,r,i,a⟩)) (.agg #[Vi T,Vi U,Vi V,Vi Z,Sq o x s,Vi e.hi]) W' ⟨_,rfl,(J.mono bx nLe).1⟩ ⟨T,U,V,Z,_,ap.out,rfl,z.later bx⟩);simp only[cfC]at CP;obtain⟨y,b9⟩:=xR (B3 ⟨m,2,r,i,a⟩ e);rw[b9]at CP;have ch:=hiD b9;clear b9;have HC:=hiD (fun w' (j:Bz O w')=>(⟨(g.later j).cell 0,(g.later j).cell 1,(g.later j).cell 2,(g.later j).cell 3,(g.later j).cell 4,(g.later j).cell 5,(n.later j).cell 0,(n.later j).cell 1,(n.later j).cell 2,(n.later j).cell 3,(n.later j).cell 4,(n.later j).cell 5⟩:
   Cq w' d 0 (Sq ub A ud)∧Cq w' d 1 (Vi m.2)∧Cq w' d 2 (Vu 2)∧Cq w' d 3 (Vi r)∧Cq w' d 4 (Vi i)∧Cq w' d 5 (Vi a)∧
   Cq w' E 0 (Vi T)∧Cq w' E 1 (Vi U)∧Cq w' E 2 (Vi V)∧Cq w' E 3 (Vi Z)∧Cq w' E 4 (Sq o x s)∧Cq w' E 5 (Vi e.hi)))
  have dz:=g.size;have cu:d≠E:=by omega
  have d3:w.1.size<=E:=Nat.le_trans X.size bc;clear f0 f1 f2 f3 f4 f5 k0;refine qO [(true,0),(true,1),(true,2),(true,3),(true,4),(false,5)] 6 [] (by kernel_rfl) (by kernel_rfl) (fun w'=>Bz O w') bRf.drew (fun _ _ bu _ _ h=>by cases bu<;>exact h) ?_;simp only[qI,xx,List.getElem?_cons_zero,List.getElem?_cons_succ]
  repeat (refine zX rfl (fun w' hS=>by obtain⟨g0,g1,g2,g3,g4,g5,g6,g7,g8,g9,bv,bw⟩:=HC.out w' hS;(go_simp<;>rfl)) ?_)
  simp only[Act.put,List.setIfInBounds_toArray,List.set_cons_succ,List.set_cons_zero];refine zQ rfl ?_;go_simp;refine(CP.out _ (Below.refl O.1.size O).drew).mono ?_;rintro ab w5 ⟨_,rfl,⟨I,R,S,W,ok,c0,rfl,b2⟩,k⟩;obtain⟨Q,aa,rfl,-⟩:=b2.form;have a9:Bz O w5:=(Below.refl O.1.size O).drew.trans k;obtain⟨ol,bd⟩:=xR y.2.length;have cg:=hiD c0;have ce:=hiD a9;rw[bd]at b2;simp only[foC,bd];have c4:=g.later a9;have q:=n.later a9;have bz:=qD N a9;have c1:=J.mono a9 nLe;have br:=hiD (l.trans (yO.below a9));have bs:=hiD (zM M (xz a9));have bq:=hiD ((show Kept (fun af=>qj 5 w.1.size 129 otR af _ _)from qj.kept otR.kept _ _).later al.out a9);clear CP HC g n N J a9 k c0 an l M al H z bd;refine⟨ce.out,?_⟩;refine vf ?_;obtain⟨f0,f1,f2,f3,f4,f5,ff,fs⟩:=q.g6;go_step;go_simp;generalize bn:World.setCell _ _ _=wq;have b4:wq=w5.setCells E 0 [Vi I,Vi R,Vi S,Vi W,Sq Q ol aa,Vi y.hi]:=bn.symm;clear bn;have b1:w5.grownBy wq (some E):=by rw[b4];exact yw E [Vi I,Vi R,Vi S,Vi W,Sq Q ol aa,Vi y.hi] 0 w5
  have am:yO w5 wq:=vD q (by decide) (by decide) (by decide) (by decide) b1;have g:=c4.farSets [Vi I,Vi R,Vi S,Vi W,Sq Q ol aa,Vi y.hi] 0 (show d≠E from cu);rw[<-b4]at g;have n:Holds wq E 114 #[Vi I,Vi R,Vi S,Vi W,Sq Q ol aa,Vi y.hi]:=by rw[b4];exact q.setsAll [Vi I,Vi R,Vi S,Vi W,Sq Q ol aa,Vi y.hi] rfl
  have J:=am.st _ _ hn c1;have N:=am.ms _ _ bz;have z:=am.ev _ _ b2;have l:=br.out.trans am;have M:=Ml bs.out b1 d3;have al:=hiD (xV bq.out q (by decide) b1 (fun ao cs h=>by obtain⟨ab,ag,e1,aq⟩:=h;exact⟨ab,ag,e1,am.mt _ _ _ aq⟩));clear b4 b1 am c4 q c1 bz b2 f0 f1 f2 f3 f4 f5 ff fs bq br bs;obtain⟨f0,f1,f2,f3,f4,f5,-⟩:=n.g6;rename_i cv;refine cv _ _ ?_;have ef:=g.free;have es:=g.size;obtain⟨-,-,-,-,-,-,e6,e7,e8,e9,cj,ck,-⟩:=g.g12;go_wp2_with fail
  try rw[qU]
  obtain⟨u,K⟩:=xL ((((((wq.setCell (Ad d 6) (Vi I)).setCell (Ad d 7) (Vi R)).setCell (Ad d 8) (Vi S)).setCell (Ad d 9) (Vi W)).setCell (Ad d 10) (Sq Q ol aa)).setCell (Ad d 11) (Vi y.hi));rw[<-K];have au:Holds u d 117 #[Sq ub A ud,Vi m.2,Vu 2,Vi r,Vi i,Vi a,Vi I,Vi R,Vi S,Vi W,Sq Q ol aa,Vi y.hi,Sq lb bg ld,Vi (min t 1099511627775+1)]:=by
   have av:=((((((g.set 6 (Vi I)).set 7 (Vi R)).set 8 (Vi S)).set 9 (Vi W)).set 10 (Sq Q ol aa)).set 11 (Vi y.hi));simp only[List.setIfInBounds_toArray,List.set_cons_zero,List.set_cons_succ]at av;rw[K];exact av
  have a8:wq.grownBy u (some d):=by rw[K];exact yw d [Vi I,Vi R,Vi S,Vi W,Sq Q ol aa,Vi y.hi] 6 wq
  have C:yO wq u:=Ae (K:=ub) (M:=A) (L:=ud) (c:=⟨m,2,r,i,a⟩) g a8;have hR:c9=(ai,[]):=by rw[<-c6.out,<-b8.out];simp[wayE]
  have hE:EnB u d ⟨⟨m,2,r,i,a⟩,y,ai,min t 1099511627775+1⟩:=⟨_,I,R,S,W,_,_,cg.out,au,C.st _ _ hn J,C.ev _ _ z,C.ms _ _ N⟩;have hO:qj 5 w.1.size 129 otR u Vn []:=xV al.out g (by decide) a8 (fun ao cs h=>by obtain⟨ab,ag,e1,aq⟩:=h;exact⟨ab,ag,e1,C.mt _ _ _ aq⟩);have b7:=hiD (⟨hE,zM M a8,l.trans C,hO⟩:_∧_∧_∧_);clear au a8 C hE hO K;go_ret;rw[hR,if_pos rfl,ch.out];exact⟨_,rfl,b7.out⟩
end
end Go.Proofs.YtnmpcdnbklmhkaaGreatDoor
