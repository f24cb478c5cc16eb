import Derived.Test.YtnmpcdnbklmhkaaGreatDoorQAr
import Derived.Test.YtnmpcdnbklmhkaaGreatDoorQAs
import Derived.Deep.WholeRow
import Derived.Test.YtnmpcdnbklmhkaaGreatDoorQAh
import Derived.Test.YtnmpcdnbklmhkaaGreatDoorQAg
namespace Go.Proofs.YtnmpcdnbklmhkaaGreatDoor
open Go.Proofs.Tryz Go.RowKit
set_option maxRecDepth 100000
set_option linter.all false
set_option maxHeartbeats 8000000
section
attribute [local go_sem] Oper.semAt_some
attribute [local go_sem ↓] Go.wp_at_zero Go.wp_at_succ
theorem Fa {w:World} {u:Value} {q:List St} (s:qN w u q) {i:Nat} {p:St} (r:q[i]?=some p):∃b n c d a,u=Sq (some ⟨b,n,none⟩) q.length c∧q.length<=c∧yQ w (Sq d p.6.length a) p.6∧
  w.cell? ⟨b,n+i*6,none⟩=some (Vb p.neg)∧w.cell? ⟨b,n+i*6+1,none⟩=some (Vi p.kind)∧w.cell? ⟨b,n+i*6+2,none⟩=some (Vi p.min)∧w.cell? ⟨b,n+i*6+3,none⟩=some (Vi p.max)∧w.cell? ⟨b,n+i*6+4,none⟩=some (Vb p.5)∧w.cell? ⟨b,n+i*6+5,none⟩=some (Sq d p.6.length a):=by
 obtain⟨b,n,c,l,x,m,k,o,t,d,a,j,g,e,h,f⟩:=vP s (jG.1 r).1;rw[r]at e;cases e;exact⟨b,n,c,d,a,j,g,h,f⟩
def tsB (e:Ev):Prop:=-1<=e.ts∧e.ts<=4611686018427387904
theorem JB {p:Pt} (hp:PtOk p) (s:List Ev) (b':s.length<=1000000) (d:List Ev) (cb:d.length<=1) (x:Ev)
  (bd:∀l f,d.getLast?=some l->d.head?=some f->x.kind=d.length->lessE l x=true∧x.ts-f.ts<=p.2∧Db s l=some x)
  (bk:∀x∈d,tsB x) (hx:tsB x) (u v av:Value) (k n rc:Nat) (bh:2<=rc) (w:World) (hs:qN w u p.1) (hr:RowT 5 36 evV w v s) (h0:w.cell? ⟨k,n,none⟩=some (Vi 0)) (h1:w.cell? ⟨k,n+1,none⟩=some (Vi 1)) (a9:RowT 5 36 evV w av d):
  Cs 285 #[FG u p.2 v,.slice (some ⟨k,n,none⟩) 2 rc,av,evA x] w (Rw w (.bool (EP d x))):=by
 have cf:=hst1;have bw:d.length<p.1.length:=by rw[hp.len];omega
 have ad:p.1[d.length]?=some p.1[d.length]:=jB bw;generalize p.1[d.length]=r at*;have ac:r.kind=d.length∧(0<d.length->r.5=true):=by
  rcases st_two hp ad with⟨a8,rfl⟩|⟨a8,rfl⟩<;>rw[a8]<;>exact⟨rfl,fun h=>by first|rfl|omega⟩
 have ba:r.6=[]:=hp.noC r (jY ad);have p0:Cq w k (n+d.length) (Vi d.length):=by
  rcases(show d.length=0∨d.length=1 by omega)with a8|a8<;>rw[a8]
  ·exact h0
  ·exact h1
 obtain⟨W0,a5⟩:=xR ((w.alloc (.cells #[u,Vi p.2,v] 350)).alloc (.cells (evV x).toArray 36));have z1:Holds W0 w.1.size 350 #[u,Vi p.2,v]:=by rw[<-a5];exact(Holds.fresh w _ _).alloc _
 have z2:Holds W0 (w.1.size+1) 36 (evV x).toArray:=by rw[<-a5];exact Holds.fresh' (by simp) _ _
 have Q:Bz w W0:=by rw[<-a5];exact bB.alloc (by simp) _
 obtain⟨sb,so,sc,ca,cc,rfl,ce,bb,t0,t1,t2,t3,t4,t5⟩:=Fa hs ad;obtain⟨va,vc,rfl,_⟩:=hr.form;obtain⟨aa,X,rfl,_⟩:=a9.form;have cd:=a9.1.small;have ay:=hiD (fun W (a:Bz w W)=>ET hp d (by omega) k n rc bh (.agg #[Vs sb so p.1.length sc,Vi p.2]) (.slice aa d.length X) W ⟨_,rfl,hs.mono a nLe⟩ (qd a nLe h0) (qd a nLe h1) (a9.later a));have ax:=hiD (fun (O:Array Value) (hn:NmOk O) W a=>Mk r ba d.length (by omega) hn x (.slice ca r.6.length cc) W (bb.mono (a:Bz w W) nLe));have bi:EP d x=decide (r.kind=x.kind):=by unfold EP;rw[ac.1,Bool.eq_iff_iff,decide_eq_true_eq,decide_eq_true_eq];exact eq_comm
 rw[bi];have be:decide (r.kind=x.kind)=true->∀l f,d.getLast?=some l->d.head?=some f->lessE l x=true∧x.ts-f.ts<=p.2∧Db s l=some x:=fun h l f hl hf=>bd l f hl hf (by rw[<-of_decide_eq_true h];exact ac.1);clear bi;generalize decide (r.kind=x.kind)=mb at*;have HX:=hiD hx;have b0:=hiD bk;have az:=hiD be;have a':=hiD ac.2;have HS:=hiD hs;have HR:=hiD hr;have bm:=hiD a9;have H0:=hiD h0;have H1:=hiD h1;clear hs hr a9 ad bk hx bb bd be ac h0 h1 ba;replace t0:=qd Q nLe t0;replace t1:=qd Q nLe t1;replace t2:=qd Q nLe t2;replace t3:=qd Q nLe t3;replace t4:=qd Q nLe t4;replace t5:=qd Q nLe t5;replace p0:=qd Q nLe p0;obtain⟨ng,kd,mn,mx,sr,bp⟩:=r;simp only at*;obtain⟨i,c,g,z,y,B⟩:=x;unfold FG at*;simp only[evA,evV,stA]at*;obtain⟨v0,v1,v2,-⟩:=z1.g3;have g1:((d.length:Nat):Int)<p.1.length:=by omega
 have g2:((d.length:Nat):Int)<2:=by omega
 have HW:=hiD a5;clear a5;generalize hN:d.length=bl at*;have HN:=hiD hN;clear hN;generalize hC:bp.length=cl at*;go_enter func285,ntmps285
 iterate 9 (first|go_values|go_skip|go_guarded|go_step|go_upon|go_back|go_simp)
 rw[HW.out];have bv:=Q.size;have c7:w.1.size+1<W0.1.size:=z2.size;have M:=z1.alloc (.cells #[.bool ng,Vi kd,Vi mn,Vi mx,.bool sr,.slice ca cl cc] 63);have L:=z2.alloc (.cells #[.bool ng,Vi kd,Vi mn,Vi mx,.bool sr,.slice ca cl cc] 63);have S:=Holds.fresh W0 63 #[.bool ng,Vi kd,Vi mn,Vi mx,.bool sr,.slice ca cl cc];obtain⟨c5,c6,-⟩:=M.g2;have aj:=Q.alloc bv (.cells #[.bool ng,Vi kd,Vi mn,Vi mx,.bool sr,.slice ca cl cc] 63);go_wp2_with fail;refine zE 0 rfl ?_;go_wp2_with fail;refine(ay.out _ aj).mono ?_;rintro a4 V ⟨O,rfl,ao,ae⟩;replace M:=M.later ae;replace L:=L.later ae;replace S:=S.later ae;have b7:=aj.trans (ae.mono aj.size);have a0:=ao.size;have bz:=ao.one;clear t0 t1 t2 t3 t4 t5 p0 v0 v1 v2 z1 z2;replace M:=M.alloc (.cells O 399);replace L:=L.alloc (.cells O 399);replace S:=S.alloc (.cells O 399);have Z:=Holds.fresh V 399 O;have ak:=b7.alloc b7.size (.cells O 399);obtain⟨v0,v1,v2,-⟩:=M.g3;obtain⟨e0,e1,e2,e3,e4,-⟩:=L.g5;obtain⟨t0,t1,t2,t3,t4,t5,-⟩:=S.g6;go_wp2_with (first
  |(refine wpList_store_row rfl 399 (.tmp 12) (.tmp 32) rfl V.1.size O rfl rfl 399 _ (Holds.fresh V _ _) (by rw[a0];kernel_rfl) (by rw[a0];rfl) bz ?_;rw[World.setRow_alloc_new])
  |(refine wpList_load_row rfl 399 (.tmp 12) rfl V.1.size rfl 399 O (0,0) _ Z underlying399 rfl (by rw[a0];kernel_rfl) ?_))
 have au:=hiD (ax.out O ao _ ak);generalize br:V.alloc (.cells O 399)=W2 at*;clear br;refine au.out.mono ?_;rintro a4 w3 ⟨rfl,a7⟩;have a6:=ak.trans (a7.mono ak.size);replace M:=M.later a7;replace L:=L.later a7;replace S:=S.later a7;replace Z:=Z.later a7;clear v0 v1 v2 e0 e1 e2 e3 e4 t0 t1 t2 t3 t4 t5 ax ay au c5 c6;cases mb
 ·go_wp2_with fail;apply wp_goto;refine xS ?_;go_wp2_with fail;rw[dD];go_ret;exact⟨rfl,a6⟩
 ·rcases Nat.eq_zero_or_pos bl with bg|bg
  ·subst bg;go_wp2_with fail;rw[qU];go_ret;exact⟨rfl,a6⟩
  ·obtain rfl:bl=1:=by omega
   have cg:IntKind.i64.wrap 0=0:=by decide
   obtain⟨D,E,c8,q,m,o,I,F,H,ee,-,ah,R,l1,l2,T,U⟩:=yq (bm.out.1.later a6) (show 0<d.length by rw[HN.out];omega);rw[HN.out]at ee;cases ee;simp only[Nat.zero_mul,Nat.add_zero]at R l1 l2 T U;have bc:d.getLast?=some ⟨q,m,o,I,F,H⟩:=by rw[List.getLast?_eq_getElem?,HN.out];exact ah
   have bf:d.head?=some ⟨q,m,o,I,F,H⟩:=by rw[List.head?_eq_getElem?];exact ah
   obtain⟨b4,b5,b6⟩:=az.out rfl _ _ bc bf;have bj:=a'.out (by omega);have ap:=b0.out _ (jY ah);have aq:=HX.out;unfold tsB at ap aq;simp only at ap aq;have ch:IntKind.i64.wrap (i-q)=i-q:=by rw[IntKind.wrap_i64];omega
   clear ah bc bf b0 HX ap aq az a';have CL:=fun W=>yN ⟨q,m,o,I,F,H⟩ ⟨i,c,g,z,y,B⟩ W;rw[b4]at CL;simp only[evA,evV]at CL;have ar:=hiD (Calls.rel CL w3);clear CL b4;simp only at bj b5;subst bj;have c9:decide (p.2<i-q)=false:=decide_eq_false (by omega);clear b5;obtain⟨e0,e1,e2,e3,e4,-⟩:=L.l5;obtain⟨v0,v1,v2,-⟩:=M.l3;have g0:∀u:Lat w3,Cq u.v D E (Vi q):=fun u=>u.cell (R);have bq:∀u:Lat w3,Cq u.v D (E+1) (Vi m):=fun u=>u.cell (l1);have g2:∀u:Lat w3,Cq u.v D (E+2) (Vi o):=fun u=>u.cell (l2);have g3:∀u:Lat w3,Cq u.v D (E+3) (Vi I):=fun u=>u.cell (T);have g4:∀u:Lat w3,Cq u.v D (E+4) (.complex .f64 F H):=fun u=>u.cell (U);go_wp2_with fail;refine qz w3 (by kernel_rfl) (by kernel_rfl) bRf ?_
   repeat (go_big_quiet_step (first|with_reducible exact Lat.call ar.out _))
   refine wpQuiet_nil ?_;rintro P ⟨⟨_,J⟩,rfl⟩;clear e0 e1 e2 e3 e4 v0 v1 v2 g0 bq g2 g3 g4 ar;have al:=a6.trans (J.mono a6.size);replace M:=M.later J;replace L:=L.later J;replace S:=S.later J;replace Z:=Z.later J;replace R:=qd J nLe R;replace l1:=qd J nLe l1;replace l2:=qd J nLe l2;replace T:=qd J nLe T;replace U:=qd J nLe U;go_wp2_with fail;have ab:=fun W (a:Bz P W)=>OS ⟨q,m,o,I,F,H⟩ s (.slice va s.length vc) W ((HR.out.later al).later a).1;rw[b6]at ab;simp only[evA,evV,Option.getD_some,Option.isSome_some]at ab;have CB:=hiD ab;clear ab b6;have K:=hiD (fun w' (a:Bz P w')=>(⟨(M.later a).cell 2,qd a nLe R,qd a nLe l1,qd a nLe l2,qd a nLe T,qd a nLe U⟩:
    Cq w' w.1.size 2 (.slice va s.length vc)∧Cq w' D E (Vi q)∧Cq w' D (E+1) (Vi m)∧Cq w' D (E+2) (Vi o)∧Cq w' D (E+3) (Vi I)∧Cq w' D (E+4) (.complex .f64 F H)))
   refine BG [0,1,2,3,4,5,6] 13 7 (by kernel_rfl) (by kernel_rfl) (fun w'=>Bz P w') (bRf.drew) (fun _ _ a2 _ _ h=>by cases a2<;>exact h) ?_;simp only[qI,jM,jN]
   repeat (refine qA rfl (fun w' j=>by obtain⟨g0,g1,g2,g3,g4,g5⟩:=K.out w' j;(go_simp<;>rfl)) ?_)
   show vM _ _ _ _ _ _ _ _ _ _;simp only[Act.put,jC,jL,jK];rename_i bo hK
   suffices HK:∀(bn:Nat) (W':World),Holds W' bn 36 #[Vi i,Vi c,Vi g,Vi z,.complex .f64 y B]->Bz P W'->bo {tmps:=#[.agg #[Vs sb so p.1.length sc,Vi p.2,.slice va s.length vc],Vs k n 2 rc,Vs D E 1 X,.agg #[Vi i,Vi c,Vi g,Vi z,.complex .f64 y B],Vp w.1.size 0,undef,undef,Vp (w.1.size+1) 0,.bool false,Vi 1,Vi 1,Vp W0.1.size 0,Vp V.1.size 0,Vp bn 0,.bool true,Vs D E 1 X,Vi 1,Vs k n 2 rc,Vi 1,Vp k (n+1),Vi 1,Vp w.1.size 0,Vp w.1.size 0,Vs sb so p.1.length sc,Vi 1,Vp sb (so+6),.agg #[.bool ng,Vi kd,Vi mn,Vi mx,.bool true,.slice ca cl cc],Vp w.1.size 0,.agg #[Vs sb so p.1.length sc,Vi p.2],Vs k n 2 rc,Vs D E 1 X,.agg #[Vs k n 2 rc,Vs D E 1 X],.agg O,.agg #[.bool ng,Vi kd,Vi mn,Vi mx,.bool true,.slice ca cl cc],Vi 1,.agg O,.agg #[Vi i,Vi c,Vi g,Vi z,.complex .f64 y B],.bool true,.bool false,Vi 1,.bool false,Vs D E 1 X,Vi 1,Vi 0,Vp D E,.agg #[Vi q,Vi m,Vi o,Vi I,.complex .f64 F H],.agg #[Vi i,Vi c,Vi g,Vi z,.complex .f64 y B],.bool true,.bool false,.bool false,Vp (w.1.size+1) 0,Vi i,Vs D E 1 X,Vp D E,Vp D E,Vi q,Vi (i-q),Vp w.1.size 0,Vp w.1.size 1,Vi p.2,.bool false,.bool false,.tuple #[.agg #[Vi i,Vi c,Vi g,Vi z,.complex .f64 y B],.bool true],Vp w.1.size 2,.slice va s.length vc,Vs D E 1 X,Vi 1,Vi 0,Vp D E,.agg #[Vi q,Vi m,Vi o,Vi I,.complex .f64 F H],.tuple #[.agg #[Vi i,Vi c,Vi g,Vi z,.complex .f64 y B],.bool true],.agg #[Vi i,Vi c,Vi g,Vi z,.complex .f64 y B],.bool true,undef,undef,undef,undef,undef,undef,undef,undef,undef,undef,undef,undef,undef,undef,undef,undef,undef,undef,undef,undef,undef,undef,undef,undef,undef,undef,undef],defers:=[]} W' by
    dsimp only at HK;have am:=(Below.refl P.1.size P).drew;refine yz [7,11] (by kernel_rfl) (by simp) ?_;intro a3 e;simp only[jI,jH,or_false]at e;rcases e with rfl|rfl
    ·refine qq rfl rfl ?_;go_simp;refine(CB.out _ am).mono ?_;rintro a4 w6 ⟨rfl,A⟩;have C:=am.trans (A.mono am.size);go_simp
     try refine And.intro C ?_
     refine Dc (f:=3) (by kernel_rfl) (fun _ _ a2 _ _ h=>by cases a2<;>exact h) [8,9,10] _ _ _ (by kernel_rfl) C (by kernel_rfl) ?_;simp only[qI,jM,jN]
     repeat (refine qA rfl (fun w' j=>by obtain⟨g0,g1,g2,g3,g4,g5⟩:=K.out w' j;(go_simp<;>rfl)) ?_)
     show vM _ _ _ _ _ _ _ _ _ _;simp only[Act.put,jC,jL,jK];refine yz [11] (by kernel_rfl) (by simp) ?_;intro a3 e;simp only[jI,jH,or_false]at e;subst e;refine qq rfl rfl ?_;go_simp;refine⟨C.alloc C.size _,?_⟩;refine yz [12] (by kernel_rfl) (by simp) ?_;intro a3 e;simp only[jI,jH,or_false]at e;subst e;refine qq rfl rfl ?_;go_simp;refine⟨C.alloc C.size _,?_⟩;refine yz [13] (by kernel_rfl) (by simp) ?_;intro a3 e;simp only[jI,jH,or_false]at e;subst e;refine qq rfl rfl ?_;go_simp;refine⟨by kernel_rfl,?_⟩;exact HK _ _ (Holds.fresh w6 _ _) (C.alloc C.size _)
    ·refine qq rfl rfl ?_;go_simp;have af:=((Below.refl P.1.size P).alloc nLe (.cells #[Vi 0,Vi 0,Vi 0,Vi 0,.complex .f64 0 0] 36)).drew;have zz:=(Holds.fresh P 36 #[Vi 0,Vi 0,Vi 0,Vi 0,.complex .f64 0 0]).drew;refine⟨af,?_⟩;refine yz [7] (by kernel_rfl) (by simp) ?_;intro a3 e;simp only[jI,jH,or_false]at e;subst e;refine qq rfl rfl ?_;go_simp;refine(CB.out _ af).mono ?_;rintro a4 w6 ⟨rfl,A⟩;have C:=af.trans (A.mono af.size);have zb:=zz.later A;go_simp
     try refine And.intro C ?_
     refine Dc (f:=2) (by kernel_rfl) (fun _ _ a2 _ _ h=>by cases a2<;>exact h) [8,9,10] _ _ _ (by kernel_rfl) C (by kernel_rfl) ?_;simp only[qI,jM,jN]
     repeat (refine qA rfl (fun w' j=>by obtain⟨g0,g1,g2,g3,g4,g5⟩:=K.out w' j;(go_simp<;>rfl)) ?_)
     show vM _ _ _ _ _ _ _ _ _ _;simp only[Act.put,jC,jL,jK];obtain⟨c0,c1,c2,c3,c4,zf,-⟩:=zb.g5;have zs:=zb.sets5 (Vi i) (Vi c) (Vi g) (Vi z) (.complex .f64 y B);have b8:=Below.sets5 C (b:=P.1.size) nLe (Vi i) (Vi c) (Vi g) (Vi z) (.complex .f64 y B);refine yz [12] (by kernel_rfl) (by simp) ?_;intro a3 e;simp only[jI,jH,or_false]at e;subst e;refine qq rfl rfl ?_;go_simp
     try refine And.intro b8 ?_
     refine yz [13] (by kernel_rfl) (by simp) ?_;intro a3 e;simp only[jI,jH,or_false]at e;subst e;refine qq rfl rfl ?_;go_simp;refine⟨by kernel_rfl,?_⟩;exact HK _ _ zs b8
   intro bn W6 yn A;apply hK;clear hK;have C:=al.trans (A.mono al.size);replace M:=M.later A;replace L:=L.later A;replace S:=S.later A;replace Z:=Z.later A;clear CB K;have hE:∀w,(Op.equalIn 10000 152 (.agg #[Vi i,Vi c,Vi g]) (.agg #[Vi i,Vi c,Vi g])).run prog w= .ok true w:=fun w=>by
    rw[xZ 9998 152 3 underlying152 underlying3 sizeOf3 isAgg3 i c g i c g w];simp
   have C1:=fun W=>kP ⟨i,c,g,z,y,B⟩ W;have C2:=fun W=>kP ⟨i,c,g,z,y,B⟩ W;simp only[evA,evV]at C1 C2;have K1:=hiD (Calls.rel C1 W6);have K2:=hiD (Calls.rel C2 W6);clear C1 C2;obtain⟨e0,e1,e2,e3,e4,-⟩:=L.l5;obtain⟨n0,n1,n2,n3,n4,-⟩:=yn.l5;have s4:∀u:Lat W6,Cq u.v W0.1.size 4 (.bool true):=fun u=>u.cell (S.cell 4);go_wp2_with fail;refine qz W6 (by kernel_rfl) (by kernel_rfl) bRf ?_
   repeat (go_big_quiet_step (first|with_reducible exact Lat.call K1.out _|with_reducible exact Lat.call K2.out _))
   refine wpQuiet_nil ?_;rintro a1 ⟨⟨_,N⟩,rfl⟩;clear e0 e1 e2 e3 e4 n0 n1 n2 n3 n4 s4 K1 K2;replace M:=M.later N;replace L:=L.later N;replace Z:=Z.later N;replace R:=qd N nLe (qd A nLe R);replace l1:=qd N nLe (qd A nLe l1);replace l2:=qd N nLe (qd A nLe l2);replace T:=qd N nLe (qd A nLe T);replace U:=qd N nLe (qd A nLe U);have t:=C.trans (N.mono C.size);have CG:=hiD (fun W (a:Bz a1 W)=>IU hp k n rc bh (.agg #[Vs sb so p.1.length sc,Vi p.2]) W ⟨_,rfl,HS.out.mono (t.trans (a.mono t.size)) nLe⟩ (qd (t.trans (a.mono t.size)) nLe H0.out) (qd (t.trans (a.mono t.size)) nLe H1.out));have ai:=hiD (fun W (a:Bz a1 W)=>MJ ⟨q,m,o,I,F,H⟩ ⟨i,c,g,z,y,B⟩ s (.slice va s.length vc) W (HR.out.1.later (t.trans (a.mono t.size))) b');have aw:=hiD (fun la ln lc W=>Mj a0 (some (Ad sb so)) va la p.1.length sc s.length vc ln lc p.2 W);have LN:∀w',Bz a1 w'->(loadVar 399 (Ad V.1.size 0)).run prog w'= .ok (.agg O) w':=fun w' a=>run_loadVar_row w' V.1.size 399 399 O (0,0) _ (Z.later a) underlying399 rfl (by rw[a0];kernel_rfl);have K:=hiD (fun w' (a:Bz a1 w')=>(⟨(M.later a).cell 0,(M.later a).cell 1,(M.later a).cell 2,(L.later a).cell 0,(L.later a).cell 1,(L.later a).cell 2,(L.later a).cell 3,(L.later a).cell 4,qd a nLe R,qd a nLe l1,qd a nLe l2,qd a nLe T,qd a nLe U⟩:Cq w' w.1.size 0 (Vs sb so p.1.length sc)∧Cq w' w.1.size 1 (Vi p.2)∧Cq w' w.1.size 2 (.slice va s.length vc)∧Cq w' (w.1.size+1) 0 (Vi i)∧Cq w' (w.1.size+1) 1 (Vi c)∧Cq w' (w.1.size+1) 2 (Vi g)∧Cq w' (w.1.size+1) 3 (Vi z)∧Cq w' (w.1.size+1) 4 (.complex .f64 y B)∧Cq w' D E (Vi q)∧Cq w' D (E+1) (Vi m)∧Cq w' D (E+2) (Vi o)∧Cq w' D (E+3) (Vi I)∧Cq w' D (E+4) (.complex .f64 F H)));simp only[evA,evV]at ai;generalize betweenE s ⟨q,m,o,I,F,H⟩ ⟨i,c,g,z,y,B⟩=BL at*;go_wp2_with fail;refine qO [(true,0),(true,1),(true,2),(true,3),(true,4),(true,5),(true,7),(true,8),(true,9),(true,10),(true,11),(true,12),(true,13),(true,14),(false,6),(false,15),(false,16),(true,17)] 18 [] (by kernel_rfl) (by kernel_rfl) (fun w'=>Bz a1 w') (bRf.drew) (fun _ _ a2 _ _ h=>by cases a2<;>exact h) ?_;simp only[qI,xx,jM,jN]
   (refine zX rfl (fun w' j=>by obtain⟨g0,g1,g2,g3,g4,g5,g6,g7,g8,g9,b1,b2,b3⟩:=K.out w' j;(go_simp<;>rfl)) ?_)
   refine zX rfl (fun w' j=>I6 399 (.tmp 12) rfl (Ad V.1.size 0) rfl _ (LN w' j)) ?_
   repeat (refine zX rfl (fun w' j=>by obtain⟨g0,g1,g2,g3,g4,g5,g6,g7,g8,g9,b1,b2,b3⟩:=K.out w' j;(go_simp<;>rfl)) ?_)
   try simp only[Act.put,jC,jL,jK]
   refine zQ rfl ?_;go_simp;refine(CG.out _ bRf.drew).mono ?_;rintro a4 w8 ⟨rfl,bs⟩;have ag:=((Below.refl a1.1.size a1).drew).trans bs;refine⟨ag,?_⟩
   try simp only[Act.put,jC,jL,jK]
   refine zQ rfl ?_;go_simp;refine(ai.out _ ag).mono ?_;rintro a4 w9 ⟨lv,rfl,bx,bt⟩;have an:=ag.trans (bt.mono ag.size);refine⟨an,?_⟩
   try simp only[Act.put,jC,jL,jK]
   refine zQ rfl ?_;go_simp;obtain⟨la,lc,rfl⟩:=qh bx;refine(aw.out _ _ _ _).mono ?_;rintro a4 ci ⟨rfl,bu⟩;have b9:=an.trans (bu.mono an.size);refine⟨b9,?_⟩
   try simp only[Act.put,jC,jL,jK]
   repeat (refine zX rfl (fun w' j=>by obtain⟨g0,g1,g2,g3,g4,g5,g6,g7,g8,g9,b1,b2,b3⟩:=K.out w' j;(go_simp<;>rfl)) ?_)
   refine vf ?_
   try simp only[Act.put,jC,jL,jK]
   clear K aw ai CG LN M L S Z yn R l1 l2 T U;go_wp2_with fail;rw[qU];go_ret;exact⟨rfl,t.trans (b9.mono t.size)⟩
theorem BS:En0 283:=enters_of func283 rfl rfl
theorem Bj (z A B y u:Value) (w:World) (H:∃a n c,y=Sq a n c) (F:∃a n c,u=Sq a n c) (C:∃a n c,z=Sq a n c) (E:∃a n c,B=Sq a n c) (D:∃x,A=Vi x):
  Cs 259 #[.agg #[z,A,B],y,u] w fun e w'=>e=Rt (.func (.func 283) #[] #[Vp (w.1.size+1) 0,Vp (w.1.size+1+1) 0,Vp w.1.size 0])∧
   Holds w' w.1.size 350 #[z,A,B]∧Holds w' (w.1.size+1) 125 #[y]∧Holds w' (w.1.size+1+1) 112 #[u]∧Bz w w':=by
 have m:=hmf1;obtain⟨h,j,f,rfl⟩:=H;obtain⟨o,i,r,rfl⟩:=F;obtain⟨p,d,s,rfl⟩:=C;obtain⟨q,g,t,rfl⟩:=E;obtain⟨x,rfl⟩:=D;have k:=((Holds.fresh w 350 #[Sq p d s,Vi x,Sq q g t]).alloc (Oc #[Sq h j f] 125)).alloc (Oc #[Sq o i r] 112);have I:=(Holds.fresh' (w:=w.alloc (Oc #[Sq p d s,Vi x,Sq q g t] 350)) (b:=w.1.size+1) (by simp) 125 #[Sq h j f]).alloc (Oc #[Sq o i r] 112);have J:=Holds.fresh' (w:=(w.alloc (Oc #[Sq p d s,Vi x,Sq q g t] 350)).alloc (Oc #[Sq h j f] 125)) (b:=w.1.size+1+1) (by simp) 112 #[Sq o i r];have l:=((bA w (Oc #[Sq p d s,Vi x,Sq q g t] 350)).alloc (by simp) (Oc #[Sq h j f] 125)).alloc (by simp;omega) (Oc #[Sq o i r] 112);go_enter func259,ntmps259;go_wp2_with fail;go_ret;exact⟨rfl,k,I,J,l⟩
theorem MtV.kept (r e:Value) (m:Mt):Kept (fun W=>MtV W r e m):=(RowT.kept _ _).and (RowT.kept _ _)
structure MchF (p:Pt) (s:List Ev) (row:List Int) (ahead:List Ev) (u v rv av:Value) (vb rb ab:Nat) (W:World):Prop where
 hv:Holds W vb 350 #[u,Vi p.2,v]
 hr:Holds W rb 125 #[rv]
 ha:Holds W ab 112 #[av]
 st:qN W u p.1
 ev:RowT 5 36 evV W v s
 row:RowT 1 3 intV W rv row
 ahd:RowT 5 36 evV W av ahead
structure MchP (p:Pt) (s:List Ev) (row:List Int):Prop where
 ok:PtOk p
 sok:SOk s
 mem:row=[0,1]
def Ah (s a:List Ev):Prop:=a=[]∨s=[l2,l1]∧(a=[l2]∨a=[l2,l1])
theorem SOk.short {s:List Ev} (h:SOk s):s.length<=1000000:=by rcases h with rfl|rfl|rfl<;>decide
theorem SOk.mem {s:List Ev} (h:SOk s) {x:Ev} (a:x∈s):x=l1∨x=l2∧s=[l2,l1]:=by
 rcases h with rfl|rfl|rfl
 ·cases a
 ·exact .inl (by simpa using a)
 ·rcases(by simpa using a:x=l2∨x=l1)with h|h
  ·exact .inr ⟨h,rfl⟩
  ·exact .inl h
theorem tsB1:tsB l1:=by unfold tsB;decide
theorem tsB2:tsB l2:=by unfold tsB;decide
theorem Ah.ts {s c:List Ev} (h:Ah s c):∀x∈c,tsB x:=by
 rcases h with rfl|⟨_,rfl|rfl⟩<;>intro x a<;>simp at a
 ·rw[a];exact tsB2
 ·rcases a with rfl|rfl
  ·exact tsB2
  ·exact tsB1
theorem Ah.next {s c:List Ev} (h:Ah s c) (f:SOk s) (i:c.length<=1) {x:Ev} (g:x∈s) (d:EP c x=true):Ah s (c++[x]):=by
 unfold EP at d;have b:=of_decide_eq_true d;rcases h with rfl|⟨a,rfl|rfl⟩
 ·rcases f.mem g with rfl|⟨rfl,e⟩
  ·exact absurd b (by decide)
  ·exact .inr ⟨e,.inl rfl⟩
 ·rcases f.mem g with rfl|⟨rfl,_⟩
  ·exact .inr ⟨a,.inr rfl⟩
  ·exact absurd b (by decide)
 ·exact absurd i (by decide)
theorem Ah.go {s d:List Ev} (h:Ah s d) (i:SOk s) (e:d.length<=1) {p:Pt} (g:PtOk p) {x:Ev} (j:x∈s):∀l f,d.getLast?=some l->d.head?=some f->x.kind=d.length->lessE l x=true∧x.ts-f.ts<=p.2∧Db s l=some x:=by
 intro l f a b c;rcases h with rfl|⟨rfl,rfl|rfl⟩
 ·cases a
 ·cases a;cases b;rcases i.mem j with rfl|⟨rfl,_⟩
  ·rw[g.win];decide
  ·exact absurd c (by decide)
 ·exact absurd e (by decide)
theorem G9 {W:World} {f g k:Nat} {i:List Int} (j:i=[0,1]) (h:RowT 1 3 intV W (Sq (some ⟨f,g,none⟩) 2 k) i):W.cell? ⟨f,g,none⟩=some (Vi 0)∧W.cell? ⟨f,g+1,none⟩=some (Vi 1):=by
 rw[j]at h;obtain⟨b,o,c,e,-,a,d⟩:=MK h.1;cases e;exact⟨a,d⟩
theorem LF (p:Pt) (s:List Ev) (g:List Int) (L:MchP p s g) (d:List Ev) (J:g.length=d.length) (aa:Ah s d) (ad v rv av:Value) (vb rb ab:Nat):
  vL prog 283 #[Vp rb 0,Vp ab 0,Vp vb 0] (fun ac vs W=>∃r e,vs=#[.agg #[r,e]]∧MtV W r e ((yh p s g 0 d).getD ac mt0)) (yh p s g 0 d).length
   (MchF p s g d ad v rv av vb rb ab):=by
 intro l ae Jx W T R a6 hF E M h0;have a5:=hF W (qg.refl _ _);have a0:g.length=2:=by rw[L.mem];rfl
 have a3:MtSm p ⟨g,d⟩:=by
  rcases aa with rfl|⟨_,rfl|rfl⟩
  ·rw[a0]at J;cases J
  ·rw[a0]at J;cases J
  ·rw[L.mem];rfl
 obtain⟨N,Q,P,t,y,c,a⟩:=a5;obtain⟨a1,c1,rfl,_⟩:=t.form;obtain⟨a2,c2,rfl,_⟩:=y.form;obtain⟨j,x,rfl,_⟩:=c.form;obtain⟨u,F,rfl,_⟩:=a.form;have I:=hiD (fun z (i:Bz W z)=>JC L.ok s L.sok.short (fun an hx=>by rcases L.sok.mem hx with rfl|⟨rfl,_⟩<;>decide) ⟨g,d⟩ a3 (Sq a1 p.1.length c1) (Sq a2 s.length c2) (Sq j g.length x) (Sq u d.length F) z (t.mono i nLe) (y.later i) ⟨c.later i,a.later i⟩);have U:=hiD (fun z (i:Bz W z)=>kO (Sq j g.length x) (Sq u d.length F) ⟨g,d⟩ z ⟨c.later i,a.later i⟩ (by simp;omega) (by simp;omega));have D:yh p s g 0 d=[⟨g,d⟩]:=rfl;rw[D]at M⊢;obtain⟨v0,v1,v2,-⟩:=N.g3;have X:=Q.cell 0;have V:=P.cell 0;simp at X V;have HJ:=hiD R;have HY:=hiD M;have HF:=hiD hF;have a8:=hiD E;have HV:=hiD N;have HR:=hiD Q;have HA:=hiD P;clear R M hF a6 t y c a D N Q P E;have ak:=HV.out.size;have aj:=HR.out.size;have ai:=HA.out.size;unfold FG at I;rw[J]at I U X;generalize af:d.length=n at*;refine callsIn_of_wp func283 rfl trivial ?_ rfl;simp only[ntmps283,jW,jF,jO,Nat.reduceAdd,Nat.reduceSub,jR,jQ,jX,jU,jD,jE];gi_wp2;have K:=(Holds.fresh W 300 #[.func (.yield l) #[] #[]]).alloc (Oc #[Sq j n x,Sq u n F] 127);have H:=Holds.fresh' (w:=W.alloc (Oc #[.func (.yield l) #[] #[]] 300)) (b:=W.1.size+1) (by simp) 127 #[Sq j n x,Sq u n F];have m:=((Below.refl W.1.size W).alloc nLe (Oc #[.func (.yield l) #[] #[]] 300)).alloc (by simp) (Oc #[Sq j n x,Sq u n F] 127);refine⟨trivial,rfl,(callsIn_wide.2 (I.out _ m)).mono ?_⟩;rintro r k ⟨rfl,q⟩;have a7:=m.trans (q.mono m.size);replace K:=K.later q;replace H:=H.later q;clear v0 v1 v2 X V I;have q0:=K.cell 0;obtain⟨q1,q2,-⟩:=H.g2;simp at q0;gi_wp2;have HC:=hiD (fun w' (i:Bz k w')=>(⟨(K.later i).cell 0,(H.later i).cell 0,(H.later i).cell 1⟩:Cq w' W.1.size 0 (.func (.yield l) #[] #[])∧Cq w' (W.1.size+1) 0 (Sq j n x)∧Cq w' (W.1.size+1) 1 (Sq u n F)));refine Al [0,1] 3 1 (by kernel_rfl) (by kernel_rfl) (fun ⟨_,_,h⟩=>by obtain⟨⟨_,N⟩,_⟩:=h;cases N) (fun w'=>Bz k w') bRf.drew (fun _ _ a9 _ _ h=>by cases a9<;>exact h) ?_;simp only[qI,jM,jN]
 repeat (refine qA rfl (fun w' hS=>by obtain⟨g0,g1,g2⟩:=HC.out w' hS;(go_simp<;>rfl)) ?_)
 show zL _ _ _ _ _ _ _ _ _ _ _ _;simp only[Act.put,jC,jL,jK];refine qC [2] (by kernel_rfl) (by simp) (by simp) ?_;intro al O;simp only[jI,jH,or_false]at O;subst O;refine qq rfl rfl ?_;go_simp;have o:Bz W k.drew:=a7.trans bRf.drew;refine(U.out _ o).mono ?_;rintro r w2 ⟨r',Z,rfl,a4,A⟩;refine⟨(Below.refl k.1.size k).drew.trans A,?_⟩;refine vj (by kernel_rfl) (by kernel_rfl) ?_;refine Ar rfl rfl ?_;have f:=o.trans (A.mono o.size);obtain⟨fn,am,ag,ah,hy,hR⟩:=HY.out 0 #[.agg #[r',Z]] w2 T (by simp) (qg.below' f) (fun b C=>.inl C) (fun b C=>jf (a8.out b C) f.size) ((HJ.out 0 T).on h0 f) ⟨r',Z,rfl,a4⟩;gi_wp2;refine⟨rfl,hR.mono ?_⟩;rintro e z ⟨-,S,(⟨rfl,D',h1,h2,O⟩|⟨rfl,B⟩)⟩
 ·gi_wp2;refine bodyPost_ret (results_none rfl _ _ _) rfl ?_;exact⟨⟨_,rfl⟩,(qg.below' f).trans S,.inl ⟨D',fun b C=>(h1 b C).imp id fun h=>jS f.size h,h2,O⟩⟩
 ·gi_wp2;refine bodyPost_ret (results_none rfl _ _ _) rfl ?_;exact⟨⟨_,rfl⟩,(qg.below' f).trans S,.inr (by first|exact⟨0,by simp,B⟩|exact B)⟩
theorem Fs {α β:Type} (g:α->List β):∀(l:List α) (k:Nat) (x:α),l[k]?=some x->∀(i:Nat),i<(g x).length->∀d:β,(l.flatMap g).getD (((l.take k).flatMap g).length+i) d=(g x).getD i d∧((l.take k).flatMap g).length+i<(l.flatMap g).length
 |[],k,x,h,_,_,_=>by simp at h
 |y::l,0,x,h,i,hi,d=>by
   obtain rfl:y=x:=by simpa using h
   simp only[dF,List.flatMap_nil,jO,dG,List.flatMap_cons,jZ];refine⟨?_,by omega⟩;simp[List.getD,List.getElem?_append_left hi]
 |y::l,k+1,x,h,i,hi,d=>by
   have:=Fs g l k x (by simpa using h) i hi d;simp only[jm,List.flatMap_cons,jZ];refine⟨?_,by omega⟩;rw[<-this.1];simp only[List.getD];rw[Nat.add_assoc,List.getElem?_append_right (by omega),Nat.add_sub_cancel_left]
theorem Kl {α β:Type} (g:α->List β) (l:List α) (k:Nat) (x:α) (h:l[k]?=some x):((l.take (k+1)).flatMap g).length=((l.take k).flatMap g).length+(g x).length:=by
 rw[List.take_add_one,h];simp
theorem LE (p:Pt) (s:List Ev) (row:List Int) (hp:MchP p s row) (a8:Nat)
  (IH:∀(a:List Ev),row.length=a.length+a8->Ah s a->∀(ae v rv av:Value) (J rb V:Nat),vL prog 283 #[Vp rb 0,Vp V 0,Vp J 0] (fun i vs W=>∃r e,vs=#[.agg #[r,e]]∧MtV W r e ((yh p s row a8 a).getD i mt0)) (yh p s row a8 a).length
   (MchF p s row a ae v rv av J rb V))
  (a:List Ev) (hl:row.length=a.length+(a8+1)) (b2:Ah s a) (ae v rv av:Value) (J rb V:Nat):
  vL prog 283 #[Vp rb 0,Vp V 0,Vp J 0] (fun i vs W=>∃r e,vs=#[.agg #[r,e]]∧MtV W r e ((yh p s row (a8+1) a).getD i mt0)) (yh p s row (a8+1) a).length
   (MchF p s row a ae v rv av J rb V):=by
 have dg:=hst1;intro a9 b' Jx W D0 hJ c2 hF c0 hY h0;have d:=hF W (qg.refl _ _);have de:row.length=2:=by rw[hp.mem];rfl
 have cb:a.length<=1:=by omega
 obtain⟨U,Z,rfl,_⟩:=d.st.form;obtain⟨a2,O,rfl,_⟩:=d.ev.form;obtain⟨A,C,B,rfl,d1,-⟩:=MK (by have:=d.row.1;rw[hp.mem]at this;exact this);obtain⟨x,H,rfl,_⟩:=d.ahd.form;obtain⟨g,hg⟩:=xL (fun e=>if EP a e=true then yh p s row a8 (a++[e])else []);have c5:yh p s row (a8+1) a=s.flatMap g:=by rw[hg];rfl
 rw[c5]at hY⊢;have df:=d.ev.1.small;obtain⟨v0,v1,v2,-⟩:=d.hv.g3;have r0:=d.hr.cell 0;have h4:=d.ha.cell 0;simp at r0 h4;have d8:=d.hv.size;have d3:=d.hr.size;have cy:=d.ha.size;have CF:=hiD (fun w' (hk:qg D0 W w') (cl:Ev) (hx:cl∈s)=>JB hp.ok s hp.sok.short a cb cl (b2.go hp.sok cb hp.ok hx) b2.ts (by rcases hp.sok.mem hx with rfl|⟨rfl,_⟩;exact tsB1;exact tsB2) (Sq U p.1.length Z) (Sq a2 s.length O) (Sq x a.length H) A C B d1 w' (hF w' hk).st (hF w' hk).ev (G9 hp.mem (hF w' hk).row).1 (G9 hp.mem (hF w' hk).row).2 (hF w' hk).ahd);have HJ:=hiD hJ;have bz:=hiD c2;have HY:=hiD hY;have HF:=hiD hF;have bx:=hiD c0;have cr:=hiD IH;have HG:=hiD hg;have co:=hiD b2;have HP:=hiD hp;have HL:=hiD hl;have dd:((a.length:Int)==2)=false:=by simp only[beq_eq_false_iff_ne];omega
 clear hJ c2 hY hF c0 IH hg b2 c5 d hl;have y1:=(Holds.fresh W 300 #[.func (.yield a9) #[] #[]]).alloc (Oc #[Vs A C 2 B,Sq x a.length H] 127);have bf:=((Below.refl W.1.size W).alloc nLe (Oc #[.func (.yield a9) #[] #[]] 300)).alloc (by simp) (Oc #[Vs A C 2 B,Sq x a.length H] 127);generalize c7:a.length=n at*;have HN:=hiD c7;clear c7;refine callsIn_of_wp_marks func283 rfl trivial ?_ rfl;simp only[ntmps283,jW,jF,jO,Nat.reduceAdd,Nat.reduceSub,jR,jQ,jX,jU,jD,jE];refine wpIn_wide.2 ?_;go_wp2_with fail;generalize cw:(W.alloc (Oc #[.func (.yield a9) #[] #[]] 300)).alloc (Oc #[Vs A C 2 B,Sq x n H] 127)=W2 at*;clear cw v0 v1 v2 r0 h4;have d4:=bf.size;have dj:=y1.size;refine wp_loop (fun ax wr=>∃(k:Nat) (D:Nat->Prop) (T:List Nat) (u7 u8 u28 u29 u30 u31 u32 u33 u34 u35 u36 u37 u38 u39 u40 u41 u42 u43 u44 u45 u46 u47 u48 u49 au:Value),k<=s.length∧ax={tmps:=#[.func (.yield a9) #[] #[],Vp rb 0,Vp V 0,Vp J 0,Vp W.1.size 0,Vp (W.1.size+1) 0,undef,u7,u8,Vs A C 2 B,Sq x n H,.agg #[Vs A C 2 B,Sq x n H],Sq x n H,Vi n,Vs A C 2 B,Vi 2,Vb false,undef,undef,undef,undef,undef,undef,undef,Vp J 2,Sq a2 s.length O,Vi s.length,Vi k,u28,u29,u30,u31,u32,u33,u34,u35,u36,u37,u38,u39,u40,u41,u42,u43,u44,u45,u46,u47,u48,u49,au],defers:=T.map mark}∧qV W.1.size wr T∧qg D0 W wr∧(∀b,D b->D0 b∨W.1.size<=b)∧(∀b,D b->b<wr.1.size)∧¬D W.1.size∧Holds wr W.1.size 300 #[.func (.yield a9) #[] #[]]∧b' ((s.take k).flatMap g).length D wr)
  (fun ax _=>s.length-(intOf (ax.tmps.getD 27 undef)).toNat) ?_ ?_
 ·exact⟨0,D0,[],undef,undef,undef,undef,undef,undef,undef,undef,undef,undef,undef,undef,undef,undef,undef,undef,undef,undef,undef,undef,undef,undef,undef,undef,undef,jg _,rfl,qV.nil _ _,qg.below' bf,fun b z=>.inl z,fun b z=>jf (bx.out b z) d4,fun h=>absurd (bx.out _ h) (Nat.lt_irrefl _),y1,(HJ.out 0 D0).on h0 bf⟩
 clear y1 h0;rintro ax wr ⟨k,D,T,u7,u8,u28,u29,u30,u31,u32,u33,u34,u35,u36,u37,u38,u39,u40,u41,u42,u43,u44,u45,u46,u47,u48,u49,au,hk,rfl,b7,ai,aq,bc,c1,zy,hj⟩;have d:=HF.out wr ai;by_cases c':k<s.length
 ·obtain⟨K,N,cc,u,l,j,c,f,w,e1,-,hx,p0,p1,p2,p3,p4⟩:=yq d.ev.1 c';cases e1;obtain⟨v0,v1,v2,-⟩:=d.hv.g3;have r0:=d.hr.cell 0;have h4:=d.ha.cell 0;simp at r0 h4;have d8:=d.hv.size;have d3:=d.hr.size;have cy:=d.ha.size;have y:Bz wr (wr.alloc (Oc #[Vi u,Vi l,Vi j,Vi c,Vc f w] 36)):=bB;have zx:=Holds.fresh wr 36 #[Vi u,Vi l,Vi j,Vi c,Vc f w];replace v0:=qd y nLe v0;replace v1:=qd y nLe v1;replace v2:=qd y nLe v2;replace r0:=qd y nLe r0;replace h4:=qd y nLe h4;have bv:=jY hx;have b4:=CF.out _ (ai.trans (qg.below' y)) _ bv;simp only[evA,evV,FG]at b4;have ce:=Kl g s k _ hx;have c8:=Fs g s k _ hx;have bk:=congrFun HG.out ⟨u,l,j,c,f,w⟩;obtain⟨fb,bi⟩:=xR (EP a ⟨u,l,j,c,f,w⟩);have cp:=hiD bi;rw[bi]at b4 bk;have bw:=hiD b4;have b9:=hiD ce;have b8:=hiD c8;have aw:=hiD bk;have cu:=hiD bv;clear b4 ce c8 bk bi d bv hx;go_wp2_with fail;refine bw.out.mono ?_;rintro r F ⟨rfl,E⟩;have ab:=y.trans (E.mono y.size);clear bw;cases fb
  ·have bt:=aw.out;simp only[ji,if_false]at bt;have ba:Hid (((s.take (k+1)).flatMap g).length=((s.take k).flatMap g).length):=hiD (by rw[b9.out,bt];rfl);clear bt aw b8 b9;go_wp2_with fail;rw[show ((k:Int)+1)=((k+1:Nat):Int) by push_cast;rfl];refine⟨⟨k+1,D,T,_,_,_,_,_,_,_,_,_,_,_,_,_,_,_,_,_,_,_,_,_,_,_,_,_,by omega,rfl,(b7.later y).later E,ai.trans (qg.below' ab),aq,fun b z=>jf (bc b z) ab.size,c1,(zy.later y).later E,by rw[ba.out];exact((HJ.out _ D).on hj ab)⟩,by simp[intOf];omega⟩
  ·have a7:=aw.out;simp only[if_true]at a7;have cq:=hiD a7;clear a7 aw;go_wp2_with fail;obtain⟨i0,c9,ci,cj,ck⟩:=iP36;have bo:=ai.trans (qg.below' ab);have d0:n<=1000000:=by omega
   have CC:=hiD (fun w' (P:Bz F w')=>Bd evV (fun _=>rfl) vZ (Sq x n H) a w' ((HF.out w' (bo.trans (qg.below' P))).ahd.1) (by rw[HN.out];exact d0));replace v0:=qd E nLe v0;replace v1:=qd E nLe v1;replace v2:=qd E nLe v2;replace r0:=qd E nLe r0;replace h4:=qd E nLe h4;have ak:=zx.later E;have HC:=hiD (fun w' (P:Bz F w')=>(⟨qd P nLe v0,qd P nLe v1,qd P nLe v2,qd P nLe r0,qd P nLe h4,(ak.later P).cell 0,(ak.later P).cell 1,(ak.later P).cell 2,(ak.later P).cell 3,(ak.later P).cell 4⟩:Cq w' J 0 (Sq U p.1.length Z)∧Cq w' J 1 (Vi p.2)∧Cq w' J 2 (Vs K N s.length O)∧Cq w' rb 0 (Vs A C 2 B)∧Cq w' V 0 (Sq x n H)∧Cq w' wr.1.size 0 (Vi u)∧Cq w' wr.1.size 1 (Vi l)∧Cq w' wr.1.size 2 (Vi j)∧Cq w' wr.1.size 3 (Vi c)∧Cq w' wr.1.size 4 (Vc f w)));refine xN [0,1,2,4] 7 3 (by kernel_rfl) (by kernel_rfl) (fun w'=>Bz F w') bRf.drew (fun _ _ _ _ _ h=>DR rfl h) ?_;simp only[qI,jM,jN]
   repeat (refine qA rfl (fun w' hS=>by obtain⟨g0,g1,g2,g3,g4,g5,g6,g7,g8,g9⟩:=HC.out w' hS;(go_simp<;>rfl)) ?_)
   show zL _ _ _ _ _ _ _ _ _ _ _ _;simp only[Act.put,jC,jL,jK];rename_i ad hK
   suffices HK:∀(v40 v42 v43:Value) (o:Nat) (W':World),RowT 5 36 evV W' v43 (a++[⟨u,l,j,c,f,w⟩])->(∀b,v43.ownBlock=some b->F.1.size<=b)->F.1.size<=o->Holds W' o 350 #[Sq U p.1.length Z,Vi p.2,Vs K N s.length O]->Holds W' (o+1) 125 #[Vs A C 2 B]->Holds W' (o+1+1) 112 #[v43]->Bz F W'->
     ad {tmps:=#[.func (.yield a9) #[] #[],Vp rb 0,Vp V 0,Vp J 0,Vp W.1.size 0,Vp (W.1.size+1) 0,undef,Vp wr.1.size 0,u8,Vs A C 2 B,Sq x n H,.agg #[Vs A C 2 B,Sq x n H],Sq x n H,Vi n,Vs A C 2 B,Vi 2,Vb false,undef,undef,undef,undef,undef,undef,undef,Vp J 2,Vs K N s.length O,Vi s.length,Vi k,Vb true,Vp K (N+k*5),.agg #[Vi u,Vi l,Vi j,Vi c,Vc f w],.agg #[Sq U p.1.length Z,Vi p.2,Vs K N s.length O],Vs A C 2 B,Sq x n H,.agg #[Vi u,Vi l,Vi j,Vi c,Vc f w],Vb true,Vb false,.agg #[Sq U p.1.length Z,Vi p.2,Vs K N s.length O],Vs A C 2 B,Sq x n H,v40,.agg #[Vi u,Vi l,Vi j,Vi c,Vc f w],v42,v43,.func (.func 283) #[] #[Vp (o+1) 0,Vp (o+1+1) 0,Vp o 0],u45,u46,u47,u48,u49,au],defers:=T.map mark} W' by
    have bh:=(Below.refl F.1.size F).drew;refine qC [3,5] (by kernel_rfl) (by simp) (by simp) ?_;intro aj t;simp only[jI,jH,or_false]at t;rcases t with rfl|rfl
    ·refine qq rfl rfl ?_;go_simp;refine(CC.out _ bh).mono ?_;rintro r w3 ⟨v40,rfl,hr,a5⟩;have bg:=bh.trans (a5.mono bh.size);have br:=HN.out;rw[br]at hr;refine⟨bg,?_⟩;refine qC [5] (by kernel_rfl) (by simp) (by simp) ?_;intro aj t;simp only[jI,jH,or_false]at t;subst t;refine qq rfl rfl ?_;go_simp;have a4:=bg.alloc bg.size (Oc #[Vi u,Vi l,Vi j,Vi c,Vc f w] 36);refine⟨a4,?_⟩;have cg:=hr.alloc (Oc #[Vi u,Vi l,Vi j,Vi c,Vc f w] 36);refine qC [6] (by kernel_rfl) (by simp) (by simp) ?_;intro aj t;simp only[jI,jH,or_false]at t;subst t;refine qq rfl rfl ?_;refine wp_append_own _ (.tmp 40) (.tmp 42) 112 rfl F.1.size 36 i0 _ 5 48 underlying112 c9 ci cj ck rfl (by decide) v40 n (a.flatMap evV) rfl cg (Ad w3.1.size 0) 1 1 [Vi u,Vi l,Vi j,Vi c,Vc f w] rfl rfl ?_ ?_ ?_ ?_ ?_ ?_
     ·exact qR w3 [Vi u,Vi l,Vi j,Vi c,Vc f w] 36
     ·intro ae hu;simp only[jI,jH,or_false]at hu;rcases hu with rfl|rfl|rfl|rfl|rfl<;>rfl
     ·unfold maxLen;omega
     ·omega
     ·simpa using a4.size
     intro v43 w5 ac bj _;have a1:Bz F w5:=a4.grown bj (by have:=a4.size;omega) (fun b z=>jS nLe (qE cg b z));refine⟨a1,?_⟩;refine vj (by kernel_rfl) (by kernel_rfl) ?_;refine qq rfl rfl ?_;obtain⟨L,M,rfl⟩:=qh ac;go_simp;refine(Bj _ _ _ _ _ _ ⟨_,_,_,rfl⟩ ⟨_,_,_,rfl⟩ ⟨_,_,_,rfl⟩ ⟨_,_,_,rfl⟩ ⟨_,rfl⟩).mono ?_;rintro r w6 ⟨rfl,zv,zr,za,ap⟩;have bu:RowT 5 36 evV w5 (Sq L (n+1) M) (a++[⟨u,l,j,c,f,w⟩]):=RowT.of_own (fun _=>rfl) (by simpa[evV]using ac) (by simp[HN.out]);exact HK _ _ _ _ _ (bu.later ap) (fun b z=>jS nLe (qE ac b z)) a1.size zv zr za (a1.trans (ap.mono a1.size))
    ·refine qq rfl rfl ?_;go_simp;have ao:=((Below.refl F.1.size F).alloc nLe (Oc #[Vi u,Vi l,Vi j,Vi c,Vc f w] 36)).drew;refine⟨ao,?_⟩;refine qC [3] (by kernel_rfl) (by simp) (by simp) ?_;intro aj t;simp only[jI,jH,or_false]at t;subst t;refine qq rfl rfl ?_;go_simp;refine(CC.out _ ao).mono ?_;rintro r w3 ⟨v40,rfl,hr,a5⟩;have br:=HN.out;rw[br]at hr;replace hr:=yV hr ao.size;have a4:=ao.trans (a5.mono ao.size);refine⟨a4,?_⟩;refine qC [6] (by kernel_rfl) (by simp) (by simp) ?_;intro aj t;simp only[jI,jH,or_false]at t;subst t;refine qq rfl rfl ?_;refine wp_append_own _ (.tmp 40) (.tmp 42) 112 rfl F.1.size 36 i0 _ 5 48 underlying112 c9 ci cj ck rfl (by decide) v40 n (a.flatMap evV) rfl hr (Ad F.1.size 0) 1 1 [Vi u,Vi l,Vi j,Vi c,Vc f w] rfl rfl ?_ ?_ ?_ ?_ ?_ ?_
     ·exact fun aj ae hj=>by
       have:=qR F [Vi u,Vi l,Vi j,Vi c,Vc f w] 36 aj ae hj;exact qd a5 (by simp) this
     ·intro ae hu;simp only[jI,jH,or_false]at hu;rcases hu with rfl|rfl|rfl|rfl|rfl<;>rfl
     ·unfold maxLen;omega
     ·omega
     ·exact a4.size
     intro v43 w5 ac bj _;have a1:Bz F w5:=a4.grown bj (by have:=a4.size;omega) (fun b z=>jS nLe (qE hr b z));refine⟨a1,?_⟩;refine vj (by kernel_rfl) (by kernel_rfl) ?_;refine qq rfl rfl ?_;obtain⟨L,M,rfl⟩:=qh ac;go_simp;refine(Bj _ _ _ _ _ _ ⟨_,_,_,rfl⟩ ⟨_,_,_,rfl⟩ ⟨_,_,_,rfl⟩ ⟨_,_,_,rfl⟩ ⟨_,rfl⟩).mono ?_;rintro r w6 ⟨rfl,zv,zr,za,ap⟩;have bu:RowT 5 36 evV w5 (Sq L (n+1) M) (a++[⟨u,l,j,c,f,w⟩]):=RowT.of_own (fun _=>rfl) (by simpa[evV]using ac) (by simp[HN.out]);exact HK _ _ _ _ _ (bu.later ap) (fun b z=>jS nLe (qE ac b z)) a1.size zv zr za (a1.trans (ap.mono a1.size))
   intro v40 v42 v43 o W6 cz d7 dh d6 d2 cx ag;apply hK;clear hK;have bp:=bo.trans (qg.below' ag);have an:=((b7.later y).later E).later ag;have cm:=((zy.later y).later E).later ag;have a5:=ab.trans (ag.mono ab.size);have ca:=(HJ.out _ D).on hj a5;have am:∀b,D b->b<F.1.size:=fun b z=>jf (bc b z) ab.size;have d9:=ag.size;have b1:W.1.size<=W6.1.size:=bp.size;clear CC HC v0 v1 v2 r0 h4 zx ak p0 p1 p2 p3 p4 y E ab ag a5 b7 zy ai bo hj;obtain⟨al,hO⟩:=xR ((s.take k).flatMap g).length;rw[hO]at ca;have HO:=hiD hO;clear hO;have cd:row.length=(a++[(⟨u,l,j,c,f,w⟩:Ev)]).length+a8:=by have:=HL.out;have:=HN.out;simp;omega
   have ch:=co.out.next HP.out.sok (by rw[HN.out];omega) cu.out cp.out;have bl:=cr.out _ cd ch (Sq U p.1.length Z) (Vs K N s.length O) (Vs A C 2 B) v43 o (o+1) (o+1+1);rw[<-cq.out]at bl;have cs:=hiD bl;clear bl cd ch;go_wp2_with fail;have di:W.1.size<W6.1.size:=cm.size;refine yF rfl BS cs.out (by rintro i vs X ⟨r,e,rfl,_⟩;rfl)
    (fun i S X=>b' (al+i) S X∧qg D0 W X∧Holds X W.1.size 300 #[.func (.yield a9) #[] #[]]∧¬S W.1.size∧qV W.1.size X T)
    (fun bb i X=>bb= .ret∧Jx (al+i) X∧qg D0 W X∧qV W.1.size X T) D ?_ ?_ ?_ ?_ ⟨ca,bp,cm,c1,an⟩
    (fun i a' X=>∃(bm:Nat) (Q:Option Addr) (m R:Nat) (L:Option Addr) (q M:Nat),Holds X bm 127 #[Sq Q m R,Sq L q M]∧MtV X (Sq Q m R) (Sq L q M) ((g ⟨u,l,j,c,f,w⟩).getD i mt0)∧a'={tmps:=#[.func (.yield a9) #[] #[],Vp rb 0,Vp V 0,Vp J 0,Vp W.1.size 0,Vp (W.1.size+1) 0,undef,Vp wr.1.size 0,Vp bm 0,Vs A C 2 B,Sq x n H,.agg #[Vs A C 2 B,Sq x n H],Sq x n H,Vi n,Vs A C 2 B,Vi 2,Vb false,undef,undef,undef,undef,undef,undef,undef,Vp J 2,Vs K N s.length O,Vi s.length,Vi k,Vb true,Vp K (N+k*5),.agg #[Vi u,Vi l,Vi j,Vi c,Vc f w],.agg #[Sq U p.1.length Z,Vi p.2,Vs K N s.length O],Vs A C 2 B,Sq x n H,.agg #[Vi u,Vi l,Vi j,Vi c,Vc f w],Vb true,Vb false,.agg #[Sq U p.1.length Z,Vi p.2,Vs K N s.length O],Vs A C 2 B,Sq x n H,v40,.agg #[Vi u,Vi l,Vi j,Vi c,Vc f w],v42,v43,.func (.func 283) #[] #[Vp (o+1) 0,Vp (o+1+1) 0,Vp o 0],.agg #[Sq Q m R,Sq L q M],u46,u47,u48,u49,au],defers:=[]}) ?_ ?_ ?_ ?_ ?_
   ·intro i S;exact((HJ.out _ _).mono b1).and ((ym _ _).and ((qi _ _ _).and ((qe.pure _).and (xA (fun ad hK=>an.lt ad hK)))))
   ·intro bb i;exact(qe.pure _).and (((bz.out _).mono b1).and ((ym _ _).and (xA (fun ad hK=>an.lt ad hK))))
   ·intro X hX;have bd:=HF.out X (bp.step hX aq);exact {hv:=d6.keepsN hX (fun h=>absurd (am _ h) (by omega)),hr:=d2.keepsN hX (fun h=>absurd (am _ h) (by omega)),ha:=cx.keepsN hX (fun h=>absurd (am _ h) (by omega)),st:=bd.st,ev:=bd.ev,row:=bd.row,ahd:=cz.keptD hX (fun b z h=>absurd (am b h) (by have:=d7 b z;omega))}
   ·exact fun b z=>jf (am b z) d9
   ·intro i a';exact qe.ex fun bm=>qe.ex fun Q=>qe.ex fun m=>qe.ex fun R=>qe.ex fun L=>qe.ex fun q=>qe.ex fun M=>(qi _ _ _).and (((MtV.kept _ _ _).stable _).and (qe.pure _))
   ·rintro l' i vs X S K' hi bq az ay ⟨ah,I,aa,af,a6⟩ ⟨r,e,rfl,a3⟩ c3;obtain⟨Q,R,rfl,_⟩:=a3.1.form;obtain⟨L,M,rfl,_⟩:=a3.2.form;generalize ((g ⟨u,l,j,c,f,w⟩).getD i mt0).row.length=m at*;generalize ((g ⟨u,l,j,c,f,w⟩).getD i mt0).2.length=q at*;have b3:Bz X (X.alloc (Oc #[Sq Q m R,Sq L q M] 127)):=bB;have c4:=c3 {tmps:=#[.func (.yield a9) #[] #[],Vp rb 0,Vp V 0,Vp J 0,Vp W.1.size 0,Vp (W.1.size+1) 0,undef,Vp wr.1.size 0,Vp X.1.size 0,Vs A C 2 B,Sq x n H,.agg #[Vs A C 2 B,Sq x n H],Sq x n H,Vi n,Vs A C 2 B,Vi 2,Vb false,undef,undef,undef,undef,undef,undef,undef,Vp J 2,Vs K N s.length O,Vi s.length,Vi k,Vb true,Vp K (N+k*5),.agg #[Vi u,Vi l,Vi j,Vi c,Vc f w],.agg #[Sq U p.1.length Z,Vi p.2,Vs K N s.length O],Vs A C 2 B,Sq x n H,.agg #[Vi u,Vi l,Vi j,Vi c,Vc f w],Vb true,Vb false,.agg #[Sq U p.1.length Z,Vi p.2,Vs K N s.length O],Vs A C 2 B,Sq x n H,v40,.agg #[Vi u,Vi l,Vi j,Vi c,Vc f w],v42,v43,.func (.func 283) #[] #[Vp (o+1) 0,Vp (o+1+1) 0,Vp o 0],.agg #[Sq Q m R,Sq L q M],u46,u47,u48,u49,au],defers:=[]} (X.alloc (Oc #[Sq Q m R,Sq L q M] 127)) ((KeepsOthers.alloc _ _).from _) (qg.alloc _ _ _) ⟨(HJ.out _ _).on ah b3,I.trans (qg.alloc _ _ _),aa.alloc _,af,a6.later b3⟩ ⟨X.1.size,Q,m,R,L,q,M,Holds.fresh _ _ _,a3.later b3,rfl⟩;have ct:=hiD c4;clear c4 c3 b3 a3 ah I aa a6;gi_wp2;exact ct.out
   ·rintro l' i a' X S dc hi bq az ay ⟨ah,I,aa,af,a6⟩ ⟨bm,Q,m,R,L,q,M,zm,a3,rfl⟩;obtain⟨b5,a7⟩:=b8.out i hi mt0;rw[HO.out]at b5 a7;have a0:∀b,S b->D0 b∨W.1.size<=b:=fun b z=>(az b z).elim (fun h=>aq b h) (fun h=>.inr (by omega));obtain⟨fn,tmps,da,db,hy,hR⟩:=HY.out (al+i) #[.agg #[Sq Q m R,Sq L q M]] X S a7 I a0 ay ah ⟨_,_,rfl,by rw[b5];exact a3⟩;have q0:=aa.cell 0;obtain⟨q1,q2,-⟩:=zm.g2;simp at q0;have dk:=aa.size;clear b5 a3;gi_wp2;refine⟨rfl,hR.mono ?_⟩;rintro e' X' ⟨b6,ar,(⟨rfl,cn,h1,h2,t⟩|⟨rfl,bn⟩)⟩
    ·gi_wp2;exact⟨b6.mono' b1,ar,cn,h1,h2,t,I.step ar a0,aa.keepsN ar af,fun h=>(h1 _ h).elim af (fun h=>by omega),a6.from b6⟩
    ·gi_wp2;exact⟨b6.mono' b1,ar,rfl,bn,I.step ar a0,a6.from b6⟩
   ·rintro Kd X S cv bq az ay ⟨ah,I,aa,af,a6⟩ b0;have a0:∀b,S b->D0 b∨W.1.size<=b:=fun b z=>(az b z).elim (fun h=>aq b h) (fun h=>.inr (by omega));have bs:=a6.cons (K:=Kd) (by omega) (fun h=>by have:=an.lt Kd h;omega) b0;have cf:((s.take (k+1)).flatMap g).length=al+(g ⟨u,l,j,c,f,w⟩).length:=by rw[b9.out,HO.out]
    have ba:=hiD cf;clear cf b0;show Exit.inBlock _ _ _ _ _;go_wp2_with fail;rw[show ((k:Int)+1)=((k+1:Nat):Int) by push_cast;rfl];exact⟨⟨k+1,S,Kd::T,_,_,_,_,_,_,_,_,_,_,_,_,_,_,_,_,_,_,_,_,_,_,_,_,_,by omega,rfl,bs,I,a0,ay,af,aa,by rw[ba.out];exact ah⟩,by simp[intOf];omega⟩
   ·rintro Kd bb i X cv hi bq ⟨rfl,bn,I,a6⟩ b0;have bs:=a6.cons (K:=Kd) (by omega) (fun h=>by have:=an.lt Kd h;omega) b0;obtain⟨b5,a7⟩:=b8.out i hi mt0;rw[HO.out]at a7;apply wp_ret;refine DN (c:=Kd::T) bs rfl ?_;intro X' c6 v;exact⟨⟨_,rfl⟩,c6.keepsN I,.inr ⟨al+i,a7,c6 _ (bz.out _) bn⟩⟩
 ·obtain rfl:k=s.length:=by omega
  go_wp2_with fail;have d5:(s.take s.length).flatMap g=s.flatMap g:=by rw[jn]
  rw[d5]at hj;refine D5 b7 rfl ?_;intro W' be v;refine⟨⟨_,rfl⟩,be.keepsN ai,.inl ⟨D,aq,fun b z=>jf (bc b z) be.size,be _ (HJ.out _ D) hj⟩⟩
theorem EH (p:Pt) (s:List Ev) (d:List Int) (n:MchP p s d):∀(f:Nat) (c:List Ev),d.length=c.length+f->Ah s c->∀(u v m l:Value) (k j g:Nat),vL prog 283 #[Vp j 0,Vp g 0,Vp k 0] (fun i a W=>∃r e,a=#[.agg #[r,e]]∧MtV W r e ((yh p s d f c).getD i mt0)) (yh p s d f c).length
   (MchF p s d c u v m l k j g)
 |0,c,hl,hah,u,v,m,l,k,j,g=>LF p s d n c hl hah u v m l k j g
 |f+1,c,hl,hah,u,v,m,l,k,j,g=>LE p s d n f (EH p s d n f) c hl hah u v m l k j g
end
end Go.Proofs.YtnmpcdnbklmhkaaGreatDoor
