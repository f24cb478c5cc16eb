import Derived.Test.YtnmpcdnbklmhkaaGreatDoorQBg
import Derived.Test.YtnmpcdnbklmhkaaGreatDoorQAz
import Derived.Test.YtnmpcdnbklmhkaaGreatDoorQAm
namespace Go.Proofs.YtnmpcdnbklmhkaaGreatDoor
open Go.Proofs.Tryz Go.RowKit
set_option maxRecDepth 100000
set_option linter.all false
set_option maxHeartbeats 8000000
section
set_option linter.unusedSimpArgs false
attribute [local go_sem] Oper.semAt_some
attribute [local go_sem ↓] Go.wp_at_zero Go.wp_at_succ
theorem Ls.set {c:Cf} {f:Fo} {r:Rc} (h:Ls c f r) (a:r.kind=2):Hv f.1 r.src r.ts=true:=h.all (Q:=fun _ f r=>r.kind=2->Hv f.1 r.src r.ts=true) (fun _ _=>⟨fun h=>absurd h (by decide),fun h=>absurd h (by decide),fun _=>by kernel_rfl⟩) a
theorem Ls.r0 {c:Cf} {f:Fo} {r:Rc} (h:Ls c f r):r.src=0:=h.all (Q:=fun _ _ r=>r.src=0) fun _ _=>⟨rfl,rfl,rfl⟩
theorem Ls.no {c:Cf} {f:Fo} {r:Rc} (h:Ls c f r) (a:r.kind≠2):hasE f.2 r.ev=false:=h.all (Q:=fun _ f r=>r.kind≠2->hasE f.2 r.ev=false) (fun _ _=>⟨fun _=>by kernel_rfl,fun _=>by kernel_rfl,fun h=>absurd rfl h⟩) a
theorem FU {P:Program} {j:Func} {p q:Tmp} {g k:TypeId} (h:j.results=#[.cell p g,.cell q k]) (e:Array Value) (w:World) (b:Nat) (t:TypeId) (f:Array Value) (d:TypeDesc)
  (r:e.getD p undef=Vp b 0) (l:Holds w b t f) (u:P.underlying g=some d) (m:(match d with|.struct _|.array _ _=>true|_=>false)=true) (n:(P.info? g).map (·.size)=some f.size)
  (i:Nat) (x:Value) (s:e.getD q undef=Vp i 0) (o:(loadVar k ⟨i,0,none⟩).run P w= .ok x w):
  (results j e).run P w= .ok (.tuple #[.agg f,x]) w:=by
 have a:e[p]?.getD undef=Vp b 0:=by simpa using r
 have c:e[q]?.getD undef=Vp i 0:=by simpa using s
 simp[results,h,a,c,asAddr,run_loadVar_row w b t g f (0,0) d l u m n,o]
theorem QH {w:World} {b:Nat} {x:Int} (h:Holds w b 5 #[Vu x]):(loadVar 5 ⟨b,0,none⟩).run prog w= .ok (Vu x) w:=by
 have q:=h.cell 0;simp at q;simp[go_sem,q]
theorem AO {D b:Nat} {x:Option (List Deferred)}:∀(a:List Value) (o:Nat) {W:World},W.1[D]?=some (.deferred x)->(W.setCells b o a).1[D]?=some (.deferred x)
 |[],_,_,h=>h
 |v::r,o,W,h=>AO r (o+1) ((KeepsOthers.setCell W (Ad b o) v).same D _ h rfl)
theorem Holds.putD {W:World} {b t D:Nat} {d:Array Value} {o i:Obj} (h:Holds W b t d) (f:W.1[D]?=some o) (g:o.isCells=false):Holds (W.putObj D i) b t d:=by
 have a:b≠D:=by
  rintro rfl;have c:W.1[b]?=some (.cells d t (0,0)):=h;rw[c]at f;cases f;cases g
 exact(jc (fun e=>a e)).trans h
theorem Q0 (w:World) (a d f i k:Array Value) (c e g j l:TypeId) (W:World) (m:W=((((w.alloc (Oc a c)).alloc (Oc d e)).alloc (Oc f g)).alloc (Oc i j)).alloc (Oc k l)):
  Holds W w.1.size c a∧Holds W (w.1.size+1) e d∧Holds W (w.1.size+1+1) g f∧Holds W (w.1.size+1+1+1) j i∧Holds W (w.1.size+1+1+1+1) l k∧Bz w W:=by
 subst m;refine⟨((((Holds.fresh w c a).alloc _).alloc _).alloc _).alloc _,(((Holds.fresh' (w:=w.alloc (Oc a c)) (b:=w.1.size+1) (by simp) e d).alloc _).alloc _).alloc _,
  ((Holds.fresh' (w:=(w.alloc (Oc a c)).alloc (Oc d e)) (b:=w.1.size+1+1) (by simp) g f).alloc _).alloc _,
  (Holds.fresh' (w:=((w.alloc (Oc a c)).alloc (Oc d e)).alloc (Oc f g)) (b:=w.1.size+1+1+1) (by simp) j i).alloc _,
  Holds.fresh' (w:=(((w.alloc (Oc a c)).alloc (Oc d e)).alloc (Oc f g)).alloc (Oc i j)) (b:=w.1.size+1+1+1+1) (by simp) l k,
  ((((bA w _).alloc (by simp) _).alloc (by simp;omega) _).alloc (by simp;omega) _).alloc (by simp;omega) _⟩
theorem S5 (c:Cf) (f:Fo) (r:Rc) (u:Ls c f r) (v bc:Value) (w:World) (hv:Ai w v c) (hk:vw w bc f):
  Cs 261 #[v,bc,rcA r] w fun ar w'=>∃v',ar=Rt (.tuple #[v',Vu 0])∧vw w' v' (nowF f r)∧Bz w w':=by
 have hp:=u.ok;have hw:=u.sok.wf;have hl:=u.sok.short;have a9:=u.set;have b7:=u.r0;have af:=u.no;have bb:=hv;have b4:=hk;obtain⟨c3,rfl,hs⟩:=hv;obtain⟨Q,S,P,T,kk,hm,rfl,an⟩:=hk;obtain⟨a5,a6,rfl,bu,bz⟩:=hs.form;obtain⟨B,q,rfl,bv⟩:=an.form;have b':=an.1.small;have HK:=hiD b4;have HV:=hiD bb;have C1:=hiD (fun W a7=>Kb f hl (.agg (foC Q S P T (Sq B f.2.length q) f.hi)) W a7);have C2:=hiD (fun W h1 h2=>Kc c f hp hw u.may u.src (.agg (cfC (Sq a5 c.p.1.length a6) c)) (.agg (foC Q S P T (Sq B f.2.length q) f.hi)) W h1 h2);have C3:=hiD (fun W h1 h2=>Ig c f r (.agg (cfC (Sq a5 c.p.1.length a6) c)) (.agg (foC Q S P T (Sq B f.2.length q) f.hi)) W h1 h2);have C4:=hiD (I7 c f r u);have HM:=hiD hm;have HS:=hiD hs;have bd:=hiD an;have bg:=hiD b7;have bj:=hiD a9;have bf:=hiD af;clear hs an hm bb b4 a9 b7 af u hp hw;obtain⟨bs,au⟩:=xR (nowF f r);rw[au];have bh:=hiD au;clear au;have bq:=hiD (rfl:rcA r=rcA r);obtain⟨bl,hR⟩:=xR r;obtain⟨rk,⟨d,src,seq,kd,re,im⟩,rs,rt⟩:=bl;have E:=hiD hR;rw[hR]at C3⊢;clear hR bq;simp only[rcA,rcV,evV,jE,jD]at C3⊢;simp only[cfC,foC]at C1 C2 C3 HK HV⊢;refine qH func261 rfl ?_;simp only[ntmps261,jW,jF,jO,Nat.reduceAdd,Nat.reduceSub,jR,jQ,jX,jU,jD,jE];go_wp2_with fail;refine zE 0 rfl ?_;go_wp2_with fail;obtain⟨W,hW⟩:=xL (((((w.alloc (Oc #[Sq a5 c.p.1.length a6,Vi c.p.2,Vu c.2,Vi c.cap,Vi c.4,Vi c.5] 45)).alloc (Oc #[Vi Q,Vi S,Vi P,Vi T,Sq B f.2.length q,Vi f.hi] 114)).alloc (Oc #[Vu rk,Vi d,Vi src,Vi seq,Vi kd,Vc re im,Vi rs,Vi rt] 38)).alloc (Oc #[Vi 0,Vi 0,Vi 0,Vi 0,Vn,Vi 0] 114)).alloc (Oc #[Vu 0] 5));rw[<-hW];obtain⟨zc,zf,zr,zo,ze,al⟩:=Q0 w _ _ _ _ _ _ _ _ _ _ W hW;clear hW;have ay:Cs 191 #[.agg #[Vi Q,Vi S,Vi P,Vi T,Sq B f.2.length q,Vi f.hi]] W fun ar w'=>∃a g,ar=Rt (.agg #[Vi Q,Vi S,Vi P,Vi T,Sq a f.2.length g,Vi f.hi])∧Hid (RowT 5 36 evV w' (Sq a f.2.length g) f.2)∧Bz W w':=by
  refine(C1.out _ (HK.out.later al)).mono ?_;rintro ao w1 ⟨v',rfl,⟨j,m1',m2',l,k',bp,rfl,b3⟩,J⟩;obtain⟨rfl,rfl,rfl,rfl⟩:Q=j∧S=m1'∧P=m2'∧T=l:=by
   have:=HM.out.symm.trans bp;simp at this;exact this
  obtain⟨a,g,rfl,bw⟩:=b3.form;exact⟨a,g,rfl,hiD b3,J⟩
 refine ay.mono ?_;rintro ao w1 ⟨a,g,rfl,az,J⟩;replace zo:=zo.later J;replace ze:=ze.later J;replace zc:=zc.later J;replace zf:=zf.later J;replace zr:=zr.later J;clear ay;obtain⟨M,N,O,R,U,X,qf,ql⟩:=zo.g6;obtain⟨Z,sf,-⟩:=ze.g1;obtain⟨p0,p1,p2,p3,p4,p5,-⟩:=zc.g6;obtain⟨r0,r1,r2,r3,r4,r5,-⟩:=zf.g6;have b1:=hiD (al.trans (J.mono al.size));go_wp2_with fail;generalize b0:World.setCell _ _ _=WF;have a1:WF=(w1.setCells (w.1.size+1+1+1) 0 [Vi Q,Vi S,Vi P,Vi T,Sq a f.2.length g,Vi f.hi]).setCell (Ad (w.1.size+1+1+1+1) 0) (Vu 1):=b0.symm;clear b0;have yo:Holds WF (w.1.size+1+1+1) 114 #[Vi Q,Vi S,Vi P,Vi T,Sq a f.2.length g,Vi f.hi]:=by
  rw[a1];exact(zo.setsAll [Vi Q,Vi S,Vi P,Vi T,Sq a f.2.length g,Vi f.hi] rfl).far (p:=Ad (w.1.size+1+1+1+1) 0) (by show w.1.size+1+1+1≠w.1.size+1+1+1+1;omega) _
 have ye:Holds WF (w.1.size+1+1+1+1) 5 #[Vu 1]:=by
  rw[a1];exact(ze.farSets [Vi Q,Vi S,Vi P,Vi T,Sq a f.2.length g,Vi f.hi] 0 (by omega)).set 0 (Vu 1)
 have aj:∀{ai t:Nat} {cs:Array Value},Holds w1 ai t cs->ai≠w.1.size+1+1+1->ai≠w.1.size+1+1+1+1->Holds WF ai t cs:=fun a7 h1 h2=>by
  rw[a1];exact(a7.farSets [Vi Q,Vi S,Vi P,Vi T,Sq a f.2.length g,Vi f.hi] 0 h1).far (p:=Ad (w.1.size+1+1+1+1) 0) h2 _
 have yr:=aj zr (by omega) (by omega);have yc:=aj zc (by omega) (by omega);have yf:=aj zf (by omega) (by omega);have b5:RowT 5 36 evV WF (Sq a f.2.length g) f.2:=by
  rw[a1];exact(RowT.abides (F:=fun t=>t==5) rfl _ _).set (qM.setCells (RowT.abides (F:=fun t=>t==114) rfl _ _) rfl [Vi Q,Vi S,Vi P,Vi T,Sq a f.2.length g,Vi f.hi] 0 az.out zo) (ze.farSets [Vi Q,Vi S,Vi P,Vi T,Sq a f.2.length g,Vi f.hi] 0 (by omega)) rfl 0 _
 have ad:Bz w WF:=by rw[a1];exact(Below.setCells (by omega) [Vi Q,Vi S,Vi P,Vi T,Sq a f.2.length g,Vi f.hi] 0 b1.out).setCell (p:=Ad (w.1.size+1+1+1+1) 0) (by show w.1.size<=w.1.size+1+1+1+1;omega) _
 clear a1 aj zo ze zc zf zr az p0 p1 p2 p3 p4 p5 r0 r1 r2 r3 r4 r5 M N O R U X Z sf qf ql b1 al J;refine(C2.out _ (HV.out.later ad) (HK.out.later ad)).mono ?_;rintro ao x ⟨rfl,m⟩;clear C1 C2;have a2:=ad.trans (m.mono ad.size);replace yo:=yo.later m;replace ye:=ye.later m;replace yr:=yr.later m;replace yc:=yc.later m;replace yf:=yf.later m;have am:=b5.later m;obtain⟨p0,p1,p2,p3,p4,p5,-⟩:=yc.g6;obtain⟨Z,s1,s2,s3,s4,s5,-⟩:=yf.g6;obtain⟨M,N,O,R,U,X,q6,q7,-⟩:=yr.g8;have ak:=hiD a2;have c1:w.1.size+1+1+1+1<x.1.size:=ye.size;clear a2 m b5 ad;go_wp2_with fail;refine(C3.out _ (HV.out.later ak.out) (HK.out.later ak.out)).mono ?_;rintro ao w3 ⟨rfl,⟨u',j,m1',m2',l,br,eu,ek,em,gc,gf⟩,gr,a8⟩;have bn:u'=Sq a5 c.p.1.length a6:=by simp at eu;exact eu.symm
 have bm:j=Q∧m1'=S∧m2'=P∧l=T∧br=Sq B f.2.length q:=by simp at ek;exact⟨ek.1.symm,ek.2.1.symm,ek.2.2.1.symm,ek.2.2.2.1.symm,ek.2.2.2.2.symm⟩
 subst bn;obtain⟨rfl,rfl,rfl,rfl,rfl⟩:=bm;clear eu ek em;replace yo:=yo.later a8;replace ye:=ye.later a8;replace yr:=yr.later a8;replace am:=am.later a8;have ah:=ak.out.trans (a8.mono ak.out.size);have c0:x.1.size<=w3.1.size:=a8.size;have c2:w.1.size+1+1+1+1<w3.1.size:=ye.size;clear yc yf p0 p1 p2 p3 p4 p5 Z s1 s2 s3 s4 s5 M N O R U X q6 q7;have bo:=hiD (C4.out (Sq a5 c.p.1.length a6) j m1' m2' l (Sq B f.2.length q) HM.out x.1.size (x.1.size+1) (x.1.size+2));have b2:Holds w3 (x.1.size+2) 38 (rcV r).toArray:=by rw[E.out];exact gr
 have ba:=HS.out.mono ah nLe;have b6:=bd.out.later ah;clear gr;obtain⟨cb,bx⟩:=xL x.1.size;go_wp2_with fail;refine Dl rfl Gz bo.out (fun _=>rfl)
  (fun W=>(Holds W x.1.size 45 (cfC (Sq a5 c.p.1.length a6) c)∧qN W (Sq a5 c.p.1.length a6) c.p.1∧Holds W (x.1.size+1) 114 (foC j m1' m2' l (Sq B f.2.length q) f.hi)∧RowT 5 36 evV W (Sq B f.2.length q) f.2∧Holds W (x.1.size+2) 38 (rcV r).toArray)∧
   Holds W (w.1.size+1+1+1) 114 #[Vi j,Vi m1',Vi m2',Vi l,Sq a f.2.length g,Vi f.hi]∧RowT 5 36 evV W (Sq a f.2.length g) f.2∧Holds W (w.1.size+1+1+1+1) 5 #[Vu 1]∧
   Holds W (w.1.size+1+1) 38 #[Vu rk,Vi d,Vi src,Vi seq,Vi kd,Vc re im,Vi rs,Vi rt]∧Bz w W)
  (((qi _ _ _).and ((Dr _ _).and ((qi _ _ _).and (((RowT.abides (F:=fun _=>false) rfl _ _).stable _).and (qi _ _ _))))).and ((qi _ _ _).and (((RowT.abides (F:=fun _=>false) rfl _ _).stable _).and ((qi _ _ _).and ((qi _ _ _).and (qe.below (by omega) nLe))))))
  (fun W a7=>a7.1) ⟨⟨gc,ba,gf,b6,b2⟩,yo,am,ye,yr,ah⟩ ?_
 rintro D W hD ⟨_,L,a0,k,ir,iB⟩ hK;have hj:bs=nowF f r:=bh.out.symm;have HJ:=hiD hj;have a':=hiD hK;have HB:=hiD iB;clear hj hK iB yo ye yr am ah ba b6 b2 gc gf;by_cases a3:rk=2
 ·have a9:Hv [j,m1',m2',l] rs rt=true:=by
   have:=bj.out (by rw[E.out];exact a3);rw[HM.out,E.out]at this;exact this
  have bk:=hiD a9;have b9:rs=0:=by
   have:=bg.out;rw[E.out]at this;exact this
  have bi:=hiD b9;clear b9;have aa:nowF f r={f with marks:=setM [j,m1',m2',l] rs rt}:=by
   unfold nowF;rw[if_pos (by rw[E.out];exact a3),HM.out,E.out]
  have HN:=hiD aa;clear a9 aa;subst a3;obtain⟨M,N,O,R,U,X,qf,ql⟩:=L.g6;obtain⟨Z,sf,-⟩:=k.g1;obtain⟨r0,r1,r2,r3,r4,r5,r6,r7,-⟩:=ir.g8;show Exit.inBlock 0 _ _ _ _;go_wp2_with fail;refine(SF j m1' m2' l rs rt bi.out bk.out _).mono ?_;rintro ao W2 ⟨C,H,I,K,hn,rfl,m⟩;replace L:=L.later m;replace k:=k.later m;replace a0:=a0.later m;have a2:=HB.out.trans (m.mono HB.out.size);have ae:=(Kqb m).same D _ a'.out rfl;have be:=hiD hn;have ap:=hiD a2;have aq:=hiD ae;clear M N O R U X qf ql Z sf r0 r1 r2 r3 r4 r5 r6 r7 a2 ae m hn;obtain⟨M,N,O,R,U,X,qf,ql⟩:=L.g6;obtain⟨Z,sf,-⟩:=k.g1;simp only[mkA];go_wp2_with fail;obtain⟨h,o⟩:=xL (((((((((((W2.setCell (Ad (w.1.size+1+1+1) 0) (Vi C)).setCell (Ad (w.1.size+1+1+1) 1) (Vi H)).setCell (Ad (w.1.size+1+1+1) 2) (Vi I)).setCell (Ad (w.1.size+1+1+1) 3) (Vi K)).setCell (Ad (w.1.size+1+1+1) 0) (Vi C)).setCell (Ad (w.1.size+1+1+1) 1) (Vi H)).setCell (Ad (w.1.size+1+1+1) 2) (Vi I)).setCell (Ad (w.1.size+1+1+1) 3) (Vi K)).setCell (Ad (w.1.size+1+1+1) 4) (Sq a f.2.length g)).setCell (Ad (w.1.size+1+1+1) 5) (Vi f.hi)).setCell (Ad (w.1.size+1+1+1+1) 0) (Vu 0));rw[<-o];have a4:Holds (((((W2.setCell (Ad (w.1.size+1+1+1) 0) (Vi C)).setCell (Ad (w.1.size+1+1+1) 1) (Vi H)).setCell (Ad (w.1.size+1+1+1) 2) (Vi I)).setCell (Ad (w.1.size+1+1+1) 3) (Vi K))) (w.1.size+1+1+1) 114 #[Vi C,Vi H,Vi I,Vi K,Sq a f.2.length g,Vi f.hi]:=(((L.set 0 (Vi C)).set 1 (Vi H)).set 2 (Vi I)).set 3 (Vi K);obtain⟨V,z⟩:=xL ((((W2.setCell (Ad (w.1.size+1+1+1) 0) (Vi C)).setCell (Ad (w.1.size+1+1+1) 1) (Vi H)).setCell (Ad (w.1.size+1+1+1) 2) (Vi I)).setCell (Ad (w.1.size+1+1+1) 3) (Vi K));rw[<-z]at o a4;have ag:Holds V (w.1.size+1+1+1+1) 5 #[Vu 1]:=by
   rw[z];exact(((k.far (p:=Ad (w.1.size+1+1+1) 0) (by show w.1.size+1+1+1+1≠w.1.size+1+1+1;omega) _).far (p:=Ad (w.1.size+1+1+1) 1) (by show w.1.size+1+1+1+1≠w.1.size+1+1+1;omega) _).far (p:=Ad (w.1.size+1+1+1) 2) (by show w.1.size+1+1+1+1≠w.1.size+1+1+1;omega) _).far (p:=Ad (w.1.size+1+1+1) 3) (by show w.1.size+1+1+1+1≠w.1.size+1+1+1;omega) _
  have y:qM (fun t=>t==114) (fun W=>RowT 5 36 evV W (Sq a f.2.length g) f.2):=RowT.abides rfl _ _;have ax:RowT 5 36 evV V (Sq a f.2.length g) f.2:=by
   rw[z];exact y.set (y.set (y.set (y.set a0 L rfl 0 (Vi C)) (L.set 0 (Vi C)) rfl 1 (Vi H)) ((L.set 0 (Vi C)).set 1 (Vi H)) rfl 2 (Vi I)) (((L.set 0 (Vi C)).set 1 (Vi H)).set 2 (Vi I)) rfl 3 (Vi K)
  have av:Bz w V:=by
   rw[z];exact(((ap.out.setCell (p:=Ad (w.1.size+1+1+1) 0) (by show w.1.size<=w.1.size+1+1+1;omega) _).setCell (p:=Ad (w.1.size+1+1+1) 1) (by show w.1.size<=w.1.size+1+1+1;omega) _).setCell (p:=Ad (w.1.size+1+1+1) 2) (by show w.1.size<=w.1.size+1+1+1;omega) _).setCell (p:=Ad (w.1.size+1+1+1) 3) (by show w.1.size<=w.1.size+1+1+1;omega) _
  have aw:V.1[D]?=some (.deferred (some [])):=by
   rw[z];exact(KeepsOthers.setCell _ (Ad (w.1.size+1+1+1) 3) _).same D _ ((KeepsOthers.setCell _ (Ad (w.1.size+1+1+1) 2) _).same D _ ((KeepsOthers.setCell _ (Ad (w.1.size+1+1+1) 1) _).same D _ ((KeepsOthers.setCell _ (Ad (w.1.size+1+1+1) 0) _).same D _ aq.out rfl) rfl) rfl) rfl
  have s:h=(V.setCells (w.1.size+1+1+1) 0 [Vi C,Vi H,Vi I,Vi K,Sq a f.2.length g,Vi f.hi]).setCell (Ad (w.1.size+1+1+1+1) 0) (Vu 0):=o;clear o z L k a0;have go:Holds h (w.1.size+1+1+1) 114 #[Vi C,Vi H,Vi I,Vi K,Sq a f.2.length g,Vi f.hi]:=by
   rw[s];exact(a4.setsAll [Vi C,Vi H,Vi I,Vi K,Sq a f.2.length g,Vi f.hi] rfl).far (p:=Ad (w.1.size+1+1+1+1) 0) (by show w.1.size+1+1+1≠w.1.size+1+1+1+1;omega) _
  have ge:Holds h (w.1.size+1+1+1+1) 5 #[Vu 0]:=by
   rw[s];exact(ag.farSets [Vi C,Vi H,Vi I,Vi K,Sq a f.2.length g,Vi f.hi] 0 (by omega)).set 0 (Vu 0)
  have gk:RowT 5 36 evV h (Sq a f.2.length g) f.2:=by
   rw[s];exact(RowT.abides (F:=fun t=>t==5) rfl _ _).set (qM.setCells y rfl [Vi C,Vi H,Vi I,Vi K,Sq a f.2.length g,Vi f.hi] 0 ax a4) (ag.farSets [Vi C,Vi H,Vi I,Vi K,Sq a f.2.length g,Vi f.hi] 0 (by omega)) rfl 0 _
  have gB:Bz w h:=by rw[s];exact(Below.setCells (by omega) [Vi C,Vi H,Vi I,Vi K,Sq a f.2.length g,Vi f.hi] 0 av).setCell (p:=Ad (w.1.size+1+1+1+1) 0) (by show w.1.size<=w.1.size+1+1+1+1;omega) _
  have ab:(V.setCells (w.1.size+1+1+1) 0 [Vi C,Vi H,Vi I,Vi K,Sq a f.2.length g,Vi f.hi]).1[D]?=some (.deferred (some [])):=AO (b:=w.1.size+1+1+1) [Vi C,Vi H,Vi I,Vi K,Sq a f.2.length g,Vi f.hi] 0 aw;have ac:=(KeepsOthers.setCell (V.setCells (w.1.size+1+1+1) 0 [Vi C,Vi H,Vi I,Vi K,Sq a f.2.length g,Vi f.hi]) (Ad (w.1.size+1+1+1+1) 0) (Vu 0)).same D _ ab rfl;have n:h.1[D]?=some (.deferred (some [])):=by rw[s];exact ac
  clear ab ac s;rw[qU];refine qZ n (FU rfl _ _ (w.1.size+1+1+1) 114 #[Vi C,Vi H,Vi I,Vi K,Sq a f.2.length g,Vi f.hi] _ rfl (go.putD n rfl) underlying114 rfl rfl (w.1.size+1+1+1+1) (Vu 0) rfl (QH (ge.putD n rfl))) ?_;rw[HJ.out,HN.out];exact⟨_,rfl,⟨C,H,I,K,_,be.out,rfl,(RowT.abides (F:=fun _=>false) rfl _ _).put gk n rfl⟩,qB gB n (by omega)⟩
 ·have af:hasE f.2 ⟨d,src,seq,kd,re,im⟩=false:=by
   have:=bf.out (by rw[E.out];exact a3);rw[E.out]at this;exact this
  have C5:=hiD (fun W a7=>row_Put ⟨d,src,seq,kd,re,im⟩ f.2 (Sq a f.2.length g) W a7 hl af);have aa:nowF f r={f with keep:=putE f.2 ⟨d,src,seq,kd,re,im⟩,hi:=max f.hi d}:=by
   unfold nowF;rw[if_neg (by rw[E.out];exact a3),E.out]
  have HN:=hiD aa;have bt:(rk==2)=false:=by simpa using a3
  simp only[evA,evV]at C5;clear af aa a3;obtain⟨M,N,O,R,U,X,qf,ql⟩:=L.g6;obtain⟨Z,sf,-⟩:=k.g1;obtain⟨r0,r1,r2,r3,r4,r5,r6,r7,-⟩:=ir.g8;show Exit.inBlock 0 _ _ _ _;go_wp2_with fail;refine(C5.out _ a0.1).mono ?_;rintro c4 W2 ⟨v5,rfl,b8,m⟩;replace L:=L.later m;replace k:=k.later m;replace ir:=ir.later m;have a2:=HB.out.trans (m.mono HB.out.size);have ae:=(Kqb m).same D _ a'.out rfl;have ap:=hiD a2;have aq:=hiD ae;obtain⟨e,i,rfl,-⟩:=b8.form;generalize putE f.2 ⟨d,src,seq,kd,re,im⟩=A at*;clear M N O R U X qf ql Z sf r0 r1 r2 r3 r4 r5 r6 r7 a2 ae m a0;obtain⟨M,N,O,R,U,X,qf,ql⟩:=L.g6;obtain⟨Z,sf,-⟩:=k.g1;obtain⟨r0,r1,r2,r3,r4,r5,r6,r7,-⟩:=ir.g8;go_wp2_with fail;obtain⟨h,o⟩:=xL (((((((((W2.setCell (Ad (w.1.size+1+1+1) 4) (Sq e A.length i)).setCell (Ad (w.1.size+1+1+1) 5) (Vi (max f.hi d))).setCell (Ad (w.1.size+1+1+1) 0) (Vi j)).setCell (Ad (w.1.size+1+1+1) 1) (Vi m1')).setCell (Ad (w.1.size+1+1+1) 2) (Vi m2')).setCell (Ad (w.1.size+1+1+1) 3) (Vi l)).setCell (Ad (w.1.size+1+1+1) 4) (Sq e A.length i)).setCell (Ad (w.1.size+1+1+1) 5) (Vi (max f.hi d))).setCell (Ad (w.1.size+1+1+1+1) 0) (Vu 0));rw[<-o];have a4:Holds (((W2.setCell (Ad (w.1.size+1+1+1) 4) (Sq e A.length i)).setCell (Ad (w.1.size+1+1+1) 5) (Vi (max f.hi d)))) (w.1.size+1+1+1) 114 #[Vi j,Vi m1',Vi m2',Vi l,Sq e A.length i,Vi (max f.hi d)]:=(L.set 4 (Sq e A.length i)).set 5 (Vi (max f.hi d));obtain⟨V,z⟩:=xL ((W2.setCell (Ad (w.1.size+1+1+1) 4) (Sq e A.length i)).setCell (Ad (w.1.size+1+1+1) 5) (Vi (max f.hi d)));rw[<-z]at o a4;have ag:Holds V (w.1.size+1+1+1+1) 5 #[Vu 1]:=by
   rw[z];exact(k.far (p:=Ad (w.1.size+1+1+1) 4) (by show w.1.size+1+1+1+1≠w.1.size+1+1+1;omega) _).far (p:=Ad (w.1.size+1+1+1) 5) (by show w.1.size+1+1+1+1≠w.1.size+1+1+1;omega) _
  have y:qM (fun t=>t==114) (fun W=>RowT 5 36 evV W (Sq e A.length i) A):=RowT.abides rfl _ _;have ax:RowT 5 36 evV V (Sq e A.length i) A:=by
   rw[z];exact y.set (y.set b8 L rfl 4 (Sq e A.length i)) (L.set 4 (Sq e A.length i)) rfl 5 (Vi (max f.hi d))
  have av:Bz w V:=by
   rw[z];exact(ap.out.setCell (p:=Ad (w.1.size+1+1+1) 4) (by show w.1.size<=w.1.size+1+1+1;omega) _).setCell (p:=Ad (w.1.size+1+1+1) 5) (by show w.1.size<=w.1.size+1+1+1;omega) _
  have aw:V.1[D]?=some (.deferred (some [])):=by
   rw[z];exact(KeepsOthers.setCell _ (Ad (w.1.size+1+1+1) 5) _).same D _ ((KeepsOthers.setCell _ (Ad (w.1.size+1+1+1) 4) _).same D _ aq.out rfl) rfl
  have s:h=(V.setCells (w.1.size+1+1+1) 0 [Vi j,Vi m1',Vi m2',Vi l,Sq e A.length i,Vi (max f.hi d)]).setCell (Ad (w.1.size+1+1+1+1) 0) (Vu 0):=o;clear o z L k;have go:Holds h (w.1.size+1+1+1) 114 #[Vi j,Vi m1',Vi m2',Vi l,Sq e A.length i,Vi (max f.hi d)]:=by
   rw[s];exact(a4.setsAll [Vi j,Vi m1',Vi m2',Vi l,Sq e A.length i,Vi (max f.hi d)] rfl).far (p:=Ad (w.1.size+1+1+1+1) 0) (by show w.1.size+1+1+1≠w.1.size+1+1+1+1;omega) _
  have ge:Holds h (w.1.size+1+1+1+1) 5 #[Vu 0]:=by
   rw[s];exact(ag.farSets [Vi j,Vi m1',Vi m2',Vi l,Sq e A.length i,Vi (max f.hi d)] 0 (by omega)).set 0 (Vu 0)
  have gk:RowT 5 36 evV h (Sq e A.length i) A:=by
   rw[s];exact(RowT.abides (F:=fun t=>t==5) rfl _ _).set (qM.setCells y rfl [Vi j,Vi m1',Vi m2',Vi l,Sq e A.length i,Vi (max f.hi d)] 0 ax a4) (ag.farSets [Vi j,Vi m1',Vi m2',Vi l,Sq e A.length i,Vi (max f.hi d)] 0 (by omega)) rfl 0 _
  have gB:Bz w h:=by rw[s];exact(Below.setCells (by omega) [Vi j,Vi m1',Vi m2',Vi l,Sq e A.length i,Vi (max f.hi d)] 0 av).setCell (p:=Ad (w.1.size+1+1+1+1) 0) (by show w.1.size<=w.1.size+1+1+1+1;omega) _
  have ab:(V.setCells (w.1.size+1+1+1) 0 [Vi j,Vi m1',Vi m2',Vi l,Sq e A.length i,Vi (max f.hi d)]).1[D]?=some (.deferred (some [])):=AO (b:=w.1.size+1+1+1) [Vi j,Vi m1',Vi m2',Vi l,Sq e A.length i,Vi (max f.hi d)] 0 aw;have ac:=(KeepsOthers.setCell (V.setCells (w.1.size+1+1+1) 0 [Vi j,Vi m1',Vi m2',Vi l,Sq e A.length i,Vi (max f.hi d)]) (Ad (w.1.size+1+1+1+1) 0) (Vu 0)).same D _ ab rfl;have n:h.1[D]?=some (.deferred (some [])):=by rw[s];exact ac
  clear ab ac s;rw[qU];refine qZ n (FU rfl _ _ (w.1.size+1+1+1) 114 #[Vi j,Vi m1',Vi m2',Vi l,Sq e A.length i,Vi (max f.hi d)] _ rfl (go.putD n rfl) underlying114 rfl rfl (w.1.size+1+1+1+1) (Vu 0) rfl (QH (ge.putD n rfl))) ?_;rw[HJ.out,HN.out];exact⟨_,rfl,⟨j,m1',m2',l,_,HM.out,rfl,(RowT.abides (F:=fun _=>false) rfl _ _).put gk n rfl⟩,qB gB n (by omega)⟩
end
section
attribute [local go_sem] Oper.semAt_some
attribute [local go_sem ↓] Go.wp_at_zero Go.wp_at_succ
def Ft:List Int->List Int->Bool
 |[],b=>b.isEmpty
 |w::ws,b=>decide (0<=w)&&decide (w<=6)&&decide (w<=(b.length:Int))&&Ft ws (b.drop w.toNat)
def Ts (R:Rc):List Int:=if R.kind=1 then [R.ev.ts,0,0,R.ev.kind,0,0]else [0,R.ts]
theorem kw {P:Program} {i:Func} {p q:Tmp} {g:TypeId} (h:i.results=#[.cell p g,.tmp q]) (e:Array Value) (w:World) (b:Nat) (t:TypeId) (f:Array Value) (d:TypeDesc) (x:Value)
  (m:e.getD p undef=Vp b 0) (j:Holds w b t f) (o:P.underlying g=some d) (k:(match d with|.struct _|.array _ _=>true|_=>false)=true) (l:(P.info? g).map (·.size)=some f.size) (n:e.getD q undef=x):
  (results i e).run P w= .ok (.tuple #[.agg f,x]) w:=by
 have a:e[p]?.getD undef=Vp b 0:=by simpa using m
 have c:e[q]?.getD undef=x:=by simpa using n
 simp[results,h,a,c,asAddr,run_loadVar_row w b t g f (0,0) d j o k l]
theorem Q8 (R:Rc) (hR:RcOk R) (k:Int) (ao:k=R.kind) (b:List Int) (hb:∀x∈b,0<=x∧x<256) (hf:Ft (qT k) b=true) (ae:Ct k=(b.length:Int)+1) (hD:xP (qT k) b=Ts R)
  (g o a5:Nat) (hc:b.length+1<=a5) (w:World) (hw:zA w .u8 (some ⟨g,o,none⟩) (k::b)):
  Cs 126 #[Sq (some ⟨g,o,none⟩) (b.length+1) a5] w (Rw w (.tuple #[rcA R,Vi 0])):=by
 have hk:k=1∨k=2:=ao▸hR.kd;have ab:=hiD hR;have HK:=hiD ao;clear hR ao;obtain⟨i0,bt,c0,a9,a8⟩:=iP3;have cj:=hst1;obtain⟨bc,bd⟩:=hw;have af:∀i,i<b.length+1->w.cell? ⟨g,o+i,none⟩=some (Vu ((k::b).getD i 0)):=by
  rcases bd with h|⟨g',o',ai,h⟩
  ·cases h
  ·cases ai;simpa using h
 have br:b.length+1<=140737488351232:=by simpa using bc
 have b8:0<=k:=by omega
 have b9:k<=255:=by omega
 have hW:Ct k≠0:=by omega
 have L:=hiD (fun W'=>Ra k b8 b9 W');have C2:=hiD (fun W'=>BW k b8 b9 W');rw[ae]at L;have bz:(qT k).length<=6:=by unfold qT;split;decide;split<;>decide
 generalize bh:qT k=B at*;have ay:=hiD bh;have a4:=bA w (Oc #[Vu 0,Vi 0,Vi 0,Vi 0,Vi 0,Vc 0 0,Vi 0,Vi 0] 38);have t:=Holds.fresh w 38 #[Vu 0,Vi 0,Vi 0,Vi 0,Vi 0,Vc 0 0,Vi 0,Vi 0];have e:=af 0 (by omega);simp only[Nat.add_zero,List.getD_cons_zero]at e;replace e:=qd a4 nLe e;have ah:=hiD (fun i (hi:i<b.length)=>(show w.cell? ⟨g,o+1+i,none⟩=some (Vu (b.getD i 0)) by
  have:=af (i+1) (by omega);rw[show o+1+i=o+(i+1) by omega,this];simp))
 have HB:=hiD hb;have HF:=hiD hf;have HD:=hiD hD;obtain⟨n,hn⟩:=xR b.length;rw[hn]at hc br ae L⊢;have HN:=hiD hn;clear bh hb hf hD af bd bc hn hW;have cg:(((n+1:Nat):Int)==0)=false:=by simp;omega
 have ch:((n:Int)+1==0)=false:=by simp;omega
 have cc:decide (((n+1:Nat):Int)>(n:Int)+1)=false:=by simp
 have aq:decide (((n+1:Nat):Int)<(n:Int)+1)=false:=by simp
 go_enter func126,ntmps126;go_wp2_with fail;refine zE 0 rfl ?_;go_wp2_with fail;obtain⟨W1,a'⟩:=xR (w.alloc (Oc #[Vu 0,Vi 0,Vi 0,Vi 0,Vi 0,Vc 0 0,Vi 0,Vi 0] 38));rw[a']at a4 t e⊢;clear a';refine(L.out _).mono ?_;rintro x w1 ⟨rfl,ad⟩;have al:=a4.trans (ad.mono a4.size);replace e:=qd ad nLe e;replace t:=t.later ad;go_wp2_with fail;refine(L.out _).mono ?_;rintro x w2 ⟨rfl,aa⟩;have am:=al.trans (aa.mono al.size);replace e:=qd aa nLe e;replace t:=t.later aa;clear ad aa al;go_wp2_with fail;refine(L.out _).mono ?_;rintro x W ⟨rfl,s⟩;have b1:=am.trans (s.mono am.size);replace e:=qd s nLe e;replace t:=t.later s;clear s am L;go_wp2_with fail;have cf:7<=n:=by
  rcases hk with rfl|rfl<;>rw[OL]at ae<;>simp at ae<;>omega
 have ca:¬a5=1:=by omega
 have cb:(a5==1)=false:=by simp;omega
 have zf:=t.free;have z0:=t.cell 0;simp at z0;have HZ:=hiD t;have zs:=t.size;have c9:(1:Int)<=(n:Int)+1:=by omega
 have cd:g<w.1.size:=vz (ah.out 0 (by have:=HN.out;omega));refine qO [(true,0),(true,1),(true,2),(true,3),(true,4),(true,5),(false,6)] 7 [] (by kernel_rfl) (by kernel_rfl) (fun w'=>w'.cell? ⟨g,o,none⟩=some (Vu k)) e (fun _ _ a6 _ _ h=>by cases a6<;>exact h) ?_;simp only[qI,xx,jM,jN]
 repeat (refine zX rfl (fun w' T=>by (go_simp<;>rfl)) ?_)
 simp only[Act.put,jC,jL,jK];refine zQ rfl ?_;have c8:w.1.size<W.drew.1.size:=zs;have c6:W.drew.cell? ⟨w.1.size,0,none⟩=some (Vu 0):=z0;have c7:∀i,W.drew.frozen? ⟨w.1.size,i,none⟩=false:=zf;go_simp;refine vf ?_;have zk:Holds (W.setCell ⟨w.1.size,0,none⟩ (Vu k)).drew w.1.size 38 #[Vu k,Vi 0,Vi 0,Vi 0,Vi 0,Vc 0 0,Vi 0,Vi 0]:=(HZ.out.set 0 (Vu k)).drew;have an:Bz w (W.setCell ⟨w.1.size,0,none⟩ (Vu k)).drew:=(b1.setCell nLe _).drew;go_wp2_with fail;generalize (W.setCell ⟨w.1.size,0,none⟩ (Vu k)).drew=w4 at*;clear z0 c6 zf c7 zs c8 t HZ b1 a4 e;have D:=zk.cell 0;simp at D;go_wp2_with fail;refine(C2.out _).mono ?_;rintro x w5 ⟨wa,rfl,be,a2⟩;have C:=an.trans (a2.mono an.size);replace zk:=zk.later a2;clear D a2 an C2;obtain⟨wn,au⟩:=xR B.length;have ax:=hiD be.2;have a7:=hiD au;rw[au]at bz⊢;clear be au;go_wp2_with fail;go_loopw [0,4,42] (fun b0 lv av wr=>∃(i m z E:Nat) (f a:List Int),i<=wn∧m<=n∧av=Vi i∧b0=Sq (some ⟨g,z,none⟩) m E∧m<=E∧wr.ownsRow w5.1.size 3 1 lv i (f.flatMap intV)∧
   Hid (a.length=m∧f.length=i∧xP B b=f++xP (B.drop i) a∧Ft (B.drop i) a=true∧(∀x∈a,0<=x∧x<256)∧∀j,j<m->w.cell? ⟨g,z+j,none⟩=some (Vu (a.getD j 0)))∧Bz w5 wr) (fun _ _ av _=>wn-(intOf av).toNat)
 case atStart=>exact⟨0,n,o+1,a5-1,[],b,jg _,Nat.le_refl _,rfl,rfl,by omega,js _ _ _ _,hiD ⟨HN.out,rfl,rfl,HF.out,HB.out,fun j V=>ah.out j (by rw[HN.out];exact V)⟩,Below.refl _ _⟩
 case round=>
  obtain⟨i,m,z,E,f,a,hi,hm,rfl,rfl,ce,r,HH,s⟩:=hrel;have b3:=C.trans (s.mono C.size);by_cases aq:i<wn
  ·obtain⟨h1,h2,O,M,h5,h6⟩:=HH.out;have a3:i<B.length:=by rw[a7.out];exact aq
   have bg:B.drop i=B[i]::B.drop (i+1):=je a3;obtain⟨bw,ow,rfl,bf⟩:∃bw ow,wa=some ⟨bw,ow,none⟩∧∀i,i<B.length->w5.cell? ⟨bw,ow+i,none⟩=some (Vi (B.getD i 0)):=by
    rcases ax.out with h|h
    ·rw[h]at a3;simp at a3
    ·exact h
   have p0:=bf i a3;replace p0:=qd s nLe p0;rw[jx,jB a3,Option.getD_some]at p0;rw[bg]at O M;generalize B[i]=x at*;rw[Ft]at M;simp only[jJ,decide_eq_true_eq]at M;obtain⟨⟨⟨bi,cm⟩,b'⟩,M⟩:=M;obtain⟨p,rfl⟩:=jr bi;rw[h1]at b';simp only[Int.toNat_natCast]at M O;have cp:p<=m:=by omega
   have cn:p<=6:=by omega
   have b4:zA wr .u8 (some ⟨g,z,none⟩) (a.take p):=⟨by rw[jb];omega,.inr ⟨g,z,rfl,fun j V=>by
    rw[jb]at V;have:=qd b3 nLe (h6 j (by omega));rw[this];simp[List.getD,show j<p by omega]⟩⟩
   have X:=Un (a.take p) (some ⟨g,z,none⟩) E (by rw[jb];omega) wr b4 (fun aw hy=>h5 aw (List.mem_of_mem_take hy));have ba:(a.take p).length=p:=by rw[jb];omega
   rw[ba]at X;have b5:(a.take p).drop (p-7)=a.take p:=by rw[show p-7=0 by omega];rfl
   rw[b5]at X;have ar:xP B b=(f++[xW 0 (a.take p)])++xP (B.drop (i+1)) (a.drop p):=by
    rw[O,xP];simp
   obtain⟨H,bb⟩:=xR (xW 0 (a.take p));rw[bb]at X ar;have hA:∃z',(if E=p then (some ⟨g,z,none⟩:Option Addr)else some ⟨g,z+p,none⟩)=some ⟨g,z',none⟩∧∀j,j<m-p->w.cell? ⟨g,z'+j,none⟩=some (Vu ((a.drop p).getD j 0)):=by
    by_cases he:E=p
    ·exact⟨z,if_pos he,fun j V=>by omega⟩
    ·refine⟨z+p,if_neg he,fun j V=>?_⟩;have:=h6 (p+j) (by omega);rw[show z+p+j=z+(p+j) by omega,this];simp[List.getD]
   obtain⟨z',a9,a8⟩:=hA;have bv:Hid ((a.drop p).length=m-p∧(f++[H]).length=i+1∧xP B b=(f++[H])++xP (B.drop (i+1)) (a.drop p)∧Ft (B.drop (i+1)) (a.drop p)=true∧(∀x∈a.drop p,0<=x∧x<256)∧∀j,j<m-p->w.cell? ⟨g,z'+j,none⟩=some (Vu ((a.drop p).getD j 0))):=
    hiD ⟨by rw[jj,h1],by simp[h2],ar,M,fun aw hy=>h5 aw (List.mem_of_mem_drop hy),a8⟩
   have bj:=hiD X;have bl:=hiD a9;have co:(p:Int)<=E:=by omega
   have cl:(p:Int)<=m:=by omega
   obtain⟨la,lc,ap⟩:=qh r;subst ap;have ag:=hiD (r.alloc (Oc #[Vi H] 3));have ck:=s.size;have b2:=s.alloc s.size (Oc #[Vi H] 3);clear h1 h2 O M h5 h6 bg bf b4 X ba b5 ar bb a9 a8 HH bi r;go_wp2_with fail;refine bj.out.mono ?_;rintro x w6 ⟨rfl,rfl⟩;go_wp2_with (at_builtin;refine wpList_append_own _ rfl _ _ 125 rfl w5.1.size 3 i0 (Vi 0) 1 8 underlying125 bt c0 a9 a8 rfl (by decide) (Sq la i lc) i (f.flatMap intV) rfl ag.out ⟨wr.1.size,0,none⟩ 1 1 [Vi H] rfl rfl ?c1 ?c2 ?c3 ?c4 ?c5 ?_);case c1=>exact qR wr [Vi H] 3
   case c2=>
    intro d6 hu;simp only[jI,jH,or_false]at hu;subst hu;rfl
   case c3=>unfold maxLen;omega
   case c4=>omega
   case c5=>simp;omega
   intro v' w7 r az _;have a2:=b2.grown az b2.size (fun b hb=>qE ag.out b hb);obtain⟨ga,gc,bs⟩:=qh r;subst bs;have bk:=hiD (show w7.ownsRow w5.1.size 3 1 (Sq ga (i+1) gc) (i+1) ((f++[H]).flatMap intV) by simpa[intV]using r);clear az r ag;go_wp2_with fail;rw[bl.out];rw[show ((i:Int)+1)=((i+1:Nat):Int) by push_cast;rfl];exact⟨⟨i+1,m-p,z',E-p,f++[H],a.drop p,aq,by omega,rfl,rfl,by omega,bk.out,bv,a2⟩,by simp[intOf];omega⟩
  ·obtain rfl:i=wn:=by omega
   obtain⟨h1,h2,O,M,h5,h6⟩:=HH.out;rw[<-a7.out,List.drop_length,xP]at O;rw[jo]at O;have t:=zk.later s;obtain⟨la,lc,ap⟩:=qh r;subst ap;have ac:=hiD (O.symm.trans HD.out);have b6:∀j,j<i->∃N F,la=some ⟨N,F,none⟩∧wr.cell? ⟨N,F+j,none⟩=some (Vi (f.getD j 0))∧N≠w.1.size:=fun j V=>by
    have bx:RowT 1 3 intV wr (Sq la f.length lc) f:=RowT.of_own (enc:=intV) (l:=f) (fun _=>rfl) (by rw[h2];exact r) rfl;obtain⟨rb,ro,rc,e1,ci,r0⟩:=bx.1.get (jB (show j<f.length by omega));cases e1;refine⟨rb,ro,rfl,?_,?_⟩
    ·have h0:=r0 0 _ rfl;rw[Nat.mul_one,Nat.add_zero]at h0;rw[h0];simp[List.getD,jB (show j<f.length by omega)]
    ·have:=qE r rb rfl;have:=zk.size;omega
   have v:=hiD b6;have b7:=a7.out;clear h1 h2 O M h5 h6 b6 HH r ax ah HF HB HN a7 b3 HD;rcases hk with rfl|rfl
   ·obtain rfl:B=[6,1,3,1,4,4]:=by rw[<-ay.out];rfl
    obtain rfl:i=6:=b7.symm;obtain⟨N,F,rfl,P,bu⟩:=v.out 0 (by omega);obtain⟨cs,cy,e1,S,-⟩:=v.out 1 (by omega);obtain⟨ct,cz,e2,d2,-⟩:=v.out 2 (by omega);obtain⟨cu,c',e3,d3,-⟩:=v.out 3 (by omega);obtain⟨cv,d0,e4,d4,-⟩:=v.out 4 (by omega);obtain⟨cw,d1,e5,d5,-⟩:=v.out 5 (by omega);cases e1;cases e2;cases e3;cases e4;cases e5;obtain⟨d,c,rfl,hE⟩:∃d c,R=⟨1,⟨d,0,0,c,0,0⟩,0,0⟩∧RcOk ⟨1,⟨d,0,0,c,0,0⟩,0,0⟩:=by
     rcases ab.out with rfl|rfl|rfl
     ·exact⟨3,1,rfl,.inl rfl⟩
     ·exact⟨2,0,rfl,.inr (.inl rfl)⟩
     ·exact absurd HK.out (by decide)
    simp[ac.out,Ts]at P S d2 d3 d4 d5;have HE:=hiD hE;clear hE ac ab HK v;obtain⟨D,q,Q,U,u,Z,y,A,-⟩:=t.g8;have J:=t.free;have K:=t.size;have CM:=hiD O0;have cq:IntKind.i64.wrap (IntKind.i32.wrap 0)=0:=by decide
    go_wp2_with fail;refine qO [(true,0),(true,1),(true,2),(true,3),(true,4),(true,5),(true,6),(true,7),(true,8),(true,9),(false,10),(true,11),(true,12),(true,13),(false,14)] 15 [] (by kernel_rfl) (by kernel_rfl) (fun w'=>w'=wr.drew) rfl (fun _ _ a6 _ _ h=>by cases a6<;>exact h) ?_;simp only[qI,xx,jM,jN]
    repeat (refine zX rfl (fun w' T=>by subst T;(go_simp<;>rfl)) ?_)
    simp only[Act.put,jC,jL,jK];refine zQ rfl ?_;go_simp;refine(CM.out _).mono ?_;rintro x w6 ⟨rfl,rfl⟩;refine⟨rfl,?_⟩
    repeat (refine zX rfl (fun w' T=>by subst T;(go_simp<;>rfl)) ?_)
    simp only[Act.put,jC,jL,jK];refine zQ rfl ?_;go_simp;go_wp2_with fail;refine vf ?_;go_wp2_with fail;have bm:wr.drew.cell? ⟨N,F,none⟩=some (Vi d):=P;have bn:wr.drew.cell? ⟨N,F+1,none⟩=some (Vi 0):=S;have bo:wr.drew.cell? ⟨N,F+2,none⟩=some (Vi 0):=d2;have bp:wr.drew.cell? ⟨N,F+3,none⟩=some (Vi c):=d3;refine qO [(true,0),(true,1),(true,2),(true,3),(true,4),(true,5),(true,6),(true,7),(true,8),(true,9),(true,10),(true,11),(true,12),(true,13),(true,14)] 15 [] (by kernel_rfl) (by kernel_rfl) (fun w'=>w'=wr.drew.drew) rfl (fun _ _ a6 _ _ h=>by cases a6<;>exact h) ?_;simp only[qI,xx,jM,jN]
    repeat (refine zX rfl (fun w' T=>by subst T;(go_simp<;>rfl)) ?_)
    simp only[Act.put,jC,jL,jK];refine vf ?_;have a1:=t.drew.drew;have bq:=(C.trans (s.mono C.size)).drew.drew;clear P S d2 d3 d4 d5 bm bn bo bp D q Q U u Z y A J K;generalize wr.drew.drew=wz at*;have J:=a1.free;have K:=a1.size;obtain⟨D,q,Q,U,u,Z,y,A,-⟩:=a1.g8;go_wp2_with fail;have y2:Holds (((((wz.setCell ⟨w.1.size,1,none⟩ (Vi d)).setCell ⟨w.1.size,2,none⟩ (Vi 0)).setCell ⟨w.1.size,3,none⟩ (Vi 0)).setCell ⟨w.1.size,4,none⟩ (Vi c)).setCell ⟨w.1.size,5,none⟩ (Vc 0 0)) w.1.size 38 #[Vu 1,Vi d,Vi 0,Vi 0,Vi c,Vc 0 0,Vi 0,Vi 0]:=(((((a1.set 1 (Vi d)).set 2 (Vi 0)).set 3 (Vi 0)).set 4 (Vi c)).set 5 (Vc 0 0));have hB:Bz w (((((wz.setCell ⟨w.1.size,1,none⟩ (Vi d)).setCell ⟨w.1.size,2,none⟩ (Vi 0)).setCell ⟨w.1.size,3,none⟩ (Vi 0)).setCell ⟨w.1.size,4,none⟩ (Vi c)).setCell ⟨w.1.size,5,none⟩ (Vc 0 0)):=(((((bq.setCell nLe _).setCell nLe _).setCell nLe _).setCell nLe _).setCell nLe _);generalize (((((wz.setCell ⟨w.1.size,1,none⟩ (Vi d)).setCell ⟨w.1.size,2,none⟩ (Vi 0)).setCell ⟨w.1.size,3,none⟩ (Vi 0)).setCell ⟨w.1.size,4,none⟩ (Vi c)).setCell ⟨w.1.size,5,none⟩ (Vc 0 0))=w8 at*;have I:=hiD (kG _ HE.out w8);simp only[rcA,rcV,evV,jE,jD]at I;clear D q Q U u Z y A J K a1;refine I.out.mono ?_;rintro x w9 ⟨rfl,a0⟩;have y3:=y2.later a0;have aj:=hB.trans (a0.mono hB.size);clear I;obtain⟨D,q,Q,U,u,Z,y,A,J,K⟩:=y3.g8;go_wp2_with fail;rw[qU];have y4:Holds ((((((((w9.setCell ⟨w.1.size,0,none⟩ (Vu 1)).setCell ⟨w.1.size,1,none⟩ (Vi d)).setCell ⟨w.1.size,2,none⟩ (Vi 0)).setCell ⟨w.1.size,3,none⟩ (Vi 0)).setCell ⟨w.1.size,4,none⟩ (Vi c)).setCell ⟨w.1.size,5,none⟩ (Vc 0 0)).setCell ⟨w.1.size,6,none⟩ (Vi 0)).setCell ⟨w.1.size,7,none⟩ (Vi 0)) w.1.size 38 #[Vu 1,Vi d,Vi 0,Vi 0,Vi c,Vc 0 0,Vi 0,Vi 0]:=y3.setsAll [Vu 1,Vi d,Vi 0,Vi 0,Vi c,Vc 0 0,Vi 0,Vi 0] rfl;have ak:Bz w ((((((((w9.setCell ⟨w.1.size,0,none⟩ (Vu 1)).setCell ⟨w.1.size,1,none⟩ (Vi d)).setCell ⟨w.1.size,2,none⟩ (Vi 0)).setCell ⟨w.1.size,3,none⟩ (Vi 0)).setCell ⟨w.1.size,4,none⟩ (Vi c)).setCell ⟨w.1.size,5,none⟩ (Vc 0 0)).setCell ⟨w.1.size,6,none⟩ (Vi 0)).setCell ⟨w.1.size,7,none⟩ (Vi 0)):=Below.setCells nLe [Vu 1,Vi d,Vi 0,Vi 0,Vi c,Vc 0 0,Vi 0,Vi 0] 0 aj;refine bodyPost_ret (kw rfl _ _ w.1.size 38 #[Vu 1,Vi d,Vi 0,Vi 0,Vi c,Vc 0 0,Vi 0,Vi 0] _ (Vi 0) rfl y4 underlying38 rfl (by kernel_rfl) rfl) rfl ?_;exact⟨rfl,ak⟩
   ·obtain rfl:B=[1,6]:=by rw[<-ay.out];rfl
    obtain rfl:i=2:=b7.symm;obtain⟨N,F,rfl,P,bu⟩:=v.out 0 (by omega);obtain⟨cr,cx,ai,S,-⟩:=v.out 1 (by omega);cases ai;obtain rfl:R=⟨2,ev0,0,4⟩:=by
     rcases ab.out with rfl|rfl|rfl
     ·exact absurd HK.out (by decide)
     ·exact absurd HK.out (by decide)
     ·rfl
    simp[ac.out,Ts]at P S;clear ac HK v;obtain⟨D,q,Q,U,u,Z,y,A,-⟩:=t.g8;have J:=t.free;have K:=t.size;go_wp2_with fail;go_region;have y2:Holds ((wr.setCell ⟨w.1.size,6,none⟩ (Vi 0)).setCell ⟨w.1.size,7,none⟩ (Vi 4)).drew w.1.size 38 #[Vu 2,Vi 0,Vi 0,Vi 0,Vi 0,Vc 0 0,Vi 0,Vi 4]:=((t.set 6 (Vi 0)).set 7 (Vi 4)).drew;have hB:Bz w ((wr.setCell ⟨w.1.size,6,none⟩ (Vi 0)).setCell ⟨w.1.size,7,none⟩ (Vi 4)).drew:=(((C.trans (s.mono C.size)).setCell nLe _).setCell nLe _).drew;generalize ((wr.setCell ⟨w.1.size,6,none⟩ (Vi 0)).setCell ⟨w.1.size,7,none⟩ (Vi 4)).drew=w8 at*;have I:=hiD (kG _ ab.out w8);simp only[rcA,rcV,evV,ev0,jE,jD]at I;clear D q Q U u Z y A J K P S t;obtain⟨D,q,Q,U,u,Z,y,A,-⟩:=y2.g8;go_wp2_with fail;refine I.out.mono ?_;rintro x w9 ⟨rfl,a0⟩;have y3:=y2.later a0;have aj:=hB.trans (a0.mono hB.size);clear D q Q U u Z y A I;obtain⟨D,q,Q,U,u,Z,y,A,J,K⟩:=y3.g8;go_wp2_with fail;rw[qU];have y4:Holds ((((((((w9.setCell ⟨w.1.size,0,none⟩ (Vu 2)).setCell ⟨w.1.size,1,none⟩ (Vi 0)).setCell ⟨w.1.size,2,none⟩ (Vi 0)).setCell ⟨w.1.size,3,none⟩ (Vi 0)).setCell ⟨w.1.size,4,none⟩ (Vi 0)).setCell ⟨w.1.size,5,none⟩ (Vc 0 0)).setCell ⟨w.1.size,6,none⟩ (Vi 0)).setCell ⟨w.1.size,7,none⟩ (Vi 4)) w.1.size 38 #[Vu 2,Vi 0,Vi 0,Vi 0,Vi 0,Vc 0 0,Vi 0,Vi 4]:=y3.setsAll [Vu 2,Vi 0,Vi 0,Vi 0,Vi 0,Vc 0 0,Vi 0,Vi 4] rfl;have ak:Bz w ((((((((w9.setCell ⟨w.1.size,0,none⟩ (Vu 2)).setCell ⟨w.1.size,1,none⟩ (Vi 0)).setCell ⟨w.1.size,2,none⟩ (Vi 0)).setCell ⟨w.1.size,3,none⟩ (Vi 0)).setCell ⟨w.1.size,4,none⟩ (Vi 0)).setCell ⟨w.1.size,5,none⟩ (Vc 0 0)).setCell ⟨w.1.size,6,none⟩ (Vi 0)).setCell ⟨w.1.size,7,none⟩ (Vi 4)):=Below.setCells nLe [Vu 2,Vi 0,Vi 0,Vi 0,Vi 0,Vc 0 0,Vi 0,Vi 4] 0 aj;refine bodyPost_ret (kw rfl _ _ w.1.size 38 #[Vu 2,Vi 0,Vi 0,Vi 0,Vi 0,Vc 0 0,Vi 0,Vi 4] _ (Vi 0) rfl y4 underlying38 rfl (by kernel_rfl) rfl) rfl ?_;exact⟨rfl,ak⟩
end
end Go.Proofs.YtnmpcdnbklmhkaaGreatDoor
