import Derived.Test.YtnmpcdnbklmhkaaGreatDoorQAq
import Derived.Test.YtnmpcdnbklmhkaaGreatDoorQAh
namespace Go.Proofs.YtnmpcdnbklmhkaaGreatDoor
open Go.Proofs.Tryz Go.RowKit
set_option maxRecDepth 100000
set_option linter.all false
set_option maxHeartbeats 8000000
section
attribute [local go_sem] Oper.semAt_some
attribute [local go_sem ↓] Go.wp_at_zero Go.wp_at_succ
theorem Nu {l:List Int} {w:World} {v:Value} (i:RowV 1 intV w v l) {k:Nat} (g:k<l.length):∃b f c x,v=Sq (some ⟨b,f,none⟩) l.length c∧l.length<=c∧l[k]?=some x∧w.cell? ⟨b,f+k,none⟩=some (Vi x):=by
 obtain⟨b,f,c,e,d,a⟩:=i.get (jB g);exact⟨b,f,c,l[k],e,d,jB g,by simpa using a 0 _ rfl⟩
def nmZ:Array Value:=((List.replicate 6 [Value.int .i64 0,Vi 0,Vi 0,Vi 0,Vc 0 0]).flatten++List.replicate 6 (Value.bool false)).toArray
theorem nmZ_eq:nmZ=#[Vi 0,Vi 0,Vi 0,Vi 0,Vc 0 0,Vi 0,Vi 0,Vi 0,Vi 0,Vc 0 0,Vi 0,Vi 0,Vi 0,Vi 0,Vc 0 0,Vi 0,Vi 0,Vi 0,Vi 0,Vc 0 0,Vi 0,Vi 0,Vi 0,Vi 0,Vc 0 0,Vi 0,Vi 0,Vi 0,Vi 0,Vc 0 0,Vb false,Vb false,Vb false,Vb false,Vb false,Vb false]:=rfl
theorem nmZ_ok:NmOk nmZ:=⟨rfl,by kernel_rfl⟩
theorem ET {p:Pt} (V:PtOk p) (D:List Ev) (hl:D.length<=2) (h n I:Nat) (aj:2<=I) (v e:Value) (w:World) (hv:PatV w v p) (h0:w.cell? ⟨h,n,none⟩=some (Vi 0)) (h1:w.cell? ⟨h,n+1,none⟩=some (Vi 1)) (S:RowT 5 36 evV w e D):
  Cs 313 #[v,.agg #[Sq (some ⟨h,n,none⟩) 2 I,e]] w fun a5 w'=>∃s,a5=Rt (.agg s)∧NmOk s∧Bz w w':=by
 obtain⟨an,rfl,W⟩:=hv;obtain⟨a,L,rfl,af,al⟩:=W.form;obtain⟨q,r,rfl,ag⟩:=id S.form;have HS:=hiD W;have HE:=hiD S.1;have Z:=hiD V;have HR:=hiD (fun k (hk:k<2) a1 (c:Bz w a1)=>(show a1.cell? (Ad h (n+k))=some (Vi k) by rcases(show k=0∨k=1 by omega)with rfl|rfl;exact qd c nLe h0;exact qd c nLe h1));rw[V.len]at*;clear W S h0 h1 V;have HB:=hiD (fun s (ad:NmOk s) i hi e w=>QX s ad i hi e w);have a3:=hiD nmZ_eq;have am:=hst1;have a0:=hiD (((Holds.fresh w 25 #[Sq a 2 L,Vi p.2]).alloc (Oc #[Vs h n 2 I,Sq q D.length r] 127)).alloc (Oc nmZ 399));have a2:=hiD ((Holds.fresh' (w:=w.alloc (Oc #[Sq a 2 L,Vi p.2] 25)) (b:=w.1.size+1) (by simp) 127 #[Vs h n 2 I,Sq q D.length r]).alloc (Oc nmZ 399));have T:=hiD (Holds.fresh' (w:=(w.alloc (Oc #[Sq a 2 L,Vi p.2] 25)).alloc (Oc #[Vs h n 2 I,Sq q D.length r] 127)) (b:=w.1.size+1+1) (by simp) 399 nmZ);have B:=hiD (((bA w (Oc #[Sq a 2 L,Vi p.2] 25)).alloc (by simp) (Oc #[Vs h n 2 I,Sq q D.length r] 127)).alloc (by simp;omega) (Oc nmZ 399));generalize R:D.length=f at*;have ae:min (f:Int) 2=(f:Int):=by omega
 have ai:max (f:Int) 0=f:=by omega
 have X:=hiD R;clear R;go_enter func313,ntmps313
 iterate 14 (first|go_values|go_skip|go_guarded|go_step|go_upon|go_back|go_simp)
 have C:=a0.out;have P:=a2.out;have K:=T.out;have c:=B.out;clear a0 a2 T B;rw[<-a3.out];generalize a8:((w.alloc (Oc #[Sq a 2 L,Vi p.2] 25)).alloc (Oc #[Vs h n 2 I,Sq q f r] 127)).alloc (Oc nmZ 399)=W0 at*;clear a8 a3;obtain⟨F,H,-⟩:=P.g2;go_wp2_with fail;go_loopw [5,6,7,19] (fun _ _ _ i wr=>∃(k:Nat) (s:Array Value),k<=f∧i=Vi k∧Hid (NmOk s)∧Holds wr w.1.size 25 #[Sq a 2 L,Vi p.2]∧Holds wr (w.1.size+1) 127 #[Vs h n 2 I,Sq q f r]∧Holds wr (w.1.size+1+1) 399 s∧Bz w wr) (fun _ _ _ i _=>f-(intOf i).toNat);case atStart=>exact⟨0,nmZ,jg _,rfl,hiD nmZ_ok,C,P,K,c⟩
 case round=>
  clear C P K c;obtain⟨k,N,hk,rfl,A,C,P,K,c⟩:=hrel;have aa:=c.size;have d:=A.out.size;by_cases ah:k<f
  ·obtain⟨b1,o1,c1,z,y,x,t,u,l,e1,-,hx,p0,p1,p2,p3,p4⟩:=yq (HE.out.later c) (show k<D.length by rw[X.out];omega);rw[X.out]at e1;cases e1;have ak:=K.size;have a9:Bz wr (wr.alloc (Oc #[Vi z,Vi y,Vi x,Vi t,Vc u l] 36)):=bB;have m:=c.alloc aa (Oc #[Vi z,Vi y,Vi x,Vi t,Vc u l] 36);have O:=C.alloc (Oc #[Vi z,Vi y,Vi x,Vi t,Vc u l] 36);have M:=P.alloc (Oc #[Vi z,Vi y,Vi x,Vi t,Vc u l] 36);have J:=K.alloc (Oc #[Vi z,Vi y,Vi x,Vi t,Vc u l] 36);have U:=O.cell 0;obtain⟨F,H,-⟩:=M.g2;simp only[List.getElem?_toArray,jM,jN]at U F H;have p5:=HR.out k (by omega) _ m;have a4:=Z.out.len;obtain⟨b3,o3,c3,ng,sk,mn,mx,sr,s,ca,cc,e3,-,a7,-,t0,t1,t2,t3,t4,t5⟩:=vP ((HS.out.mono c nLe).mono a9 nLe) (show k<p.1.length by omega);rw[a4]at e3;cases e3;obtain⟨rfl,rfl⟩:ng=false∧mx=1:=by rcases Z.out.all (jY a7)with e|e<;>cases e<;>exact⟨rfl,rfl⟩
   clear a7 hx a4;have g2:decide ((k:Int)<2)=true:=decide_eq_true (by omega);have ac:=hiD (fun w=>HB.out N A.out k (by omega) ⟨z,y,x,t,u,l⟩ w);have o:=hiD (A.out.bind k ⟨z,y,x,t,u,l⟩);generalize bindC N k ⟨z,y,x,t,u,l⟩=E at*;have a6:=o.out.size;go_wp2_with (refine wpList_load_row rfl 399 (.tmp 4) rfl (w.1.size+1+1) rfl 399 N (0,0) _ J underlying399 rfl (by rw[d];kernel_rfl) ?_);generalize wr.alloc (Oc #[Vi z,Vi y,Vi x,Vi t,Vc u l] 36)=wx at*;refine(ac.out _).mono ?_;rintro a5 w1 ⟨rfl,j⟩;have x1:=O.later j;have x2:=M.later j;have Q:=J.later j;have ab:=Be (g:=w.1.size+1+1) (m.trans (j.mono m.size)) (by omega) E;clear U F H p0 p1 p2 p3 p4 p5 t0 t1 t2 t3 t4 t5 O M J;go_wp2_with (refine wpList_store_row rfl 399 (.tmp 4) (.tmp 59) rfl (w.1.size+1+1) E rfl rfl 399 _ Q (by rw[a6];kernel_rfl) (by rw[a6,d]) o.out.one ?_);go_roundw;case rel=>exact⟨k+1,E,by omega,by go_num,o,x1.farRow (by omega),x2.farRow (by omega),Q.setRow _,ab⟩
   case measure=>simp[intOf];omega
  ·go_wp2_with (first
    |(refine wpList_load_row rfl 399 (.tmp 4) rfl (w.1.size+1+1) rfl 399 N (0,0) _ K underlying399 rfl (by rw[d];kernel_rfl) ?_)
    |(refine wpList_store_row rfl 399 (.tmp 4) (.tmp 61) rfl (w.1.size+1+1) N rfl rfl 399 _ K (by rw[d];kernel_rfl) rfl A.out.one ?_))
   exact bodyPost_ret (zU rfl _ _ (w.1.size+1+1) 399 N _ rfl (K.setRow _) underlying399 rfl (by rw[d];kernel_rfl)) rfl ⟨_,rfl,A.out,Be c (by omega) _⟩
theorem I6 {P:Program} {o:Oper} {a:Act} {w:World} (c:TypeId) (x:Operand) (d:o.op= .load c x) (p:Addr) (f:a.eval x= .pointer (some p)) (v:Value) (e:(loadVar c p).run P w= .ok v w):(execOp a.eval o).run P w= .ok (.value v) w:=by
 unfold execOp;simp only[d,f,Instr.loadAt,Instr.sureAddr,Sem.run_bind,Sem.run_pure,Result.andThen_ok,e]
theorem NL:En0 337:=enters_of func337 rfl rfl
def FG (u:Value) (a:Int) (v:Value):Value:= .agg #[u,Vi a,v]
theorem Mj {k:Array Value} (x:k.size=36) (a l o:Option Addr) (n c s m q p:Nat) (t:Int) (w:World):
  Cs 312 #[.agg #[Sq a n c,Vi t,Sq l s m],.agg k,Vn,Sq o q p] w (Rw w (Vb false)):=by
 have e:=hmf1;have d:=((bA w (Oc #[Sq a n c,Vi t,Sq l s m] 350)).alloc (by simp) (Oc k 399)).alloc (by simp;omega) (Oc #[Sq o q p] 112);have f:=hiD (fun g W=>QO (Value.int .i64) 337 g NL (fun _=>false) [] Vn W (RowV.nil _ _ _) (fun j i u=>nomatch u));go_enter func312,ntmps312;go_wp2_with fail;refine(f.out _ _).mono ?_;rintro r h ⟨rfl,b⟩;go_wp2_with fail;go_ret;exact⟨rfl,d.trans (b.mono d.size)⟩
theorem MK {w:World} {r:Value} (h:RowV 1 intV w r [0,1]):∃n q s,r=Sq (some ⟨n,q,none⟩) 2 s∧2<=s∧w.cell? ⟨n,q,none⟩=some (Vi 0)∧w.cell? ⟨n,q+1,none⟩=some (Vi 1):=by
 obtain⟨b,o,c,x,rfl,i,f,j⟩:=Nu h (k:=0) (by decide);obtain⟨l,t,p,m,e,g,a,d⟩:=Nu h (k:=1) (by decide);cases e;cases f;cases a;exact⟨b,o,c,rfl,i,j,d⟩
theorem ends1 (x e:Ev) (t:Int) (B D:Nat) (w:World) (H:Holds w B 36 (evV e).toArray) (F:Holds w D 3 #[Vi t]):Cs 311 #[evA x,Vp B 0,Vp D 0] w fun r w'=>r=Rt (Vb (lessE e x&&decide (x.ts<=t)))∧Bz w w':=by
 have k:=hiD (fun w=>yN e x w);generalize lessE e x=b at*;obtain⟨E,C,A,n,y,c⟩:=x;obtain⟨m,f,d,g,i,j⟩:=e;simp only[evA,evV]at*;have z:=H.alloc (Oc #[Vi E,Vi C,Vi A,Vi n,Vc y c] 36);have I:=F.alloc (Oc #[Vi E,Vi C,Vi A,Vi n,Vc y c] 36);have J:=Holds.fresh w 36 #[Vi E,Vi C,Vi A,Vi n,Vc y c];obtain⟨s,v,q,p,u,-⟩:=z.g5;cases b
 all_goals
  go_enter func311,ntmps311;go_wp2_with fail;refine(k.out _).mono ?_;rintro r o ⟨rfl,a⟩;have h:=(I.later a).cell 0;have l:=(J.later a).cell 0;simp at h l;go_wp2_with fail;go_ret;exact⟨rfl,bB.trans (a.mono (by simp))⟩
theorem JC {p:Pt} (hp:PtOk p) (s:List Ev) (bn:s.length<=1000000) (av:∀x∈s,lessE l1 x=false) (m:Mt) (I:MtSm p m) (a2 v af e:Value) (w:World) (hs:qN w a2 p.1) (hr:RowT 5 36 evV w v s) (z:MtV w af e m):
  Cs 284 #[FG a2 p.2 v,.agg #[af,e]] w fun x w'=>x=Rt (Vb true)∧Bz w w':=by
 have h0:m.2≠[]:=by rw[I];decide
 have ap:∀x∈m.2,bnd (x.ts+p.2):=by rw[I,hp];intro x J;simp only[lM,jI,jH,or_false]at J;rcases J with rfl|rfl<;>(show _∧_;decide)
 have b8:m.2.length<=2:=by rw[I];decide
 obtain⟨R,U,S,rfl,bc,aw,ax⟩:=MK (show RowV 1 intV w af [0,1] by have:=z.1.1;rw[I]at this;exact this);have bm:=hmf1;have bp:=hst1;obtain⟨E,H⟩:=xR ((w.alloc (Oc #[a2,Vi p.2,v] 350)).alloc (Oc #[Vs R U 2 S,e] 127));have Q:Holds E w.1.size 350 #[a2,Vi p.2,v]:=by rw[<-H];exact(Holds.fresh w _ _).alloc _
 have K:Holds E (w.1.size+1) 127 #[Vs R U 2 S,e]:=by rw[<-H];exact Holds.fresh' (by simp) _ _
 have q:Bz w E:=by rw[<-H];exact bB.alloc (by simp) _
 have am:0<m.2.length:=List.length_pos_iff.2 h0;obtain⟨B,A,V,u,r,o,c,d,M,e1,bl,J,p0,p1,p2,p3,p4⟩:=yq (z.2.1.later q) (show m.2.length-1<m.2.length by omega);obtain⟨b2,o2,c2,t,bu,bt,br,bs,bq,e2,-,hy,q0,q1,q2,q3,q4⟩:=yq (z.2.1.later q) am;subst e1;cases e2;have a9:=ap _ (jY hy);have bd:IntKind.i64.wrap (t+p.2)=t+p.2:=by rw[IntKind.wrap_i64];unfold bnd at a9;simp only at a9;omega
 have be:IntKind.i64.wrap ((m.2.length:Int)-1)=((m.2.length-1:Nat):Int):=by have:=z.2.1.small;rw[IntKind.wrap_i64];omega
 obtain⟨a,L,rfl,_⟩:=hs.form;obtain⟨Z,a7,rfl,_⟩:=hr.form;unfold FG;have HW:=hiD H;clear H;have bo:=z.2.1.small;generalize hN:m.2.length=n at*;obtain⟨al,hP⟩:=xL (fun x=>lessE ⟨u,r,o,c,d,M⟩ x&&decide (x.ts<=t+p.2));have ao:∀x∈s,al x=false:=fun bi bg=>by
  have hl:(⟨u,r,o,c,d,M⟩:Ev)=l1:=by rw[I]at J;rw[<-hN,I]at J;exact(Option.some.inj J).symm
  rw[hP,hl];simp only[av bi bg,Bool.false_and]
 clear ap av I;simp only[Nat.zero_mul,Nat.add_zero]at q0;go_enter func284,ntmps284;go_wp2_with fail;rw[HW.out];have T:=hiD (fun w' (j:Bz E w')=>(⟨(Q.later j).cell 1,(K.later j).cell 1,qd j nLe p0,qd j nLe p1,qd j nLe p2,qd j nLe p3,qd j nLe p4,qd j nLe q0⟩:
  Cq w' w.1.size 1 (Vi p.2)∧Cq w' (w.1.size+1) 1 (Vs B A n V)∧Cq w' B (A+(n-1)*5) (Vi u)∧Cq w' B (A+(n-1)*5+1) (Vi r)∧Cq w' B (A+(n-1)*5+2) (Vi o)∧Cq w' B (A+(n-1)*5+3) (Vi c)∧Cq w' B (A+(n-1)*5+4) (Vc d M)∧Cq w' B A (Vi t)))
 have b9:((n-1:Nat):Int)<n:=by omega
 refine BG [0,1,2,3,4,5,6,7,8,9,10,11,12,13,14,15,16] 20 4 (by kernel_rfl) (by kernel_rfl) (fun w'=>Bz E w') (bRf.drew) (fun _ _ ae _ _ h=>by cases ae<;>exact h) ?_;simp only[qI,jM,jN]
 repeat (refine qA rfl (fun w' P=>by obtain⟨g0,g1,g2,g3,g4,g5,g6,g7⟩:=T.out w' P;(go_simp<;>rfl)) ?_)
 show vM _ _ _ _ _ _ _ _ _ _;simp only[Act.put,jC,jL,jK];clear T p0 p1 p2 p3 p4 q0;rename_i b3 hK
 suffices HK:∀(N O:Nat) (X:World),Holds X N 36 #[Vi u,Vi r,Vi o,Vi c,Vc d M]->Holds X O 3 #[Vi (t+p.2)]->Bz E X->
   b3 {tmps:=#[.agg #[Sq a p.1.length L,Vi p.2,Sq Z s.length a7],.agg #[Vs R U 2 S,Vs B A n V],Vp w.1.size 0,Vp (w.1.size+1) 0,Vb false,Vp N 0,Vp O 0,undef,undef,undef,undef,Vp (w.1.size+1) 1,Vs B A n V,Vp (w.1.size+1) 1,Vs B A n V,.int .i64 ↑n,.int .i64 ↑(n-1),Vp B (A+(n-1)*5),.agg #[Vi u,Vi r,Vi o,Vi c,Vc d M],Vp (w.1.size+1) 1,Vs B A n V,Vp B A,Vp B A,Vi t,Vp w.1.size 0,Vp w.1.size 1,Vi p.2,Vi (t+p.2),undef,undef,undef,undef,undef,undef,undef,undef,undef,undef,undef,undef,undef,undef,undef,undef,undef,undef,undef,undef,undef,undef,undef,undef,undef,undef,undef],defers:=[]} X by
  dsimp only at HK;have F:=(Below.refl E.1.size E).drew;refine yz [17,18] (by kernel_rfl) (by simp) ?_;intro i f;simp only[jI,jH,or_false]at f;rcases f with rfl|rfl
  ·refine qq rfl rfl ?_;go_simp;refine⟨(by first|exact F|exact bB|exact bB.drew|exact(bB.alloc (by simp) _)|exact(bB.alloc (by simp) _).drew),?_⟩;refine yz [18] (by kernel_rfl) (by simp) ?_;intro i f;simp only[jI,jH,or_false]at f;subst f;refine qq rfl rfl ?_;go_simp;refine⟨(by first|exact F|exact bB|exact bB.drew|exact(bB.alloc (by simp) _)|exact(bB.alloc (by simp) _).drew),?_⟩;refine yz [19] (by kernel_rfl) (by simp) ?_;intro i f;simp only[jI,jH,or_false]at f;subst f;refine qq rfl rfl ?_;go_simp;refine⟨(by first|exact F|exact bB|exact bB.drew|exact(bB.alloc (by simp) _)|exact(bB.alloc (by simp) _).drew),?_⟩;refine yz [20] (by kernel_rfl) (by simp) ?_;intro i f;simp only[jI,jH,or_false]at f;subst f;refine qq rfl rfl ?_;go_simp;refine⟨by kernel_rfl,?_⟩;exact HK _ _ _ ((Holds.fresh E _ _).alloc _).drew (Holds.fresh' (by simp) _ _).drew (bB.alloc (by simp) _).drew
  ·refine qq rfl rfl ?_;go_simp;refine⟨(by first|exact F|exact bB|exact bB.drew|exact(bB.alloc (by simp) _)|exact(bB.alloc (by simp) _).drew),?_⟩;refine yz [17] (by kernel_rfl) (by simp) ?_;intro i f;simp only[jI,jH,or_false]at f;subst f;refine qq rfl rfl ?_;go_simp;refine⟨(by first|exact F|exact bB|exact bB.drew|exact(bB.alloc (by simp) _)|exact(bB.alloc (by simp) _).drew),?_⟩;refine yz [19] (by kernel_rfl) (by simp) ?_;intro i f;simp only[jI,jH,or_false]at f;subst f;refine qq rfl rfl ?_;go_simp;refine⟨(by first|exact F|exact bB|exact bB.drew|exact(bB.alloc (by simp) _)|exact(bB.alloc (by simp) _).drew),?_⟩;refine yz [20] (by kernel_rfl) (by simp) ?_;intro i f;simp only[jI,jH,or_false]at f;subst f;refine qq rfl rfl ?_;go_simp;refine⟨by kernel_rfl,?_⟩;exact HK _ _ _ (Holds.fresh' (by simp) _ _).drew ((Holds.fresh E _ _).alloc _).drew (bB.alloc (by simp) _).drew
 dsimp only;intro N O W1 y5 y6 C;apply hK;clear hK;have j:=q.trans (C.mono q.size);have ac:=Q.later C;have ay:=K.later C;have v2:=ac.cell 2;simp at v2;clear q1 q2 q3 q4;have a4:=(hr.later q).later C;have key:∀(k:Nat) (W:World),Bz W1 W->k<s.length->∃b y u r o c d M,Z=some (Ad b y)∧s[k]?=some (⟨u,r,o,c,d,M⟩:Ev)∧
   Cq W b (y+k*5) (Vi u)∧Cq W b (y+k*5+1) (Vi r)∧Cq W b (y+k*5+2) (Vi o)∧Cq W b (y+k*5+3) (Vi c)∧Cq W b (y+k*5+4) (Vc d M):=by
  intro k W g hk;obtain⟨b,y,bk,u,r,o,c,d,M,e,-,h1,h2⟩:=yq (a4.1.later g) hk;cases e;exact⟨b,y,u,r,o,c,d,M,rfl,h1,h2⟩
 have au:∀(x:Ev) (W:World),Bz W1 W->Cs 311 #[evA x,Vp N 0,Vp O 0] W fun e w'=>e=Rt (Vb (al x))∧Bz W w':=by
  intro x W g;rw[hP];exact ends1 x ⟨u,r,o,c,d,M⟩ (t+p.2) N O W (y5.later g) (y6.later g)
 clear hP;have ak:=hiD key;clear key;have ag:=hiD au;clear au;have ah:=hiD ao;clear ao;have a':=hiD (hs.mono j nLe);have bj:=hiD a4;have az:=hiD ((z.later q).later C);have b0:=hiD (qd j nLe aw);have b1:=hiD (qd j nLe ax);clear hs hr z a4 J hy bd be b9 a9 am h0 Q K aw ax;have ai:=hiD ac;have aj:=hiD ay;clear ac ay;go_wp2_with fail;clear v2;go_loopw [8,10,32] (fun bh _ i wr=>bh=Vn∧∃(k:Nat),k<=s.length∧i=Vi k∧Bz W1 wr) (fun _ _ i _=>s.length-(intOf i).toNat);case atStart=>exact⟨rfl,0,jg _,rfl,Below.refl _ _⟩
 case round=>
  obtain⟨rfl,k,hk,rfl,q⟩:=hrel;by_cases ba:k<s.length
  ·obtain⟨b,y,ad,a8,aa,a1,ab,a5,rfl,ar,p0,p1,p2,p3,p4⟩:=ak.out k wr q ba;have bb:=ah.out _ (jY ar);clear ar;have a3:=(q.alloc q.size (Oc #[Vi ad,Vi a8,Vi aa,Vi a1,Vc ab a5] 36));have l:=ag.out ⟨ad,a8,aa,a1,ab,a5⟩ _ a3;rw[bb]at l;simp only[evA,evV]at l;have T:=hiD l;clear l;have bv:=Holds.fresh wr 36 #[Vi ad,Vi a8,Vi aa,Vi a1,Vc ab a5];go_wp2_with fail;refine T.out.mono ?_;rintro e w1 ⟨rfl,C⟩;go_wp2_with fail;go_roundw;case rel=>exact⟨rfl,k+1,by omega,by go_num,a3.trans (C.mono a3.size)⟩
   case measure=>simp[intOf];omega
  ·have aq:=j.trans (q.mono j.size);have Q:=ai.out.later q;have K:=aj.out.later q;clear ai aj ah ak ag;have bf:=aq.size;have a0:∀W,Bz wr W->qN W (Sq a p.1.length L) p.1:=fun W g=>a'.out.mono (q.trans (g.mono q.size)) nLe;have CN:=hiD (fun W g=>ET hp m.2 (by rw[hN];exact b8) R U S bc (.agg #[Sq a p.1.length L,Vi p.2]) (Vs B A n V) W ⟨_,rfl,a0 W g⟩ (qd g nLe (qd q nLe b0.out)) (qd g nLe (qd q nLe b1.out)) ((az.out.later q).later g).2);have CA:=hiD (fun W g=>KJ hp (.agg #[Sq a p.1.length L,Vi p.2]) W ⟨_,rfl,a0 W g⟩);have CM:=hiD (fun (cs:Array Value) (h:cs.size=36) W=>Mj h a Z none p.1.length L s.length a7 0 0 p.2 W);have T:=hiD (fun w' (g:Bz wr w')=>(⟨(Q.later g).cell 0,(Q.later g).cell 1,(Q.later g).cell 2,(K.later g).cell 0,(K.later g).cell 1⟩:
    Cq w' w.1.size 0 (Sq a p.1.length L)∧Cq w' w.1.size 1 (Vi p.2)∧Cq w' w.1.size 2 (Sq Z s.length a7)∧Cq w' (w.1.size+1) 0 (Vs R U 2 S)∧Cq w' (w.1.size+1) 1 (Vs B A n V)))
   clear a0;go_wp2_with fail;refine qO [(true,0),(true,1),(true,2),(true,3),(true,5),(true,6),(true,8),(false,4),(false,7),(false,9),(true,10)] 11 [] (by kernel_rfl) (by kernel_rfl) (fun w'=>Bz wr w') (bRf.drew) (fun _ _ ae _ _ h=>by cases ae<;>exact h) ?_;simp only[qI,xx,jM,jN]
   repeat (refine zX rfl (fun w' P=>by obtain⟨g0,g1,g2,g3,g4⟩:=T.out w' P;(go_simp<;>rfl)) ?_)
   simp only[Act.put,jC,jL,jK];refine zQ rfl ?_;go_simp;refine(CN.out _ bRf.drew).mono ?_;rintro x w1 ⟨cs,rfl,b7,b4⟩;have D:=((Below.refl wr.1.size wr).drew).trans b4;refine⟨D,?_⟩
   try simp only[Act.put,jC,jL,jK]
   refine zQ rfl ?_;go_simp;refine(CA.out _ D).mono ?_;rintro x w2 ⟨rfl,b5⟩;have a6:=D.trans (b5.mono D.size);refine⟨a6,?_⟩
   try simp only[Act.put,jC,jL,jK]
   refine zQ rfl ?_;go_simp;refine(CM.out _ b7.size _).mono ?_;rintro x w3 ⟨rfl,b6⟩;have an:=a6.trans (b6.mono a6.size);refine⟨an,?_⟩
   try simp only[Act.put,jC,jL,jK]
   repeat (refine zX rfl (fun w' P=>by obtain⟨g0,g1,g2,g3,g4⟩:=T.out w' P;(go_simp<;>rfl)) ?_)
   refine vf ?_
   try simp only[Act.put,jC,jL,jK]
   clear T CM CA CN Q K;go_wp2_with fail;go_ret;exact⟨rfl,aq.trans (an.mono bf)⟩
end
end Go.Proofs.YtnmpcdnbklmhkaaGreatDoor
