import Derived.Test.YtnmpcdnbklmhkaaGreatDoorQAq
import Derived.Lib.Overlaps
import Derived.Lib.AppendZerosOnto
import Derived.Laws.IdiomCopy
import Derived.Laws.NewBlocks
import Derived.Laws.Externs
import Derived.Shelf.RegionOpenPlain
namespace Go.Proofs.YtnmpcdnbklmhkaaGreatDoor
open Go.Proofs.Tryz Go.RowKit
set_option maxRecDepth 100000
set_option linter.all false
set_option maxHeartbeats 8000000
section
attribute [local go_sem] Oper.semAt_some
attribute [local go_sem ↓] Go.wp_at_zero Go.wp_at_succ
theorem NP:En0 221:=enters_of func221 rfl rfl
theorem NO:En0 223:=enters_of func223 rfl rfl
theorem may1 (n:Int) (w:World):Cs 221 #[Vi n] w (Rw w (Vb (n !=0))):=by
 go_enter func221,ntmps221;go_wp2_with fail;go_ret;exact⟨rfl,Below.refl _ _⟩
def fitB (d a c:Int) (x:Ev):Bool:=decide (x.src<d)&&(decide (a<=x.ts)&&decide (x.ts<=c))
theorem may2 (x:Ev) (s l m:Int) (n q o:Nat) (u M H r K C D E F k:Value) (w:World) (t:Holds w n 45 #[u,M,H,r,K,Vi s]) (A:Holds w q 3 #[Vi l]) (z:Holds w o 114 #[C,D,E,F,k,Vi m]) (h:x.src<s):
  Cs 223 #[evA x,Vp n 0,Vp q 0,Vp o 0] w (Rw w (Vb (!fitB s l m x))):=by
 have f:=hiD (fun w=>vW x.ts l m w);unfold fitB;generalize (decide (l<=x.ts)&&decide (x.ts<=m))=b at*;obtain⟨L,p,J,B,I,g⟩:=x;simp only[evA,evV]at*;have a:=bA w (Oc #[Vi L,Vi p,Vi J,Vi B,Vc I g] 36);have c:=(t.later a).cell 5;have d:=(A.later a).cell 0;have e:=(z.later a).cell 5;simp at c d e;have j:decide (p≥s)=false:=by rw[decide_eq_false_iff_not];omega
 rw[decide_eq_true h,Bool.true_and];go_enter func223,ntmps223;go_wp2_with fail;refine(f.out _).mono ?_;rintro y i ⟨rfl,rfl⟩;go_wp2_with fail;go_ret;exact⟨rfl,a⟩
theorem Pr {w:World} {b:Nat} {f g l m:Int} {k:Value} {n:Int} (h:Holds w b 114 #[Vi f,Vi g,Vi l,Vi m,k,Vi n]) (s:Nat) (p:s<=4):RowV 1 (fun x=>[Value.int .i64 x]) w (Sq (some ⟨b,s,none⟩) (4-s) (4-s)) ([f,g,l,m].drop s):=by
 refine⟨some (Ad b s),4-s,by simp,by simp,by simp;omega,(fun e=>nomatch e),.inr ⟨b,s,rfl,fun i x a j u c=>?_⟩⟩;rw[List.getElem?_drop]at a;have d:=(jG.1 a).1;simp at d;have o:j=0:=by have:=(jG.1 c).1;simpa using this
 subst o;simp only[jM,Option.some.injEq]at c;subst c;rw[Nat.mul_one,Nat.add_zero,h.cell (s+i)];rcases(show s+i=0∨s+i=1∨s+i=2∨s+i=3 by omega)with e|e|e|e<;>rw[e]at a⊢<;>simp at a<;>subst a<;>rfl
theorem SD (c:Cf) (f:Fo):mayB c f=(Bc c&&(Pu f.1&&(rowB f.2&&(decide ((f.2.length:Int)<=c.cap)&&((decide (-1<=f.hi)&&decide (f.hi<=1099511627776))&&(!((f.1.drop c.5.toNat).any fun n=>n !=0)&&!(f.2.any fun x=>!fitB c.5 (AN c f) f.hi x))))))):=by
 unfold mayB;rw[List.not_any_eq_all_not,List.not_any_eq_all_not];simp only[Bool.and_assoc,fitB,Bool.not_not,bne,Bool.not_not];rfl
theorem Kc (c:Cf) (f:Fo) (hp:PtOk c.p) (hw:∀x∈f.2,evWf x) (a1:mayB c f=true) (a0:c.5=1) (v a3:Value) (w:World) (hv:Ai w v c) (hk:vw w a3 f):
  Cs 193 #[v,a3] w (Rw w (Vb true)):=by
 have L:=hv;obtain⟨u,rfl,hs⟩:=hv;obtain⟨r,j,m,q,N,U,rfl,o⟩:=hk;have s:=(bA w (Oc (cfC u c) 45)).alloc (by simp) (Oc (foC r j m q N f.hi) 114);have z1:=(Holds.fresh w 45 (cfC u c)).alloc (Oc (foC r j m q N f.hi) 114);have z2:=Holds.fresh' (w:=w.alloc (Oc (cfC u c) 45)) (b:=w.1.size+1) (by simp) 114 (foC r j m q N f.hi);have Q:=hiD (fun W (l:Bz w W)=>A0 f.2 hw N W (o.later l).1);have R:=hiD (fun w=>vW f.hi (-1) 1099511627776 w);have C5:=hiD (fun w=>F7 r j m q c.5 c.p.2 w);have h:=a1;rw[SD]at h;have K:AN c f=floorM [r,j,m,q] c.5 c.p.2:=by unfold AN;rw[U]
 rw[U,K]at h;simp only[jJ]at h;obtain⟨h1,h2,h3,g4,g5,a,g7⟩:=h;have ag:=of_decide_eq_true g4;have h5:(decide (-1<=f.hi)&&decide (f.hi<=1099511627776))=true:=by simpa using g5
 have h6:(([r,j,m,q].drop 1).any fun n=>n !=0)=false:=by rw[a0]at a;exact Bool.eq_false_iff.2 (fun ab=>by rw[show (1:Int).toNat=1 from rfl,ab]at a;cases a)
 have V:(f.2.any fun x=>!fitB c.5 (floorM [r,j,m,q] c.5 c.p.2) f.hi x)=false:=by simpa using g7
 have M:∀x∈f.2,x.src<c.5:=fun x P=>by
  have:=List.any_eq_false.1 V x P;unfold fitB at this;simp at this;exact this.1
 have p:=hiD (Av c hp h1 _ _ (L.later s));have C2:=hiD (fun w=>Nf r j m q h2 w);rw[h3]at Q;rw[h5]at R;have H6:=hiD h6;have H7:=hiD V;have HX:=hiD M;clear g4 g5 a g7 h6 V M;have a8:=hiD o;obtain⟨a9,aa,rfl,af,ah⟩:=hs.form;obtain⟨a2,C,rfl,ae⟩:=o.form;have ai:=o.1.small;clear hs hp L o U K hw a1 h1 h2 h3 h5;generalize floorM [r,j,m,q] c.5 c.p.2=B at*;obtain⟨a4,md,cp,sl,ad⟩:=c;obtain rfl:ad=1:=a0;obtain⟨aj,i,hi⟩:=f;simp only at*;unfold cfC at*;unfold foC at p s z1 z2⊢;simp only at*;have gl:decide ((i.length:Int)>cp)=false:=by rw[decide_eq_false_iff_not];omega
 go_enter func193,ntmps193;go_wp2_with fail;refine p.out.mono ?_;rintro x w1 ⟨rfl,l⟩;have e:=z1.later l;have d:=z2.later l;obtain⟨q0,q1,q2,q3,q4,O,-⟩:=e.g6;obtain⟨T,s1,s2,s3,k,s5,-⟩:=d.g6;have Z:=hiD (s.trans (l.mono s.size));go_wp2_with fail;refine(C2.out _).mono ?_;rintro x w2 ⟨rfl,I⟩;replace e:=e.later I;replace d:=d.later I;obtain⟨q0,q1,q2,q3,q4,O,-⟩:=e.g6;obtain⟨T,s1,s2,s3,k,s5,-⟩:=d.g6;have E:=hiD (Z.out.trans (I.mono Z.out.size));go_wp2_with fail;refine(Q.out _ E.out).mono ?_;rintro x w3 ⟨rfl,H⟩;replace e:=e.later H;replace d:=d.later H;obtain⟨q0,q1,q2,q3,q4,O,-⟩:=e.g6;obtain⟨T,s1,s2,s3,k,s5,-⟩:=d.g6;have D:=hiD (E.out.trans (H.mono E.out.size));go_wp2_with fail;refine(R.out _).mono ?_;rintro x w4 ⟨rfl,rfl⟩;go_wp2_with fail;refine(C5.out _).mono ?_;rintro x J ⟨rfl,t⟩;replace e:=e.later t;replace d:=d.later t;have A:=e.alloc (Oc #[Vi B] 3);have g:=d.alloc (Oc #[Vi B] 3);have z3:=Holds.fresh J 3 #[Vi B];have a5:=hiD ((D.out.trans (t.mono D.out.size)).alloc (by have:=D.out.size;have:=t.size;omega) (Oc #[Vi B] 3));have O:=A.cell 5;obtain⟨T,-,-,-,k,-⟩:=g.g5;have e:=e;have d:=d;simp at O;have z:=a5.out;have S:=hiD (QO (fun x=>Vi x) 221 #[] NP (fun n=>n !=0) ([r,j,m,q].drop 1) (Vs (w.1.size+1) 1 3 3) _ (Pr g 1 (by decide)) (fun ac x P W l=>may1 x W));have X:=hiD (fun W (l:Below (J.alloc (Oc #[Vi B] 3)).1.size (J.alloc (Oc #[Vi B] 3)) W)=>PR evV (fun _=>rfl) 223 #[Vp w.1.size 0,Vp J.1.size 0,Vp (w.1.size+1) 0] NO (fun x=>!fitB 1 B hi x) i (Sq a2 i.length C) W ((a8.out.later z).later l).1 (fun ac x P W' F=>may2 x 1 B hi w.1.size J.1.size (w.1.size+1) (Sq a9 a4.1.length aa) (Vi a4.2) (Vu md) (Vi cp) (Vi sl) (Vi r) (Vi j) (Vi m) (Vi q) (Sq a2 i.length C) W' ((A.later l).later F) (((z3.later l).later F)) ((g.later l).later F) (HX.out x (jY P))));rw[H6.out]at S;rw[H7.out]at X;go_wp2_with fail;refine S.out.mono ?_;rintro x w6 ⟨rfl,y⟩;have a6:w6.cell? (Ad (w.1.size+1) 4)=_:=((g.later y).cell 4);simp at a6;go_wp2_with fail;refine(X.out _ y).mono ?_;rintro x w7 ⟨rfl,a7⟩;go_wp2_with fail;go_ret;exact⟨rfl,(z.trans (y.mono z.size)).trans (a7.mono (by have:=z.size;have:=y.size;omega))⟩
theorem Bu (c:Cf) (f:Fo) (v k:Value) (w:World) (B:Ai w v c) (A:vw w k f):
  Cs 196 #[v,k] w (Rw w (Vi (yM c f))):=by
 obtain⟨u,rfl,n⟩:=B;obtain⟨h,e,g,i,t,q,rfl,b⟩:=A;have d:=(bA w (Oc (cfC u c) 45)).alloc (by simp) (Oc (foC h e g i t f.hi) 114);have y:=hiD (fun w=>F5 h e g i c.5 w);have m:yM c f=leastM [h,e,g,i] c.5:=by unfold yM;rw[q]
 rw[m];generalize leastM [h,e,g,i] c.5=L at*;obtain⟨a,D,rfl,p,s⟩:=n.form;obtain⟨C,r,rfl,j⟩:=b.form;have o:=b.1.small;clear n q b m;unfold foC cfC at*;go_enter func196,ntmps196;go_wp2_with fail;refine(y.out _).mono ?_;rintro x z ⟨rfl,l⟩;go_wp2_with fail;go_ret;exact⟨rfl,d.trans (l.mono d.size)⟩
theorem PJ (c:Cf) (f:Fo) (v k:Value) (w:World) (B:Ai w v c) (A:vw w k f):
  Cs 269 #[v,k] w (Rw w (Vi (AN c f))):=by
 obtain⟨u,rfl,n⟩:=B;obtain⟨h,e,g,i,t,q,rfl,b⟩:=A;have d:=(bA w (Oc (cfC u c) 45)).alloc (by simp) (Oc (foC h e g i t f.hi) 114);have y:=hiD (fun w=>F7 h e g i c.5 c.p.2 w);have m:AN c f=floorM [h,e,g,i] c.5 c.p.2:=by unfold AN;rw[q]
 rw[m];generalize floorM [h,e,g,i] c.5 c.p.2=L at*;obtain⟨a,D,rfl,p,s⟩:=n.form;obtain⟨C,r,rfl,j⟩:=b.form;have o:=b.1.small;clear n q b m;unfold foC cfC at*;go_enter func269,ntmps269;go_wp2_with fail;refine(y.out _).mono ?_;rintro x z ⟨rfl,l⟩;go_wp2_with fail;go_ret;exact⟨rfl,d.trans (l.mono d.size)⟩
theorem If (c:Cf) (f:Fo) (hl:f.2.length<=1000000) (v k:Value) (w:World) (V:Ai w v c) (R:vw w k f):
  Cs 232 #[v,k] w fun a8 w'=>∃S,a8=Rt S∧vw w' S (B3 c f)∧Bz w w':=by
 have M:=V;have H:=R;obtain⟨u,rfl,U⟩:=V;obtain⟨q,l,m,o,D,Z,rfl,r⟩:=R;have j:=((bA w (Oc (cfC u c) 45)).alloc (by simp) (Oc (foC q l m o D f.hi) 114)).alloc (by simp;omega) (Oc (foC 0 0 0 0 Vn 0) 114);have z:=((Holds.fresh w 45 (cfC u c)).alloc (Oc (foC q l m o D f.hi) 114)).alloc (Oc (foC 0 0 0 0 Vn 0) 114);have n:=(Holds.fresh' (w:=w.alloc (Oc (cfC u c) 45)) (b:=w.1.size+1) (by simp) 114 (foC q l m o D f.hi)).alloc (Oc (foC 0 0 0 0 Vn 0) 114);have z3:=Holds.fresh' (w:=(w.alloc (Oc (cfC u c) 45)).alloc (Oc (foC q l m o D f.hi) 114)) (b:=w.1.size+2) (by simp) 114 (foC 0 0 0 0 Vn 0);have C1:=hiD (fun W h1 h2=>PJ c f (.agg (cfC u c)) (.agg (foC q l m o D f.hi)) W h1 h2);have C2:=hiD (fun W h=>Ud (AN c f) f.2 D W h hl);have HM:=hiD Z;have HV:=hiD (M.later j);have HK:=hiD (H.later j);have a6:=hiD (r.later j);obtain⟨a,Q,rfl,a0,ab⟩:=U.form;obtain⟨P,s,rfl,aa⟩:=r.form;have ac:=r.1.small;clear U r Z M H;obtain⟨O,t,e⟩:=f;simp only at*;generalize I:AN c ⟨O,t,e⟩=X at*;have HF:=hiD I;clear I;unfold foC cfC at*;go_enter func232,ntmps232;go_wp2_with fail;generalize ((w.alloc (Oc #[Sq a c.p.1.length Q,Vi c.p.2,Vu c.2,Vi c.cap,Vi c.4,Vi c.5] 45)).alloc (Oc #[Vi q,Vi l,Vi m,Vi o,Sq P t.length s,Vi e] 114)).alloc (Oc #[Vi 0,Vi 0,Vi 0,Vi 0,Vn,Vi 0] 114)=W at*;have HC:=hiD (fun w' (d:Bz W w')=>(⟨(z.later d).cell 0,(z.later d).cell 1,(z.later d).cell 2,(z.later d).cell 3,(z.later d).cell 4,(z.later d).cell 5,(n.later d).cell 0,(n.later d).cell 1,(n.later d).cell 2,(n.later d).cell 3,(n.later d).cell 4,(n.later d).cell 5⟩:
  Cq w' w.1.size 0 (Sq a c.p.1.length Q)∧Cq w' w.1.size 1 (Vi c.p.2)∧Cq w' w.1.size 2 (Vu c.2)∧Cq w' w.1.size 3 (Vi c.cap)∧Cq w' w.1.size 4 (Vi c.4)∧Cq w' w.1.size 5 (Vi c.5)∧Cq w' (w.1.size+1) 0 (Vi q)∧Cq w' (w.1.size+1) 1 (Vi l)∧Cq w' (w.1.size+1) 2 (Vi m)∧Cq w' (w.1.size+1) 3 (Vi o)∧Cq w' (w.1.size+1) 4 (Sq P t.length s)∧Cq w' (w.1.size+1) 5 (Vi e)))
 refine qO [(true,0),(true,1),(true,2),(true,3),(false,4),(false,5)] 6 [7] (by kernel_rfl) (by kernel_rfl) (fun w'=>Bz W w') (bRf.drew) (fun _ _ a7 _ _ h=>by cases a7<;>exact h) ?_;simp only[qI,xx,jM,jN]
 repeat (refine zX rfl (fun w' hS=>by obtain⟨q0,q1,q2,q3,q4,q5,s0,s1,s2,s3,s4,s5⟩:=HC.out w' hS;(go_simp<;>rfl)) ?_)
 simp only[Act.put,jC,jL,jK];refine zQ rfl ?_;go_simp;have B:=(Below.refl W.1.size W).drew;refine(C1.out _ (HV.out.later B) (HK.out.later B)).mono ?_;rintro x w1 ⟨rfl,a2⟩;have i:=B.trans a2;refine⟨i,?_⟩;refine zQ rfl ?_;go_simp;refine(C2.out _ (a6.out.later i).1).mono ?_;rintro x w2 ⟨S,rfl,T,a4⟩;have g:=i.trans (a4.mono i.size);refine⟨g,vf ?_⟩;have a1:=RowT.of_own (enc:=evV) (fun _=>rfl) T rfl;have ad:=z.later g;have J:=n.later g;have K:=z3.later g;obtain⟨C,y,rfl⟩:=qh T;obtain⟨q0,q1,q2,q3,q4,q5,qf,ql⟩:=J.g6;obtain⟨s0,s1,s2,s3,s4,s5,sf,sl⟩:=K.g6;have N:=HF.out;have a5:=j.trans (g.mono j.size);have a3:Hid (B3 c ⟨O,t,e⟩=⟨O,t.filter fun x=>decide (X<=x.ts),e⟩):=hiD (by unfold B3;simp only;rw[N]);generalize (t.filter fun x=>decide (X<=x.ts))=L at*;clear N;go_wp2_with fail;have A:=RowT.abides (F:=fun a9=>a9==114) (k:=5) (E:=36) (enc:=evV) rfl (Sq C L.length y) L;have k1:=A.set a1 J rfl 4 (Sq C L.length y);have y2:=K.far (p:=Ad (w.1.size+1) 4) (by show w.1.size+2≠w.1.size+1;omega) (Sq C L.length y);have k2:=qM.sets6 A k1 y2 rfl (Vi q) (Vi l) (Vi m) (Vi o) (Sq C L.length y) (Vi e);have y3:=Holds.sets6 y2 (Vi q) (Vi l) (Vi m) (Vi o) (Sq C L.length y) (Vi e);have hB:=a5.setCell (p:=Ad (w.1.size+1) 4) (by simp) (Sq C L.length y);refine bodyPost_ret (zU rfl _ _ (w.1.size+2) 114 #[Vi q,Vi l,Vi m,Vi o,Sq C L.length y,Vi e] _ rfl y3 underlying114 rfl (by kernel_rfl)) rfl ⟨_,rfl,?_,?_⟩
 ·rw[a3.out];exact⟨q,l,m,o,_,HM.out,rfl,k2⟩
 ·exact Below.sets6 hB (by omega) _ _ _ _ _ _
end
section
open Go.Lib
attribute [local go_sem] Oper.semAt_some
attribute [local go_sem ↓] Go.wp_at_zero Go.wp_at_succ
theorem B0 {P:Program} {e:Array Oper} {o:Oper} {a:Act} {w:World} {K:Act->World->Prop} {Q:Exit->Act->World->Prop} {E:Prop}
  (k:o.guard=none) (d x:Operand) (c f:TypeId) (l:o.op=Op.call {callee:=Callee.builtin Builtin.copy,args:=#[d,x],argTypes:=#[c,f]})
  (v u:Value) (j:a.eval d=v) (n:a.eval x=u) {g:Value} {w':World} (m:(Builtin.copy_ #[c,f] o.type #[v,u]).run P w= .ok g w') (i:K (a.put o.dst g) w'):
  if Region.wanted o (yielded e a.tmps)=true then Oper.wp P o a w K Q else E:=by
 have b:Region.wanted o (yielded e a.tmps)=true:=by simp[Region.wanted,k]
 rw[if_pos b];unfold Oper.wp;simp[execOp,l,resolve,invoke,builtin,j,n,m,Result.andThen];exact i
theorem Kk {α:Type} {k:Nat} {a:α->List Value} (d:∀x,(a x).length=k) (l:List α) (i:Nat) (c:i<=l.length):(l.flatMap a).take (i*k)=(l.take i).flatMap a:=by
 have h:l.flatMap a=(l.take i).flatMap a++(l.drop i).flatMap a:=by rw[<-dH,jv]
 rw[h];exact List.take_left' (by rw[xU d,jb,Nat.min_eq_left c])
theorem Km {α:Type} {k:Nat} {a:α->List Value} (d:∀x,(a x).length=k) (l:List α) (i:Nat) (c:i<=l.length):(l.flatMap a).drop (i*k)=(l.drop i).flatMap a:=by
 have h:l.flatMap a=(l.take i).flatMap a++(l.drop i).flatMap a:=by rw[<-dH,jv]
 rw[h];exact List.drop_left' (by rw[xU d,jb,Nat.min_eq_left c])
theorem Ta {α:Type} (d X E R:List α) (a n k:Nat) (e:d.take n=X) (g:a<=n) (j:X.length=n) (f:E.length=k) (i:a+k<=d.length):
  (((d.take (a+k)++X.drop a++R).take a++E++(d.take (a+k)++X.drop a++R).drop (a+k))).take (n+k)=X.take a++E++X.drop a:=by
 have c:(d.take (a+k)++X.drop a++R).take a=X.take a:=by
  rw[jk,List.take_append_of_le_length (by rw[jb];omega),List.take_take,<-e,List.take_take];congr 1;omega
 have b:(d.take (a+k)++X.drop a++R).drop (a+k)=X.drop a++R:=by
  rw[jk];exact List.drop_left' (by rw[jb];omega)
 rw[c,b,<-jk];exact List.take_left' (by simp;omega)
theorem PO {α:Type} (c X E D R d:List α) (a n k:Nat) (e:c.take a=X.take a) (i:a<=X.length) (g:E.length=k) (f:a+D.length=n):
  (((c.take a++E++R).take (a+k)++D++d)).take (n+k)=X.take a++E++D:=by
 have b:(c.take a++E++R).take (a+k)=X.take a++E:=by
  rw[e];exact List.take_left' (by rw[jZ,jb];omega)
 rw[b];exact List.take_left' (by simp;omega)
theorem EE (a:Option Addr) (n c e d:Nat):(Value.slice a n c).ownBlock=(Value.slice a e d).ownBlock:=by cases a<;>rfl
theorem PN (x:Ev) (l:List Ev) (v:Value) (I n:Nat) (w:World) (M:I<=w.1.size) (P:l.length<=1000000) (J:w.ownsRow I 36 5 v l.length (l.flatMap evV)) (K:Holds w n 36 (evV x).toArray):
  Cs 324 #[v,Vi l.length,Sq (some ⟨n,0,none⟩) 1 1] w fun e w'=>∃h,e=Rt h∧w'.ownsRow I 36 5 h (l.length+1) ((l++[x]).flatMap evV)∧w.grownBy w' v.ownBlock:=by
 obtain⟨N,L,k,r,o⟩:=iP36;obtain⟨a,c,rfl⟩:=qh J;have f:RowV 5 evV w (Vs n 0 1 1) [x]:=⟨some (Ad n 0),1,rfl,Nat.le_refl _,by simp,(fun e=>nomatch e),.inr ⟨n,0,rfl,fun i y p j u B=>by
  have E:=(jG.1 p).1;have:i=0:=by simpa using E
  subst this;simp at p;subst p;have:=K.cell j;rw[Nat.zero_mul,dG,this];rw[<-B];simp⟩⟩
 have C:=hiD f;have s:=hiD J;clear K f J;have m:l.length<=c∧c<=9223372036854775807:=by
  rcases s.out.2 with⟨q,t⟩|⟨g,O,F,q,_,_,t,D,_⟩
  ·injection q with _ _ h4;omega
  ·injection q with _ _ h4;subst h4;exact⟨t,D⟩
 obtain⟨z,A⟩:=m;go_enter func324,ntmps324;go_wp2_with (at_builtin;refine zT rfl _ _ 112 rfl I 36 N (.agg #[Vi 0,Vi 0,Vi 0,Vi 0,Vc 0 0]) underlying112 L k 5 48 r o rfl (by decide) evV (fun _=>rfl) vZ _ _ _ rfl s.out _ rfl [x] C.out ?c1 ?c2 M ?_);case c1=>unfold maxLen;simp;omega
 case c2=>simp;omega
 all_goals
  intro h H d b;go_wp2_with fail;go_ret;exact⟨h,rfl,by simpa using d,by rw[EE a l.length c l.length l.length];first|exact b|(rw[EE a l.length c l.length l.length]at b;exact b)⟩
theorem Nv (x:Ev) (l:List Ev) (i c g:Nat) (E D:Nat) (w:World) (hl:l.length<=1000000) (hi:i<l.length) (a7:l.length+1<=c) (I:w.ownsRow E 36 5 (.slice (some ⟨g,0,none⟩) l.length c) l.length (l.flatMap evV)) (S:D≠g) (T:Holds w D 36 (evV x).toArray):
  Cs 324 #[.slice (some ⟨g,0,none⟩) l.length c,Vi i,.slice (some ⟨D,0,none⟩) 1 1] w fun e w'=>∃Z,e= .returned Z∧w'.ownsRow E 36 5 Z (l.length+1) ((l.take i++x::l.drop i).flatMap evV)∧w.grownBy w' (some g):=by
 have HO:=hiD I;have H:=hiD T;obtain⟨a,a3,B,r,F,o⟩:∃a,E<=g∧w.1[g]?=some (.cells a 36 (0,0))∧c<=maxLen∧a.size=c*5∧a.toList.take (l.length*5)=l.flatMap evV:=by
  rcases I.2 with⟨d,Q⟩|⟨g',a9,a,d,Q,O,L,P,J,h7⟩
  ·injection d with d;cases d
  ·injection d with e1 _ e2;simp at e1;subst e1 e2;exact⟨a,Q,O,P,J,h7⟩
 clear I T;have a2:∀M V,(callFunc 359 #[Vs D 0 1 1,Vs g ((i+1)*5) M V]).run prog w= .ok (.value (.bool false)) w:=fun M V=>by
  rw[run_callFunc_extern (e:=Extern.SlicesOverlaps.overlaps #[112,112] #[4]) func359 rfl rfl rfl rfl,
   run_overlaps_apart w 112 4 36 underlying112 5 sizeOf36 (Ad D 0) (Ad g ((i+1)*5)) 1 1 M V S 36 36 5 (c*5) (by have:=H.out;unfold Holds at this;simp[World.shape?,this,evV]) (by simp[World.shape?,B,F]) (by omega) (by have:=H.out;unfold Holds at this;simp[World.frozen?,this]) (by have:=H.out;unfold Holds at this;simp[World.frozen?,this])]
  rfl
 have aj:prog.follows .mixedOrders=true:=by kernel_rfl
 have ag:IntKind.i64.wrap ((i:Int)+1)=(i:Int)+1:=by rw[IntKind.wrap_i64];omega
 have ah:IntKind.i64.wrap ((l.length:Int)+1)=(l.length:Int)+1:=by rw[IntKind.wrap_i64];omega
 have a8:c<=9223372036854775807:=r;have ai:¬((i:Int)=(l.length:Int)):=by omega
 have af:((i:Int)+1).toNat=i+1:=by omega
 have aa:(0:Int)<=(i:Int)+1:=by omega
 have ab:¬(c=i+1):=by omega
 have ac:(i:Int)<=(l.length:Int)+1:=by omega
 have ad:¬(c=i):=by omega
 have ae:i<=l.length:=by omega
 have p:(l.flatMap evV).length=l.length*5:=xU (k:=5) (a:=evV) (fun _=>rfl) l;have b:∀u∈l.flatMap evV,u.oneCell'=true:=Ip vZ l;obtain⟨X,U⟩:=xL (l.flatMap evV);rw[<-U]at o p b;have v:∀j u,X[j]?=some u->a[j]?=some u:=fun j u n=>by
  rw[<-o,List.getElem?_take]at n;split at n
  ·simpa using n
  ·cases n
 obtain⟨f,h⟩:=xL (a.toList.take ((i+1)*5)++X.drop (i*5)++a.toList.drop ((i+1)*5+(X.drop (i*5)).length)).toArray;have C:(X.drop (i*5)).length=(l.length-i)*5:=by rw[jj,p,Nat.sub_mul]
 have t:f.size=c*5:=by rw[h];simp;omega
 have a0:∀A z K,(Builtin.copy_ #[112,112] A #[Vs g ((i+1)*5) (l.length-i) z,Vs g (i*5) (l.length+1-i) K]).run prog w.drew= .ok (goInt (l.length-i:Nat)) (w.drew.setRow g f):=fun A z K=>by
  rw[h];exact xG w.drew _ _ A 36 5 g ((i+1)*5) (l.length-i) z (Ad g (i*5)) (l.length+1-i) K a 36 (X.drop (i*5)) (l.length-i) underlying112 rfl B (by simp only[Nat.min_def];split<;>omega) C
   (fun j u n=>by
    rw[List.getElem?_drop]at n;rw[Addr.add_lit];have a5:w.cell? (Ad g (i*5+j))=a[i*5+j]?:=by simp[World.cell?,B]
    exact a5.trans (v _ _ n)) (by rw[C];omega) (fun u hu=>b u (List.mem_of_mem_drop hu))
 obtain⟨y,m⟩:=xL (f.toList.take (i*5)++evV x++f.toList.drop (i*5+(evV x).length)).toArray;have q:y.size=c*5:=by rw[m];simp[evV];omega
 have s:y.toList.take ((l.length+1)*5)=(l.take i++x::l.drop i).flatMap evV:=by
  rw[m,h];have:=Ta a.toList X (evV x) (a.toList.drop ((i+1)*5+(X.drop (i*5)).length)) (i*5) (l.length*5) 5 o (by omega) p rfl (by simp;omega);rw[show (i+1)*5=i*5+5 by omega,show (l.length+1)*5=l.length*5+5 by omega];rw[show (i+1)*5=i*5+5 by omega]at this;refine Eq.trans (by simpa[evV]using this) ?_;rw[U,Kk (k:=5) (a:=evV) (fun _=>rfl) l i (by omega),Km (k:=5) (a:=evV) (fun _=>rfl) l i (by omega),dH,List.flatMap_cons];rfl
 have a1:∀(W:World),W.1=(w.drew.setRow g f).1->∀A z,(Builtin.copy_ #[112,112] A #[Vs g (i*5) (l.length+1-i) z,Vs D 0 1 1]).run prog W= .ok (goInt (1:Nat)) (W.setRow g y):=fun W R A z=>by
  rw[m];exact xG W _ _ A 36 5 g (i*5) (l.length+1-i) z (Ad D 0) 1 1 f 36 (evV x) 1 underlying112 rfl (by rw[R];exact setRow_heap w.drew g a _ _ _ B) (by simp only[Nat.min_def];split<;>omega) rfl
   (fun j u n=>by
    rw[Addr.add_lit];have d:=H.out.cell (0+j);rw[dG]at d⊢;rw[World.cell?_of_block (w:=w) (w':=W) (by rw[R];exact setRow_other w.drew g D f S),d];rw[<-n];simp) (by rw[t];simp[evV];omega) (vZ x)
 have HR:Hid (∀W:World,(∀k,k≠g->W.1[k]?=w.1[k]?)->W.1.size=w.1.size->W.os=w.os->W.tape=w.tape->W.output=w.output->W.1[g]?=some (.cells y 36 (0,0))->W.ownsRow E 36 5 (Vs g 0 (l.length+1) c) (l.length+1) ((l.take i++x::l.drop i).flatMap evV)∧w.grownBy W (some g)):=hiD (fun W d Q O L P J=>⟨⟨by rw[xU (k:=5) (a:=evV) (fun _=>rfl)];simp;omega,.inr ⟨g,c,y,rfl,a3,J,a7,r,q,s⟩⟩,⟨O,L,P,by omega,fun k N a4=>d k (fun e=>a4 (by rw[e]))⟩⟩);have HG:=hiD B;have a6:=hiD (setRow_heap w.drew g a f _ _ B);clear o F B U h m s v b p C t q;go_enter func324,ntmps324;go_wp2_with (simp only[a2])
 go_region_law_o (refine B0 rfl _ _ 112 112 rfl _ _ (by simp[Act.eval,Act.put]) (by simp[Act.eval,Act.put]) (a0 _ _ _) ?_)
 go_wp2_with (at_builtin;refine wpList_copy_runI _ rfl _ _ 112 112 rfl _ _ rfl rfl (a1 _ rfl _ _) ?_);go_ret;obtain⟨r1,r2⟩:=HR.out _ (fun k N=>(setRow_other _ g k y N).trans (setRow_other w.drew g k f N)) (by simp[World.setRow]) rfl rfl rfl (setRow_heap _ g f y _ _ a6.out);exact⟨_,rfl,r1,r2⟩
theorem Nw (x:Ev) (l:List Ev) (i g:Nat) (h n:Nat) (w:World) (ab:h<=w.1.size) (hl:l.length<=1000000) (hi:i<l.length) (a3:w.ownsRow h 36 5 (.slice (some ⟨g,0,none⟩) l.length l.length) l.length (l.flatMap evV)) (T:Holds w n 36 (evV x).toArray):
  Cs 324 #[.slice (some ⟨g,0,none⟩) l.length l.length,Vi i,.slice (some ⟨n,0,none⟩) 1 1] w fun a7 w'=>∃v',a7= .returned v'∧w'.ownsRow h 36 5 v' (l.length+1) ((l.take i++x::l.drop i).flatMap evV)∧w.grownBy w' (some g):=by
 obtain⟨i0,aa,ae,af,L⟩:=iP36;have HX:=hiD T;obtain⟨b,ar,N,a8,H⟩:∃b,h<=g∧w.1[g]?=some (.cells b 36 (0,0))∧b.size=l.length*5∧b.toList.take (l.length*5)=l.flatMap evV:=by
  rcases a3.2 with⟨t,z⟩|⟨g',ah,b,t,z,I,h4,h5,O,h7⟩
  ·injection t with t;cases t
  ·injection t with e1 _ e2;simp at e1;subst e1 e2;exact⟨b,z,I,O,h7⟩
 clear a3;have ad:n<w.1.size:=(jA.1 T).1;have a9:g<w.1.size:=(jA.1 N).1;clear T;have az:prog.follows .mixedOrders=true:=by kernel_rfl
 have c:(l.flatMap evV).length=l.length*5:=xU (k:=5) (a:=evV) (fun _=>rfl) l;have r:∀u∈l.flatMap evV,u.oneCell'=true:=Ip vZ l;obtain⟨X,Q⟩:=xL (l.flatMap evV);rw[<-Q]at H c r;have s:∀j u,X[j]?=some u->b[j]?=some u:=fun j u e=>by
  rw[<-H,List.getElem?_take]at e;split at e
  ·simpa using e
  ·cases e
 obtain⟨G,R⟩:=xL (grownCap w (l.length+1) l.length 36);have a6:l.length+1<=G:=by rw[R];exact grownCap_ge w _ _ _
 have A:G<=maxLen:=by rw[R];exact grownCap_le_maxLen w (l.length+1) l.length _ (by unfold maxLen;omega)
 obtain⟨Z,V⟩:=xL (Value.agg #[Vi 0,Vi 0,Vi 0,Vi 0,.complex .f64 0 0]).cells;have K:Z.size=5:=by rw[V];rfl
 obtain⟨a,f⟩:=xL ((X.take (i*5)).toArray++Builtin.zeroCells Z (l.length+1-i)++Builtin.zeroCells Z (G-(l.length+1)));have a1:a.size=G*5:=by
  rw[f];simp[Builtin.zeroCells,K,c];omega
 have a0:a.toList.take (i*5)=X.take (i*5):=by
  rw[f];simp only[Array.toList_append,jk];exact List.take_left' (by simp[c];omega)
 have ac:∀d,(Builtin.append_ #[112,3] d #[Vs g 0 i l.length,Vi ((l.length:Int)+1-(i:Int))]).run prog w=
   .ok (Vs w.1.size 0 (l.length+1) G) (w.drew.alloc (.cells a 36)):=fun d=>by
  have S:(Builtin.firstCells i0.size i (Vs g 0 i l.length)).run prog w.drew= .ok (X.take (i*5)).toArray w.drew:=by
   rw[af];exact run_firstCells_some w.drew 5 i (Ad g 0) i l.length (X.take (i*5)) (by rw[jb,c];omega) (fun j u e=>by
    rw[Addr.add_lit,dG];rw[List.getElem?_take]at e;split at e
    ·have J:w.cell? (Ad g j)=b[j]?:=by simp[World.cell?,N]
     exact J.trans (s _ _ e)
    ·cases e)
  have a2:=Lib.run_append_grow_zeros w 112 3 d 36 i0 _ .i64 .i64 underlying112 underlying3 aa ae (some (Ad g 0)) i l.length (X.take (i*5)) S (l.length+1-i) (by omega) (by omega) (by omega) (by omega) (by rw[L];omega) (by rw[L,show i+(l.length+1-i)=l.length+1 by omega];exact growslice_fits (by omega) (by omega));rw[show i+(l.length+1-i)=l.length+1 by omega,<-R,<-V,<-f]at a2;rw[show (l.length:Int)+1-(i:Int)=((l.length+1-i:Nat):Int) by omega];exact a2
 have y:(X.drop (i*5)).length=(l.length-i)*5:=by rw[jj,c,Nat.sub_mul]
 obtain⟨m,p⟩:=xL (a.toList.take (i*5)++evV x++a.toList.drop (i*5+(evV x).length)).toArray;have D:m.size=G*5:=by rw[p];simp[evV];omega
 obtain⟨E,v⟩:=xL (m.toList.take ((i+1)*5)++X.drop (i*5)++m.toList.drop ((i+1)*5+(X.drop (i*5)).length)).toArray;have B:E.size=G*5:=by rw[v];simp[c];omega
 have C:E.toList.take ((l.length+1)*5)=(l.take i++x::l.drop i).flatMap evV:=by
  rw[v,p];have:=PO a.toList X (evV x) (X.drop (i*5)) (a.toList.drop (i*5+(evV x).length)) (m.toList.drop ((i+1)*5+(X.drop (i*5)).length)) (i*5) (l.length*5) 5 a0 (by rw[c];omega) rfl (by rw[y];omega);rw[show (i+1)*5=i*5+5 by omega,show (l.length+1)*5=l.length*5+5 by omega];rw[show (i+1)*5=i*5+5 by omega,p]at this;refine Eq.trans (by simpa[evV]using this) ?_;rw[Q,Kk (k:=5) (a:=evV) (fun _=>rfl) l i (by omega),Km (k:=5) (a:=evV) (fun _=>rfl) l i (by omega),dH,List.flatMap_cons];rfl
 have q:(w.alloc (.cells a 36)).1[w.1.size]?=some (.cells a 36 (0,0)):=heap_alloc_new w _;have a4:∀(W:World),W.1=(w.alloc (.cells a 36)).1->∀d o,(Builtin.copy_ #[112,112] d #[Vs w.1.size (i*5) (l.length+1-i) o,Vs n 0 1 1]).run prog W= .ok (goInt (1:Nat)) (W.setRow w.1.size m):=fun W P d o=>by
  rw[p];exact xG W _ _ d 36 5 w.1.size (i*5) (l.length+1-i) o (Ad n 0) 1 1 a 36 (evV x) 1 underlying112 rfl (by rw[P];exact q) (by simp only[Nat.min_def];split<;>omega) rfl
   (fun j u e=>by
    rw[Addr.add_lit];have t:=HX.out.cell (0+j);rw[dG]at t⊢;rw[World.cell?_of_block (w:=w) (w':=W) (by rw[P];exact alloc_old w _ _ ad),t];rw[<-e];simp) (by rw[a1];simp[evV];omega) (vZ x)
 have F:∀(W:World),W.1=((w.alloc (.cells a 36)).setRow w.1.size m).1->∀d o M,(Builtin.copy_ #[112,112] d #[Vs w.1.size ((i+1)*5) (l.length-i) o,Vs g (i*5) (l.length-i) M]).run prog W= .ok (goInt (l.length-i:Nat)) (W.setRow w.1.size E):=fun W P d o M=>by
  rw[v];exact xG W _ _ d 36 5 w.1.size ((i+1)*5) (l.length-i) o (Ad g (i*5)) (l.length-i) M m 36 (X.drop (i*5)) (l.length-i) underlying112 rfl (by rw[P];exact setRow_heap _ _ a _ _ _ q) (by simp only[Nat.min_def];split<;>omega) y
   (fun j u e=>by
    rw[List.getElem?_drop]at e;rw[Addr.add_lit];have J:W.cell? (Ad g (i*5+j))=b[i*5+j]?:=by
     rw[World.cell?_of_block (w:=w) (w':=W) (by rw[P];exact(setRow_other _ _ g m (by omega)).trans (alloc_old w _ _ a9))];simp[World.cell?,N]
    exact J.trans (s _ _ e)) (by rw[y,D];omega) (fun u hu=>r u (List.mem_of_mem_drop hu))
 have HR:Hid (∀W:World,(∀k,k<w.1.size->W.1[k]?=w.1[k]?)->W.1.size=w.1.size+1->W.os=w.os->W.tape=w.tape->W.output=w.output->W.1[w.1.size]?=some (.cells E 36 (0,0))->W.ownsRow h 36 5 (Vs w.1.size 0 (l.length+1) G) (l.length+1) ((l.take i++x::l.drop i).flatMap evV)∧w.grownBy W (some g)):=hiD (fun W t z I h4 h5 O=>⟨⟨by rw[xU (k:=5) (a:=evV) (fun _=>rfl)];simp;omega,.inr ⟨w.1.size,G,E,rfl,ab,O,a6,A,B,C⟩⟩,⟨I,h4,h5,by omega,fun k U aq=>t k U⟩⟩);have av:IntKind.i64.wrap ((i:Int)+1)=(i:Int)+1:=by rw[IntKind.wrap_i64];omega
 have aw:IntKind.i64.wrap ((l.length:Int)+1)=(l.length:Int)+1:=by rw[IntKind.wrap_i64];omega
 have ax:IntKind.i64.wrap ((l.length:Int)+1-(i:Int))=(l.length:Int)+1-(i:Int):=by rw[IntKind.wrap_i64];omega
 have ai:G<=9223372036854775807:=A;have ay:¬((i:Int)=(l.length:Int)):=by omega
 have au:((i:Int)+1).toNat=i+1:=by omega
 have aj:(0:Int)<=(i:Int)+1:=by omega
 have ak:¬(G=i+1):=by omega
 have al:(i:Int)<=(l.length:Int)+1:=by omega
 have am:¬(G=i):=by omega
 have an:¬(l.length=i):=by omega
 have ao:(i:Int)<=(l.length:Int):=by omega
 have ap:i<=l.length:=by omega
 have ag:=fun d o=>a4 ((w.alloc (.cells a 36)).drew) rfl d o;have a5:=fun d o M=>F (((w.alloc (.cells a 36)).drew.setRow w.1.size m).drew) rfl d o M;clear a4 F;have HG:=hiD N;clear H a8 N Q p v C s r c y D B f a1 a0 V K R q;go_enter func324,ntmps324;go_wp2_with (first
  |(at_builtin;refine Lib.wpList_append_run _ rfl _ _ _ _ rfl _ _ rfl rfl _ _ (ac _) ?_)
  |fail)
 go_region_law_o (refine B0 rfl _ _ 112 112 rfl (Vs w.1.size ((i+1)*5) (l.length-i) (G-(i+1))) (Vs g (i*5) (l.length-i) (l.length-i)) (by simp[Act.eval,Act.put]) (by simp[Act.eval,Act.put]) (a5 _ _ _) ?_)
 go_wp2_with fail;go_ret;have S:∀k,k<w.1.size->(((w.alloc (.cells a 36)).drew.setRow w.1.size m).drew.setRow w.1.size E).1[k]?=w.1[k]?:=fun k U=>
  ((setRow_other _ _ k E (by omega)).trans (setRow_other _ _ k m (by omega))).trans (alloc_old w _ _ U)
 obtain⟨r1,r2⟩:=HR.out _ S (by simp[World.setRow,World.drew]) rfl rfl rfl (setRow_heap _ _ m E _ _ (setRow_heap _ _ a m _ _ (heap_alloc_new w _)));exact⟨_,rfl,r1,r2⟩
theorem S9 (x:Ev) (l:List Ev) (i:Nat) (v:Value) (t n:Nat) (w:World) (A:t<=w.1.size) (u:l.length<=1000000) (D:i<=l.length) (y:w.ownsRow t 36 5 v l.length (l.flatMap evV)) (C:v.ownBlock≠some n) (z:Holds w n 36 (evV x).toArray):
  Cs 324 #[v,Vi i,Sq (some ⟨n,0,none⟩) 1 1] w fun e w'=>∃B,e=Rt B∧w'.ownsRow t 36 5 B (l.length+1) ((l.take i++x::l.drop i).flatMap evV)∧w.grownBy w' v.ownBlock:=by
 rcases Nat.lt_or_ge i l.length with b|k
 ·have a:=y;rcases y.2 with⟨r,h⟩|⟨g,c,j,rfl,h,m,q,o,p,s⟩
  ·omega
  ·have d:n≠g:=fun e=>C (by rw[e];rfl);by_cases f:l.length+1<=c
   ·exact Nv x l i c g t n w u b f a d z
   ·obtain rfl:c=l.length:=by omega
    exact Nw x l i g t n w A u b a z
 ·obtain rfl:i=l.length:=by omega
  have:=PN x l v t n w A u y z;simpa using this
theorem row_Put (e:Ev) (s:List Ev) (v:Value) (w:World) (k:RowV 5 evV w v s) (n:s.length<=1000000) (c:hasE s e=false):
  Cs 291 #[v,evA e] w fun r w'=>∃p,r=Rt (.tuple #[p,Vb true])∧RowT 5 36 evV w' p (putE s e)∧Bz w w':=by
 have b:=bA w (Oc (evV e).toArray 36);have N:=(Holds.fresh w 36 (evV e).toArray);have R:=hiD (Bd evV (fun _=>rfl) vZ v s _ (k.later b) n);have z:=hiD (fun W h=>B2 e s v W h);have P:=hiD (k.later b);have g:putE s e=s.take (findN s e)++e::s.drop (findN s e):=by unfold putE;rw[if_neg (by rw[c];decide)]
 have o:findN s e<=s.length:=Cu _ _;rw[g];generalize findN s e=i at*;rw[c]at z;obtain⟨a2,a3,rfl,A,M,-,-⟩:=k;have C:=hiD o;clear g c o;obtain⟨Z,X,V,T,U,D⟩:=e;simp only[evA,evV]at*;go_enter func291,ntmps291;go_wp2_with fail;refine zE 0 rfl ?_;go_wp2_with fail;refine R.out.mono ?_;rintro x E ⟨p,rfl,a,d⟩;have l:=N.later d;obtain⟨S,a0,rfl⟩:=qh a;obtain⟨I,J,O,F,Q,-⟩:=l.g5;have q:=hiD (b.trans (d.mono b.size));go_wp2_with fail;refine(z.out _ (P.out.later d)).mono ?_;rintro x m ⟨rfl,f⟩;have y:=l.later f;obtain⟨I,J,O,F,Q,-⟩:=y.g5;go_wp2_with fail;have j:=(Below.refl m.1.size m).alloc nLe (Oc (evV ⟨Z,X,V,T,U,D⟩).toArray 36);have t:=zD (zD a f) j;have H:E.1.size<=m.1.size:=f.size;refine(S9 ⟨Z,X,V,T,U,D⟩ s i _ _ m.1.size _ ?c1 n C.out t ?c2 (Holds.fresh m 36 _)).mono ?_;case c1=>
  have:=d.size;simp at this⊢;omega
 case c2=>
  intro e;have:=(World.ownsRow.lt a _ e).2;omega
 rintro x a1 ⟨p,rfl,u,L⟩;go_wp2_with fail;rw[qU];go_ret2;refine⟨_,rfl,RowT.of_own (enc:=evV) (fun _=>rfl) u (by have:=C.out;simp;omega),?_⟩;have B:=(q.out.trans (f.mono (by have:=q.out.size;omega))).trans (j.mono (by have:=q.out.size;omega));exact B.grown L (by have:=B.size;omega) (fun a4 K=>by have:=(World.ownsRow.lt a _ K).1;have:=b.size;omega)
end
section
attribute [local go_sem] Oper.semAt_some
attribute [local go_sem ↓] Go.wp_at_zero Go.wp_at_succ
def AskV (W:World) (v:Value) (b:Bool):Prop:=
 ∃g d,v= .func (.func g) #[] d∧(∀c w,(callFunc g c).run prog w= .ok (.enter g c) w)∧∀a,Bz W a->Cs g d a fun e w'=>e=Rt (Vb b)∧Bz a w'
theorem rsn2 (r:Rc) (n:RcOk r) (b:Nat) (w:World) (s:Holds w b 38 (rcV r).toArray):Cs 350 #[Vp b 0] w (Rw w (Vb false)):=by
 have c:=hiD (kG r n);clear n;obtain⟨k,⟨A,z,x,t,u,q⟩,j,h⟩:=r;simp only[rcA,rcV,evV,jE,jD]at*;obtain⟨i,o,f,e,l,m,p,g,-⟩:=s.g8;go_enter func350,ntmps350;go_wp2_with fail;refine(c.out _).mono ?_;rintro y d ⟨rfl,a⟩;go_wp2_with fail;go_ret;exact⟨rfl,a⟩
theorem rsn3 (r:Rc) (z:RcOk r) (u:Value) (c:Cf) (x:c.5=1) (b n:Nat) (w:World) (A:Holds w b 38 (rcV r).toArray) (B:Holds w n 45 (cfC u c)):Cs 351 #[Vp b 0,Vp n 0] w (Rw w (Vb false)):=by
 have e:=hiD (Lf r z);clear z;obtain⟨k,⟨H,F,E,C,D,t⟩,l,j⟩:=r;simp only[rcA,rcV,evV,jE,jD]at*;obtain⟨m,q,h,g,o,p,s,i,-⟩:=A.g8;have d:=B.cell 5;simp[cfC,x]at d;clear x;go_enter func351,ntmps351;go_wp2_with fail;refine(e.out _).mono ?_;rintro y f ⟨rfl,a⟩;go_wp2_with fail;go_ret;exact⟨rfl,a⟩
theorem rsn4 (mark:Bool) (r:Rc) (n q s t C:Int) (E:Value) (z u b:Nat) (w:World) (D:Holds w z 4 #[Vb mark]) (B:Holds w u 114 (foC n q s t E C)) (A:Holds w b 38 (rcV r).toArray):
  Cs 353 #[Vp z 0,Vp u 0,Vp b 0] w (Rw w (Vb (mark&&lateM [n,q,s,t] r.src r.ts))):=by
 have h:=hiD (fun w=>Hz n q s t r.src r.ts w);generalize lateM [n,q,s,t] r.src r.ts=x at*;obtain⟨k,⟨K,J,I,F,H,p⟩,o,m⟩:=r;simp only[rcV,evV,jE,jD]at*;obtain⟨-,-,-,-,-,-,g,d,-⟩:=A.g8;obtain⟨i,j,c,f,-⟩:=B.g4;have e:=D.cell 0;simp[foC]at g d i j c f e;cases mark
 ·go_enter func353,ntmps353;go_wp2_with fail;go_ret;exact⟨rfl,Below.refl _ _⟩
 ·go_enter func353,ntmps353;go_wp2_with fail;refine(h.out _).mono ?_;rintro y l ⟨rfl,a⟩;go_wp2_with fail;go_ret;exact⟨rfl,a⟩
theorem rsn5 (e:Ev) (m n o p t:Int) (u:Value) (r q:Nat) (w:World) (l:Holds w r 114 (foC m n o p u t)) (s:Holds w q 36 (evV e).toArray):
  Cs 355 #[Vp r 0,Vp q 0] w fun x w'=>x=Rt (Vb (lateM [m,n,o,p] e.src e.ts))∧Bz w w':=by
 have h:=hiD (fun w=>Hz m n o p e.src e.ts w);generalize lateM [m,n,o,p] e.src e.ts=x at*;obtain⟨D,C,B,z,A,k⟩:=e;simp only[evV]at*;have c:=s.cell 0;have f:=s.cell 1;have g:=l.cell 0;have i:=l.cell 1;have b:=l.cell 2;have d:=l.cell 3;simp[foC]at c f g i b d;go_enter func355,ntmps355;go_wp2_with fail;refine(h.out _).mono ?_;rintro y j ⟨rfl,a⟩;go_wp2_with fail;go_ret;exact⟨rfl,a⟩
theorem rsn6 (e:Ev) (l:List Ev) (z A B C u:Int) (p:Value) (r q:Nat) (w:World) (o:RowV 5 evV w p l) (t:Holds w r 114 (foC z A B C p u)) (s:Holds w q 36 (evV e).toArray):
  Cs 356 #[Vp r 0,Vp q 0] w fun x w'=>x=Rt (Vb (hasE l e))∧Bz w w':=by
 have i:=hiD (B2 e l p w o);obtain⟨a,D,rfl,-⟩:=o.form;clear o;generalize hasE l e=x at*;generalize findN l e=n at*;obtain⟨J,I,H,E,F,m⟩:=e;simp only[evA,evV]at*;obtain⟨f,h,d,c,g,-⟩:=s.g5;have j:=t.cell 4;simp[foC]at f h d c g j;go_enter func356,ntmps356;go_wp2_with fail;refine i.out.mono ?_;rintro y k ⟨rfl,b⟩;go_wp2_with fail;go_ret;exact⟨rfl,b⟩
theorem rsn7 (e:Ev) (u:Value) (c:Cf) (t y z A l:Int) (s:Value) (B:0<=c.4) (C:c.4<=1099511627776) (D:-1<=l) (E:l<=1099511627776) (m n o:Nat) (w:World) (p:Holds w m 45 (cfC u c)) (q:Holds w n 36 (evV e).toArray) (r:Holds w o 114 (foC t y z A s l)):
  Cs 357 #[Vp m 0,Vp n 0,Vp o 0] w fun x w'=>x=Rt (Vb (decide (c.2=1)&&decide (e.ts<l-c.4)))∧Bz w w':=by
 obtain⟨K,J,I,F,H,k⟩:=e;simp only[evV]at*;have i:=q.cell 0;have h:=r.cell 5;obtain⟨-,b,f,-,d,-⟩:=p.g5;simp[foC,cfC]at i h b f d;have j:IntKind.i64.wrap (l-c.4)=l-c.4:=by rw[IntKind.wrap_i64];omega
 by_cases a:c.2=1
 ·have g:(c.2==1)=true:=by simpa using a
  rw[decide_eq_true a,Bool.true_and];clear a;go_enter func357,ntmps357;go_wp2_with fail;go_ret;exact⟨rfl,Below.refl _ _⟩
 ·have g:(c.2==1)=false:=by simpa using a
  rw[decide_eq_false a,Bool.false_and];clear a;go_enter func357,ntmps357;go_wp2_with fail;go_ret;exact⟨rfl,Below.refl _ _⟩
theorem rsn8 (u:Value) (c:Cf) (a:Option Addr) (n g:Nat) (l m o p k:Int) (f e:Nat) (w:World) (j:Holds w f 114 (foC l m o p (Sq a n g) k)) (i:Holds w e 45 (cfC u c)):
  Cs 358 #[Vp f 0,Vp e 0] w fun x w'=>x=Rt (Vb (decide (c.cap<=n)))∧Bz w w':=by
 have d:=j.cell 4;have b:=i.cell 3;simp[foC,cfC]at d b;go_enter func358,ntmps358;go_wp2_with fail;go_ret;exact⟨by rfl,Below.refl _ _⟩
theorem Qx (mark x:Bool) (j k:Nat) (v:Value) (w:World) (l:Holds w j 4 #[Vb mark]) (m:Holds w k 22 #[v]) (n:AskV w v x):
  Cs 349 #[Vp j 0,Vp k 0] w fun y w'=>y=Rt (Vb (!mark&&x))∧Bz w w':=by
 obtain⟨g,i,rfl,h,a⟩:=n;have c:=hiD (a w bRf);have e:=l.cell 0;have d:=m.cell 0;simp at e d;clear a;cases mark
 ·go_enter func349,ntmps349;go_wp2_with (go_at_fn g;refine c.out.mono ?_;rintro y f ⟨rfl,b⟩);go_ret;exact⟨rfl,b⟩
 ·go_enter func349,ntmps349;go_wp2_with fail;go_ret;exact⟨rfl,Below.refl _ _⟩
theorem Holds.farSets {b d t:Nat} {a:Array Value}:∀(c:List Value) (o:Nat) {w:World},Holds w d t a->d≠b->Holds (w.setCells b o c) d t a
 |[],_,_,h,_=>h
 |v::r,o,_,h,hne=>Holds.farSets r (o+1) (h.far (p:=Ad b o) hne v) hne
theorem Below.setCells {a b:Nat} {d:World} (c:a<=b):∀(e:List Value) (o:Nat) {w:World},Below a d w->Below a d (w.setCells b o e)
 |[],_,_,h=>h
 |v::r,o,_,h=>Below.setCells c r (o+1) (h.setCell (p:=Ad b o) c v)
theorem Holds.setCells {b t:Nat}:∀(m:List Value) (o:Nat) {w:World} {l:Array Value},Holds w b t l->∃a,Holds (w.setCells b o m) b t a∧a.size=l.size∧(∀i,i<o->a[i]?=l[i]?)∧∀i v,m[i]?=some v->o+i<l.size->a[o+i]?=some v
 |[],_,_,l,h=>⟨l,h,rfl,fun _ _=>rfl,fun _ _ h=>by simp at h⟩
 |v::r,o,w,l,h=>by
   obtain⟨a,k,g,f,j⟩:=Holds.setCells r (o+1) (h.set o v);refine⟨a,k,by rw[g];simp,fun i n=>?_,fun i u d c=>?_⟩
   ·rw[f i (by omega)];simp[Array.getElem?_setIfInBounds];intro e;omega
   ·cases i with
    |zero=>
      simp at d;subst d;rw[Nat.add_zero,f o (by omega)];simp at c;simp[c]
    |succ i=>
      have:=j i u (by simpa using d) (by simp;omega);rw[show o+(i+1)=o+1+i by omega];exact this
theorem Holds.setsAll {b t:Nat} {w:World} {j:Array Value} (f:List Value) (h:Holds w b t j) (k:f.length=j.size):Holds (w.setCells b 0 f) b t f.toArray:=by
 obtain⟨a,d,e,_,c⟩:=Holds.setCells f 0 h;have:a=f.toArray:=by
  apply Array.ext_getElem?;intro i;by_cases g:i<f.length
  ·have:=c i f[i] (jB g) (by omega);rw[dG]at this;rw[this];simp[g]
  ·rw[Array.getElem?_eq_none (by omega),Array.getElem?_eq_none (by simpa using g)]
 rw[<-this];exact d
theorem qM.setCells {F:TypeId->Bool} {I:World->Prop} (A:qM F I) {b t:Nat} (a:F t=true):∀(d:List Value) (o:Nat) {w:World} {c:Array Value},I w->Holds w b t c->I (w.setCells b o d)
 |[],_,_,_,h,_=>h
 |v::r,o,_,_,h,hh=>qM.setCells A a r (o+1) (A.set h hh a o v) (hh.set o v)
theorem rsn1 (g:Nat) (c:Array Value) (d:Nat) (w:World):Cs 348 #[.func (.func g) #[] c,Vp d 0] w fun e w'=>e=Rt (.func (.func 349) #[] #[Vp d 0,Vp w.1.size 0])∧Holds w' w.1.size 22 #[.func (.func g) #[] c]∧Bz w w':=by
 have b:=hmf1;have a:=hstB;go_enter func348,ntmps348;go_wp2_with fail;go_ret;exact⟨rfl,Holds.fresh _ _ _,bB⟩
theorem allocs6 (w:World) (a d f i k m:Array Value) (c e g j l n:TypeId) (W:World) (o:W=(((((w.alloc (Oc a c)).alloc (Oc d e)).alloc (Oc f g)).alloc (Oc i j)).alloc (Oc k l)).alloc (Oc m n)):
  Holds W w.1.size c a∧Holds W (w.1.size+1) e d∧Holds W (w.1.size+1+1) g f∧Holds W (w.1.size+1+1+1) j i∧Holds W (w.1.size+1+1+1+1) l k∧Holds W (w.1.size+1+1+1+1+1) n m∧Bz w W:=by
 subst o;refine⟨(((((Holds.fresh w c a).alloc _).alloc _).alloc _).alloc _).alloc _,((((Holds.fresh' (w:=w.alloc (Oc a c)) (b:=w.1.size+1) (by simp) e d).alloc _).alloc _).alloc _).alloc _,
  (((Holds.fresh' (w:=(w.alloc (Oc a c)).alloc (Oc d e)) (b:=w.1.size+1+1) (by simp) g f).alloc _).alloc _).alloc _,
  ((Holds.fresh' (w:=((w.alloc (Oc a c)).alloc (Oc d e)).alloc (Oc f g)) (b:=w.1.size+1+1+1) (by simp) j i).alloc _).alloc _,
  (Holds.fresh' (w:=(((w.alloc (Oc a c)).alloc (Oc d e)).alloc (Oc f g)).alloc (Oc i j)) (b:=w.1.size+1+1+1+1) (by simp) l k).alloc _,
  Holds.fresh' (w:=((((w.alloc (Oc a c)).alloc (Oc d e)).alloc (Oc f g)).alloc (Oc i j)).alloc (Oc k l)) (b:=w.1.size+1+1+1+1+1) (by simp) n m,
  (((((bA w _).alloc (by simp) _).alloc (by simp;omega) _).alloc (by simp;omega) _).alloc (by simp;omega) _).alloc (by simp;omega) _⟩
theorem NI:En0 350:=enters_of func350 rfl rfl
theorem NH:En0 351:=enters_of func351 rfl rfl
theorem NG:En0 353:=enters_of func353 rfl rfl
theorem NF:En0 355:=enters_of func355 rfl rfl
theorem NE:En0 356:=enters_of func356 rfl rfl
theorem ND:En0 357:=enters_of func357 rfl rfl
theorem NC:En0 358:=enters_of func358 rfl rfl
theorem kL:En0 349:=enters_of func349 rfl rfl
def askB (c:Cf) (f:Fo) (r:Rc):List Bool:=
 [false,false,r.kind==2&&lateM f.1 r.src r.ts,!(r.kind==2)&&lateM f.1 r.ev.src r.ev.ts,!(r.kind==2)&&hasE f.2 r.ev,
  !(r.kind==2)&&(decide (c.2=1)&&decide (r.ev.ts<f.hi-c.4)),!(r.kind==2)&&decide (c.cap<=f.2.length)]
structure BndF (c:Cf) (f:Fo) (r:Rc):Prop where
 ok:RcOk r
 src:c.5=1
 s0:0<=c.4
 s1:c.4<=1099511627776
 h0:-1<=f.hi
 h1:f.hi<=1099511627776
def lF1:Fo:=⟨[0,0,0,0],[l1],3⟩
def lF2:Fo:=⟨[0,0,0,0],[l2,l1],3⟩
def lF (i:Nat):Fo:=if i=0 then newF else if i=1 then lF1 else lF2
def lR (i:Nat):Rc:=if i=0 then ⟨1,l1,0,0⟩else if i=1 then ⟨1,l2,0,0⟩else ⟨2,ev0,0,4⟩
def lC (a:Int):Cf:=⟨lP,a,3,9,1⟩
def Ls (c:Cf) (f:Fo) (r:Rc):Prop:=∃(a:Int) (i:Nat),(a=1∨a=2)∧i<3∧c=lC a∧f=lF i∧r=lR i
theorem Ls.all {c:Cf} {f:Fo} {r:Rc} (h:Ls c f r) {Q:Cf->Fo->Rc->Prop} (j:∀g,g=1∨g=2->Q (lC g) (lF 0) (lR 0)∧Q (lC g) (lF 1) (lR 1)∧Q (lC g) (lF 2) (lR 2)):Q c f r:=by
 obtain⟨g,i,e,k,rfl,rfl,rfl⟩:=h;obtain⟨a,b,d⟩:=j g e;rcases(show i=0∨i=1∨i=2 by omega)with rfl|rfl|rfl
 ·exact a
 ·exact b
 ·exact d
theorem Ls.ask {c:Cf} {f:Fo} {r:Rc} (h:Ls c f r):askB c f r=List.replicate 7 false:=h.all (Q:=fun c f r=>askB c f r=List.replicate 7 false) fun d a=>by rcases a with rfl|rfl<;>exact⟨by kernel_rfl,by kernel_rfl,by kernel_rfl⟩
theorem Ls.may {c:Cf} {f:Fo} {r:Rc} (h:Ls c f r):mayB c f=true:=h.all (Q:=fun c f _=>mayB c f=true) fun d a=>by rcases a with rfl|rfl<;>exact⟨by kernel_rfl,by kernel_rfl,by kernel_rfl⟩
theorem Ls.src {c:Cf} {f:Fo} {r:Rc} (h:Ls c f r):c.5=1:=by obtain⟨_,_,_,_,rfl,_⟩:=h;rfl
theorem Ls.ok {c:Cf} {f:Fo} {r:Rc} (h:Ls c f r):PtOk c.p:=by obtain⟨_,_,_,_,rfl,_⟩:=h;rfl
theorem Ls.sok {c:Cf} {f:Fo} {r:Rc} (h:Ls c f r):SOk f.2:=h.all (Q:=fun _ f _=>SOk f.2) fun _ _=>⟨.inl rfl,.inr (.inl rfl),.inr (.inr rfl)⟩
theorem Ls.bf {c:Cf} {f:Fo} {r:Rc} (h:Ls c f r):BndF c f r:=h.all (Q:=BndF) fun a _=>by
 refine⟨?_,?_,?_⟩
 all_goals constructor
 all_goals first|exact .inl rfl|exact .inr (.inl rfl)|exact .inr (.inr rfl)|rfl|(show (0:Int)<=9;decide)|(show (9:Int)<=1099511627776;decide)|decide
theorem Je (c:Cf) (f:Fo) (a3:Rc) (hS:Ls c f a3) (v a6:Value) (w:World) (hv:Ai w v c) (hk:vw w a6 f):
  Cs 323 #[v,a6,rcA a3] w fun ad w'=>∃Z,ad=Rt (.agg Z)∧Z[0]?=some .nilFunc∧(∀i,0<i->i<8->∃x,Z[i]?=some x∧AskV w' x false)∧Bz w w':=by
 have ar:=hmf1;have ax:=hstB;have aq:∀(a:Addr) (d E:Nat) (m:Mode) (w:World),Sem.run prog (store a (Vc d E) m) w=stored prog w a (Vc d E) m:=fun a d E m w=>run_store _ w a _ m rfl;have au:∀(a:Addr) (m:Mode) (w:World),Sem.run prog (store a .nilFunc m) w=stored prog w a .nilFunc m:=fun a m w=>run_store _ w a _ m rfl;obtain⟨ay,rfl,hs⟩:=hv;obtain⟨S,J,N,O,kk,hm,rfl,I⟩:=hk;obtain⟨a,ac,rfl,ao,av⟩:=hs.form;obtain⟨a2,D,rfl,ap⟩:=I.form;have aw:=I.1.small;have a8:=hiD I;clear hs I;have HM:=hiD hm;clear hm;have a7:=hiD hS.bf;have a9:=hiD hS.ask;clear hS;obtain⟨X,⟨u,r,k,h,d,E⟩,rs,rt⟩:=a3;simp only[rcA,rcV,evV,jE,jD]at*;generalize ah:(X==2)=mark at*;have aa:=hiD ah;unfold cfC foC at*;go_enter func323,ntmps323;go_wp2_with fail;obtain⟨a5,hW⟩:=xL ((((((w.alloc (Oc #[Sq a c.p.1.length ac,Vi c.p.2,Vu c.2,Vi c.cap,Vi c.4,Vi c.5] 45)).alloc (Oc #[Vi S,Vi J,Vi N,Vi O,Sq a2 f.2.length D,Vi f.hi] 114)).alloc (Oc #[Vu X,Vi u,Vi r,Vi k,Vi h,Vc d E,Vi rs,Vi rt] 38)).alloc (Oc #[.nilFunc,.nilFunc,.nilFunc,.nilFunc,.nilFunc,.nilFunc,.nilFunc,.nilFunc] 410)).alloc (Oc #[Vi u,Vi r,Vi k,Vi h,Vc d E] 36)).alloc (Oc #[Vb mark] 4));rw[<-hW];obtain⟨zc,zf,zr,W,ze,zm,a4⟩:=allocs6 w _ _ _ _ _ _ _ _ _ _ _ _ a5 hW;clear hW;refine(rsn1 _ _ _ _).mono ?_;rintro x w1 ⟨rfl,y4,A⟩;go_wp2_with fail;refine(rsn1 _ _ _ _).mono ?_;rintro x w2 ⟨rfl,y5,g⟩;go_wp2_with fail;refine(rsn1 _ _ _ _).mono ?_;rintro x w3 ⟨rfl,y6,H⟩;go_wp2_with fail;refine(rsn1 _ _ _ _).mono ?_;rintro x w4 ⟨rfl,y7,B⟩;have Q:=((A.trans (g.mono A.size)).trans (H.mono (jS A.size g.size))).trans (B.mono (jS A.size (jS g.size H.size)));replace W:=W.later Q;obtain⟨q0,q1,q2,q3,q4,q5,q6,q7,qf,ql⟩:=W.g8;go_wp2_with fail;obtain⟨V,T⟩:∃V:List Value,V=[.nilFunc,.func (.func 350) #[] #[Vp (w.1.size+1+1) 0],.func (.func 351) #[] #[Vp (w.1.size+1+1) 0,Vp w.1.size 0],
  .func (.func 353) #[] #[Vp (w.1.size+1+1+1+1+1) 0,Vp (w.1.size+1) 0,Vp (w.1.size+1+1) 0],
  .func (.func 349) #[] #[Vp (w.1.size+1+1+1+1+1) 0,Vp a5.1.size 0],.func (.func 349) #[] #[Vp (w.1.size+1+1+1+1+1) 0,Vp w1.1.size 0],
  .func (.func 349) #[] #[Vp (w.1.size+1+1+1+1+1) 0,Vp w2.1.size 0],.func (.func 349) #[] #[Vp (w.1.size+1+1+1+1+1) 0,Vp w3.1.size 0]]:=⟨_,rfl⟩
 have s1:=A.size;have s2:=g.size;have s3:=H.size;have s4:=B.size;have s0:=zm.size;obtain⟨U,y⟩:=xL (w4.setCells (w.1.size+1+1+1) 0 V);have yo:Holds U (w.1.size+1+1+1) 410 V.toArray:=by rw[y];exact W.setsAll V (by rw[T];rfl)
 have e:∀{a1 t:Nat} {cs:Array Value},Holds w4 a1 t cs->a1≠w.1.size+1+1+1->Holds U a1 t cs:=fun ae aj=>by rw[y];exact ae.farSets V 0 aj
 have K:=e (zc.later Q) (by omega);have C:=e (zf.later Q) (by omega);have R:=e (zr.later Q) (by omega);have L:=e (ze.later Q) (by omega);have z:=e (zm.later Q) (by omega);have ak:=e (((y4.later g).later H).later B) (by omega);have al:=e ((y5.later H).later B) (by omega);have am:=e (y6.later B) (by omega);have an:=e y7 (by omega);have a0:Bz w w4:=a4.trans (Q.mono a4.size);have ag:RowT 5 36 evV U (Sq a2 f.2.length D) f.2:=by
  rw[y];exact qM.setCells (RowT.abides (F:=fun t=>t==410) rfl _ _) rfl V 0 (a8.out.later a0) W
 have af:Bz w U:=by rw[y];exact Below.setCells (by omega) V 0 a0
 have M:=a7.out;have ai:f.1=[S,J,N,O]:=HM.out;have ab:(X==2)=mark:=aa.out;have o:∀(i:Nat) x b,V.tail[i]?=some x->(askB c f ⟨X,⟨u,r,k,h,d,E⟩,rs,rt⟩)[i]?=some b->AskV U x b:=by
  intro i x b p q;rw[T]at p;unfold askB at q;simp only[ab,ai]at q
  match i with
  |0=>simp only[List.tail_cons,jM,Option.some.injEq]at p q;subst p q;exact⟨_,_,rfl,NI,fun s l=>rsn2 _ M.ok _ s (R.later l)⟩
  |1=>simp only[List.tail_cons,jN,jM,Option.some.injEq]at p q;subst p q;exact⟨_,_,rfl,NH,fun s l=>rsn3 _ M.ok _ c M.src _ _ s (R.later l) (K.later l)⟩
  |2=>simp only[List.tail_cons,jN,jM,Option.some.injEq]at p q;subst p q;exact⟨_,_,rfl,NG,fun s l=>rsn4 mark ⟨X,⟨u,r,k,h,d,E⟩,rs,rt⟩ S J N O _ _ _ _ _ s (z.later l) (C.later l) (R.later l)⟩
  |3=>
    simp only[List.tail_cons,jN,jM,Option.some.injEq]at p q;subst p q;exact⟨_,_,rfl,kL,fun s l=>Qx mark _ _ _ _ s (z.later l) (ak.later l) ⟨_,_,rfl,NF,fun P g=>rsn5 ⟨u,r,k,h,d,E⟩ S J N O _ _ _ _ P ((C.later l).later g) ((L.later l).later g)⟩⟩
  |4=>
    simp only[List.tail_cons,jN,jM,Option.some.injEq]at p q;subst p q;exact⟨_,_,rfl,kL,fun s l=>Qx mark _ _ _ _ s (z.later l) (al.later l) ⟨_,_,rfl,NE,fun P g=>rsn6 ⟨u,r,k,h,d,E⟩ f.2 S J N O _ _ _ _ P ((ag.later l).later g).1 ((C.later l).later g) ((L.later l).later g)⟩⟩
  |5=>
    simp only[List.tail_cons,jN,jM,Option.some.injEq]at p q;subst p q;exact⟨_,_,rfl,kL,fun s l=>Qx mark _ _ _ _ s (z.later l) (am.later l) ⟨_,_,rfl,ND,fun P g=>rsn7 ⟨u,r,k,h,d,E⟩ _ c S J N O _ _ M.s0 M.s1 M.h0 M.h1 _ _ _ P ((K.later l).later g) ((L.later l).later g) ((C.later l).later g)⟩⟩
  |6=>
    simp only[List.tail_cons,jN,jM,Option.some.injEq]at p q;subst p q;exact⟨_,_,rfl,kL,fun s l=>Qx mark _ _ _ _ s (z.later l) (an.later l) ⟨_,_,rfl,NC,fun P g=>rsn8 _ c a2 f.2.length D S J N O _ _ _ P ((C.later l).later g) ((K.later l).later g)⟩⟩
  |n+7=>simp at p
 rw[T]at yo;rw[T]at y;rw[T]at o;clear T;subst y;refine bodyPost_ret (zU rfl _ _ (w.1.size+1+1+1) 410 _ _ rfl yo underlying410 rfl rfl) rfl ⟨_,rfl,rfl,fun i h0 h8=>?_,af⟩;obtain⟨j,rfl⟩:∃j,i=j+1:=⟨i-1,by omega⟩;rw[a9.out]at o;rcases(show j=0∨j=1∨j=2∨j=3∨j=4∨j=5∨j=6 by omega)with rfl|rfl|rfl|rfl|rfl|rfl|rfl
 ·exact⟨_,rfl,o 0 _ false rfl rfl⟩
 ·exact⟨_,rfl,o 1 _ false rfl rfl⟩
 ·exact⟨_,rfl,o 2 _ false rfl rfl⟩
 ·exact⟨_,rfl,o 3 _ false rfl rfl⟩
 ·exact⟨_,rfl,o 4 _ false rfl rfl⟩
 ·exact⟨_,rfl,o 5 _ false rfl rfl⟩
 ·exact⟨_,rfl,o 6 _ false rfl rfl⟩
theorem Ig (c:Cf) (f:Fo) (r:Rc) (v k:Value) (w:World) (N:Ai w v c) (M:vw w k f):Cs 289 #[v,k,rcA r] w fun e w'=>e=Rt (.func (.func 322) #[] #[Vp w.1.size 0,Vp (w.1.size+1) 0,Vp (w.1.size+2) 0])∧
  (∃u i g h j s,v= .agg (cfC u c)∧k= .agg (foC i g h j s f.hi)∧f.1=[i,g,h,j]∧Holds w' w.1.size 45 (cfC u c)∧Holds w' (w.1.size+1) 114 (foC i g h j s f.hi))∧Holds w' (w.1.size+2) 38 (rcV r).toArray∧Bz w w':=by
 have C:=hmf1;obtain⟨u,rfl,L⟩:=N;obtain⟨i,g,h,j,s,y,rfl,l⟩:=M;obtain⟨a,E,rfl,x,z⟩:=L.form;obtain⟨n,d,rfl,t⟩:=l.form;have D:=hiD y;clear L l y;obtain⟨o,⟨K,J,I,F,H,q⟩,p,m⟩:=r;simp only[rcA,rcV,evV,jE,jD]at*;have A:=((Holds.fresh w 45 (cfC (Sq a c.p.1.length E) c)).alloc (Oc (foC i g h j (Sq n f.2.length d) f.hi) 114)).alloc (Oc #[Vu o,Vi K,Vi J,Vi I,Vi F,Vc H q,Vi p,Vi m] 38);have O:=(Holds.fresh' (w:=w.alloc (Oc (cfC (Sq a c.p.1.length E) c) 45)) (b:=w.1.size+1) (by simp) 114 (foC i g h j (Sq n f.2.length d) f.hi)).alloc (Oc #[Vu o,Vi K,Vi J,Vi I,Vi F,Vc H q,Vi p,Vi m] 38);have P:=Holds.fresh' (w:=(w.alloc (Oc (cfC (Sq a c.p.1.length E) c) 45)).alloc (Oc (foC i g h j (Sq n f.2.length d) f.hi) 114)) (b:=w.1.size+2) (by simp) 38 #[Vu o,Vi K,Vi J,Vi I,Vi F,Vc H q,Vi p,Vi m];have B:=((bA w (Oc (cfC (Sq a c.p.1.length E) c) 45)).alloc (by simp) (Oc (foC i g h j (Sq n f.2.length d) f.hi) 114)).alloc (by simp;omega) (Oc #[Vu o,Vi K,Vi J,Vi I,Vi F,Vc H q,Vi p,Vi m] 38);unfold cfC foC at*;go_enter func289,ntmps289;go_wp2_with fail;go_ret;exact⟨rfl,⟨_,i,g,h,j,_,rfl,rfl,D.out,A,O⟩,P,B⟩
theorem Gz:En0 322:=enters_of func322 rfl rfl
theorem G8 (c:Array Value) (k:Nat) (z:Int) (v:Value) (d:z=k) (e:k<8) (h:c[k]?=some v) (w:World):(Instr.index 410 (.agg c) (Vi z)).run prog w= .ok v w:=by
 subst d;have b:(0:Int)<=(k:Int)∧(k:Int)<8:=by omega
 have a:¬(8<=k):=by omega
 unfold Instr.index;simp[asIntOf,run_underlying underlying410,sizeOf22,part,isAgg22,h,b,a,go_sem]
theorem I7 (c:Cf) (f:Fo) (r:Rc) (C:Ls c f r) (u:Value) (l m n p:Int) (j:Value) (P:f.1=[l,m,n,p]) (z A rb:Nat):
  Iter prog 322 #[Vp z 0,Vp A 0,Vp rb 0] (fun _=>#[Vu 0]) 0
  (fun W=>Holds W z 45 (cfC u c)∧qN W u c.p.1∧Holds W A 114 (foC l m n p j f.hi)∧RowT 5 36 evV W j f.2∧Holds W rb 38 (rcV r).toArray):=by
 have ae:∀(w:World) (g:Nat) (t:Array Value),(binOp .neq 22 (.func (.func g) #[] t) .nilFunc).run prog w= .ok (Vb true) w:=fun w g t=>rfl;have af:∀(w:World),(binOp .neq 22 .nilFunc .nilFunc).run prog w= .ok (Vb false) w:=fun w=>rfl;intro ah a6 Jx W I a3 hF hY K;have H:=hiD I;obtain⟨e,s,h,o,b⟩:=hF 0 W K;clear hF I hY a3;have x:=hiD (Je c f r C (.agg (cfC u c)) (.agg (foC l m n p j f.hi)) W ⟨u,rfl,s⟩ ⟨l,m,n,p,j,P,rfl,o⟩);clear C P;obtain⟨ab,ac,rfl,ad,ag⟩:=s.form;obtain⟨a2,aa,rfl,ai⟩:=o.form;clear s o;obtain⟨rk,⟨ts,ak,aj,kd,re,im⟩,rs,rt⟩:=r;simp only[rcA,rcV,evV,jE,jD]at*;have F:=e.cell 0;have p1:=e.cell 1;have S:=e.cell 2;have O:=e.cell 3;have E:=e.cell 4;have p5:=e.cell 5;have M:=h.cell 0;have s1:=h.cell 1;have T:=h.cell 2;have R:=h.cell 3;have s4:=h.cell 4;have Q:=h.cell 5;have V:=b.cell 0;have L:=b.cell 1;have N:=b.cell 2;have D:=b.cell 3;have q4:=b.cell 4;have X:=b.cell 5;have q6:=b.cell 6;have U:=b.cell 7;simp[cfC,foC]at F p1 S O E p5 M s1 T R s4 Q V L N D q4 X q6 U;unfold cfC foC at x;clear e h b;refine callsIn_of_wp func322 rfl trivial ?_ rfl;simp only[ntmps322,jW,jF,jO,Nat.reduceAdd,Nat.reduceSub,jR,jQ,jX,jU,jD,jE];gi_wp2;refine⟨trivial,rfl,(callsIn_wide.2 x.out).mono ?_⟩;rintro a8 a5 ⟨y,rfl,a0,B,a7⟩;have a:=(H.out 0).on K a7;have HA:=hiD B;have a4:=hiD a0;clear B a0 F p1 S O E p5 M s1 T R s4 Q V L N D q4 X q6 U;gi_wp2;gi_loopw [5,6,11] (fun _ _ q wr=>∃k:Nat,k<=8∧q=Vi k∧a6 0 wr∧Bz a5 wr) (fun _ _ q wr=>8-(intOf q).toNat);case atStart=>exact⟨0,by omega,rfl,a,Below.refl _ _⟩
 case round=>
  obtain⟨k,o,rfl,a,d⟩:=hrel;by_cases i:k<8
  ·rcases Nat.eq_zero_or_pos k with rfl|v
   ·have a9:=fun w=>G8 y 0 0 _ rfl (by decide) a4.out w;gi_wp2;refine⟨fun _ _=>trivial,?_⟩;gi_wp2;refine⟨fun _ _=>trivial,?_⟩;gi_wp2;go_roundw;case rel=>exact⟨1,by omega,by go_num,a,d⟩
    case measure=>simp[intOf]
   ·obtain⟨a8,Z,g,t,rfl,eg,J⟩:=HA.out k v i;have a9:=fun w=>G8 y k k _ rfl i Z w;have HC:=hiD (J wr d);clear J Z;gi_wp2;refine⟨trivial,rfl,(callsIn_wide.2 HC.out).mono ?_⟩;rintro al w2 ⟨rfl,a1⟩;gi_wp2;refine⟨fun _ _=>trivial,?_⟩;gi_wp2;go_roundw;case rel=>exact⟨k+1,by omega,by go_num,(H.out 0).on a a1,d.trans (a1.mono d.size)⟩
    case measure=>simp[intOf];omega
  ·obtain rfl:k=8:=by omega
   gi_wp2;go_end0;exact⟨⟨_,rfl⟩,.inl a⟩
end
end Go.Proofs.YtnmpcdnbklmhkaaGreatDoor
