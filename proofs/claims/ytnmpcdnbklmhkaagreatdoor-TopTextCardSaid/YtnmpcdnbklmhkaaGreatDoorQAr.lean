import Derived.Test.YtnmpcdnbklmhkaaGreatDoorQAq
namespace Go.Proofs.YtnmpcdnbklmhkaaGreatDoor
open Go.Proofs.Tryz Go.RowKit
set_option maxRecDepth 100000
set_option linter.all false
set_option maxHeartbeats 8000000
section
attribute [local go_sem] Oper.semAt_some
attribute [local go_sem ↓] Go.wp_at_zero Go.wp_at_succ
def eqL {α:Type} (q:α->α->Bool) (a b:List α):Bool:=decide (a.length=b.length)&&(a.zip b).all fun z=>q z.1 z.2
theorem UU {α:Type} {q:α->α->Bool} {a b:List α} {k:Nat} {x y:α} (c:a[k]?=some x) (d:b[k]?=some y) (h:q x y=false):eqL q a b=false:=by
 unfold eqL;rw[Bool.and_eq_false_iff];right;rw[List.all_eq_false];refine⟨(x,y),jY (i:=k) (by rw[List.getElem?_zip_eq_some];exact⟨c,d⟩),by simp[h]⟩
theorem QQ {α:Type} {q:α->α->Bool} {a b:List α} (d:a.length=b.length) (h:∀(k:Nat) (x y:α),a[k]?=some x->b[k]?=some y->q x y=true):eqL q a b=true:=by
 unfold eqL;rw[d,decide_eq_true rfl,Bool.true_and,List.all_eq_true];rintro⟨x,y⟩ e;obtain⟨k,c⟩:=List.getElem?_of_mem e;rw[List.getElem?_zip_eq_some]at c;exact h k x y c.1 c.2
theorem UT (g:Nat) (lb:Array Value) (eg:∀a0 w,(callFunc g a0).run prog w= .ok (.enter g a0) w) (q:Ev->Ev->Bool) (s t:List Ev) (v a3:Value) (w:World) (p:RowV 5 evV w v s) (n:RowV 5 evV w a3 t)
  (r:∀(i:Nat) (x y:Ev),s[i]?=some x->t[i]?=some y->∀W,Bz w W->Cs g (#[evA x,evA y]++lb) W fun e w'=>e=Rt (Vb (q x y))∧Bz W w'):
  Cs 254 #[v,a3,.func (.func g) #[] lb] w (Rw w (Vb (eqL q s t))):=by
 obtain⟨ab,ad,rfl,a6⟩:=id p.form;obtain⟨b,ae,rfl,a5⟩:=id n.form;have a9:=p.small;have a7:=n.small;by_cases a:s.length=t.length
 ·have K:=fun k x y h1 h2 h3=>UU (q:=q) (a:=s) (b:=t) (k:=k) (x:=x) (y:=y) h1 h2 h3;have a1:=QQ (q:=q) a;have HV:=hiD p;have HU:=hiD n;have HQ:=hiD r;have a8:=hiD K;have HY:=hiD a1;have T:=hiD a;clear p n r K a1;obtain⟨m,Q⟩:=xR s.length;rw[Q]at a6 a9 a⊢;rw[<-a]at a5 a7⊢;have P:=hiD Q;clear a Q;have ag:=hst1;go_enter func254,ntmps254;go_wp2_with fail;go_loopw [7,8,9,17] (fun _ _ _ i wr=>∃k:Nat,k<=m∧i=Vi k∧Hid (∀(j:Nat) (x y:Ev),j<k->s[j]?=some x->t[j]?=some y->q x y=true)∧Bz w wr) (fun _ _ _ i _=>m-(intOf i).toNat);case atStart=>exact⟨0,jg _,rfl,hiD (fun j x y h=>absurd h (Nat.not_lt_zero _)),Below.refl _ _⟩
  case round=>
   obtain⟨k,hk,rfl,U,C⟩:=hrel;by_cases E:k<m
   ·obtain⟨b1,o1,c1,N,M,A,u,z,R,e1,_,l,p0,p1,p2,p3,p4⟩:=yq (HV.out.later C) (show k<s.length by rw[P.out];exact E);obtain⟨b2,o2,c2,O,a4,a2,I,L,F,e2,_,o,q0,Z,q2,V,q4⟩:=yq (HU.out.later C) (show k<t.length by rw[<-T.out,P.out];exact E);cases e1;rw[<-T.out,P.out]at e2;cases e2;have d:=(C.alloc C.size (Oc #[Vi N,Vi M,Vi A,Vi u,Vc z R] 36)).alloc (by have:=C.size;simp;omega) (Oc #[Vi O,Vi a4,Vi a2,Vi I,Vc L F] 36);have c:=HQ.out k _ _ l o _ d;have f:=(Below.refl wr.1.size wr).alloc nLe (Oc #[Vi N,Vi M,Vi A,Vi u,Vc z R] 36);replace q0:=qd f nLe q0;replace Z:=qd f nLe Z;replace q2:=qd f nLe q2;replace V:=qd f nLe V;replace q4:=qd f nLe q4;have X:=hiD l;have H:=hiD o;clear l o;simp only[evA,evV]at c;generalize D:q ⟨N,M,A,u,z,R⟩ ⟨O,a4,a2,I,L,F⟩=px at*;have J:=hiD D;clear D;have S:=hiD c;clear c;cases px
    ·go_wp2_with (go_at_fn g;refine S.out.mono ?_;rintro e w1 ⟨rfl,B⟩);go_ret;exact⟨by rw[a8.out k _ _ X.out H.out J.out];rfl,d.trans (B.mono d.size)⟩
    ·go_wp2_with (go_at_fn g;refine S.out.mono ?_;rintro e w1 ⟨rfl,B⟩);go_roundw;case rel=>
      refine⟨k+1,by omega,by go_num,hiD ?_,d.trans (B.mono d.size)⟩;intro j x y hj l o;rcases Nat.lt_or_ge j k with h|h
      ·exact U.out j x y h l o
      ·obtain rfl:j=k:=by omega
       rw[X.out]at l;rw[H.out]at o;cases l;cases o;exact J.out
     case measure=>simp[intOf];omega
   ·obtain rfl:k=m:=by omega
    go_wp2_with fail;go_ret;exact⟨by rw[HY.out (fun j x y l o=>U.out j x y (by rw[<-P.out];exact(jG.1 l).1) l o)];rfl,C⟩
 ·have hr:eqL q s t=false:=by unfold eqL;rw[decide_eq_false a];rfl
  rw[hr];have aa:((s.length:Int)==(t.length:Int))=false:=by simp only[beq_eq_false_iff_ne];omega
  clear hr p n r a;go_enter func254,ntmps254;generalize s.length=m at*;generalize t.length=ac at*;have af:((m:Int)!=(ac:Int))=true:=by simp only[bne,aa];rfl
  go_wp2_with fail;go_ret;exact⟨rfl,Below.refl _ _⟩
theorem Kh {w:World} {b i n c:Nat} {l:List Int} (h:RowV 1 intV w (Sq (some ⟨b,i,none⟩) n c) l):∀j,j<l.length->w.cell? ⟨b,i+j,none⟩=some (Vi (l.getD j 0)):=fun j g=>by
 obtain⟨d,k,f,e,_,a⟩:=h.get (jB g);cases e;have:=a 0 _ rfl;simp only[Nat.mul_one,Nat.add_zero]at this;rw[this];simp[List.getD,g]
theorem JU {α:Type} {k:Nat} {f:α->List Value} {w:World} {v:Value} {l:List α} (h:RowV k f w v l) (g:0<l.length):∃b d c,v=Sq (some ⟨b,d,none⟩) l.length c∧l.length<=c:=by
 obtain⟨b,d,c,e,a,_⟩:=h.get (jB g);exact⟨b,d,c,e,a⟩
theorem D3 (l1 l2:List Int) (v u:Value) (w:World) (n:RowV 1 intV w v l1) (m:RowV 1 intV w u l2):
  Cs 253 #[v,u] w (Rw w (Vb (decide (l1=l2)))):=by
 by_cases o:l1.length=l2.length
 ·rcases Nat.eq_zero_or_pos l1.length with f|f
  ·obtain rfl:l1=[]:=jV f;obtain rfl:l2=[]:=jV (by rw[<-o];rfl);obtain⟨a,c,rfl,_⟩:=n.form;obtain⟨b,d,rfl,_⟩:=m.form;refine(Tryz.slices_Equal_int_empty a b c 0 d w (by omega)).mono ?_;rintro e w' ⟨rfl,rfl⟩;exact⟨by simp,Below.refl _ _⟩
  ·obtain⟨l,j,i,rfl,_⟩:=JU n f;obtain⟨k,g,p,rfl,_⟩:=JU m (by omega);refine(Tryz.slices_Equal_int l j l1.length i k g l2.length p l1 l2 w nLe nLe n.small m.small (Kh n) (Kh m)).mono ?_;rintro e w' ⟨rfl,q,rfl⟩;refine⟨?_,qp _ _ _⟩;rw[jn,jn];congr 2;rw[Bool.eq_iff_iff];simp
 ·obtain⟨a,c,rfl,_⟩:=n.form;obtain⟨b,d,rfl,_⟩:=m.form;refine(Tryz.slices_Equal_int_lens a b l1.length c l2.length d w o).mono ?_;rintro e w' ⟨rfl,rfl⟩;refine⟨?_,Below.refl _ _⟩;rw[decide_eq_false (fun h=>o (by rw[h]))]
theorem P2:En0 306:=enters_of func306 rfl rfl
theorem NB:En0 237:=enters_of func237 rfl rfl
theorem Jp:En0 276:=enters_of func276 rfl rfl
theorem SE (x y:Ev) (w:World):Cs 306 #[evA x,evA y] w fun r w'=>r=Rt (Vb (keyB x y))∧Bz w w':=by
 have k:=hiD (fun w=>Fu x y w);have b:(cmpE x y==0)=keyB x y:=by
  cases h:keyB x y
  ·rw[beq_eq_false_iff_ne];intro e;rw[Kq.1 e]at h;cases h
  ·rw[beq_iff_eq];exact Kq.2 h
 rw[<-b];generalize cmpE x y=c at*;clear b;obtain⟨t,s,q,n,p,o⟩:=x;obtain⟨l,d,a,g,i,j⟩:=y;simp only[evA,evV]at*;go_enter func306,ntmps306;go_wp2_with fail;refine(k.out _).mono ?_;rintro r m ⟨rfl,f⟩;go_wp2_with fail;go_ret;exact⟨rfl,(bB.alloc (by simp) _).trans (f.mono (by simp;omega))⟩
theorem isM_eq (a b:Mt):isM a b=(decide (a.row=b.row)&&eqL keyB a.2 b.2):=rfl
theorem Ur (m n:Mt) (r e D C:Value) (w:World) (E:MtV w r e m) (F:MtV w D C n):Cs 277 #[.agg #[r,e],.agg #[D,C]] w fun x w'=>x=Rt (Vb (isM m n))∧Bz w w':=by
 have f:=fun p l=>(bA w p).alloc (by simp) l;have s:=(Holds.fresh w 127 #[r,e]).alloc (Oc #[D,C] 127);have o:=Holds.fresh' (w:=w.alloc (Oc #[r,e] 127)) (b:=w.1.size+1) (by simp) 127 #[D,C];have a:=f (Oc #[r,e] 127) (Oc #[D,C] 127);have h:=hiD (fun W (c:Bz w W)=>D3 m.row n.row r D W (E.1.1.later c) (F.1.1.later c));have k:=hiD (fun W (c:Bz w W)=>UT 306 #[] P2 keyB m.2 n.2 e C W (E.2.1.later c) (F.2.1.later c) (fun i x y _ _ u _=>SE x y u));rw[isM_eq];generalize decide (m.row=n.row)=b1 at*;generalize eqL keyB m.2 n.2=A at*;obtain⟨z,v,rfl,_⟩:=E.1.form;obtain⟨H,K,rfl,_⟩:=E.2.form;obtain⟨I,L,rfl,_⟩:=F.1.form;obtain⟨J,M,rfl,_⟩:=F.2.form;clear E F;cases b1
 ·go_enter func277,ntmps277;go_wp2_with fail;refine(h.out _ a).mono ?_;rintro x j ⟨rfl,c⟩;go_wp2_with fail;go_ret;exact⟨rfl,a.trans (c.mono a.size)⟩
 ·go_enter func277,ntmps277;go_wp2_with fail;refine(h.out _ a).mono ?_;rintro x j ⟨rfl,c⟩;have d:=a.trans (c.mono a.size);have q:=(s.later c).cell 1;have t:=(o.later c).cell 1;simp at q t;go_wp2_with fail;refine(k.out _ d).mono ?_;rintro x B ⟨rfl,g⟩;go_wp2_with fail;go_ret;exact⟨rfl,d.trans (g.mono d.size)⟩
theorem Po (m:Mt) (F:m=lM) (r e C n:Value) (w:World) (D:MtV w r e m) (E:MtV w C n m):Cs 226 #[.agg #[r,e],.agg #[C,n]] w fun x w'=>x=Rt (Vb true)∧Bz w w':=by
 have q:=(Holds.fresh w 127 #[r,e]).alloc (Oc #[C,n] 127);have l:=Holds.fresh' (w:=w.alloc (Oc #[r,e] 127)) (b:=w.1.size+1) (by simp) 127 #[C,n];have c:=(bA w (Oc #[r,e] 127)).alloc (by simp) (Oc #[C,n] 127);have k:=hiD (fun W (a:Bz w W)=>D3 m.row m.row r C W (D.1.1.later a) (E.1.1.later a));have g:=hiD (fun W (a:Bz w W)=>UT 237 #[] NB sameE m.2 m.2 e n W (D.2.1.later a) (E.2.1.later a) (fun i x y j s u _=>by
  obtain rfl:x=y:=Option.some.inj (j.symm.trans s);have o:evWf x:=by
   have:=jY j;rw[F]at this;simp[lM]at this;exact this.elim (fun h=>.inr (.inl h)) .inl
  exact Ac x x o (.inl rfl) u))
 rw[show eqL sameE m.2 m.2=true by subst F;decide]at g;rw[decide_eq_true rfl]at k;obtain⟨A,z,rfl,_⟩:=D.1.form;obtain⟨H,K,rfl,_⟩:=D.2.form;obtain⟨I,L,rfl,_⟩:=E.1.form;obtain⟨J,M,rfl,_⟩:=E.2.form;clear D E F;go_enter func226,ntmps226;go_wp2_with fail;refine(k.out _ c).mono ?_;rintro x v ⟨rfl,a⟩;have d:=c.trans (a.mono c.size);have p:=(q.later a).cell 1;have t:=(l.later a).cell 1;simp at p t;go_wp2_with fail;refine(g.out _ d).mono ?_;rintro x B ⟨rfl,f⟩;go_wp2_with fail;go_ret;exact⟨rfl,d.trans (f.mono d.size)⟩
def MtsV (W:World) (v:Value) (l:List Mt):Prop:=qv 2 127 mtR W v l
theorem MtsV.later {W a:World} {v:Value} {l:List Mt} (h:MtsV W v l) (d:Bz W a):MtsV a v l:=
 (qv.abides (F:=fun _=>false) rfl (fun m c=>mtR.abides rfl rfl m c) v l).later h d
theorem Nc (m n:Mt) (r e o l:Value) (B:Nat) (w:World) (j:MtV w r e m) (k:MtV w o l n) (p:Holds w B 127 #[o,l]):Cs 276 #[.agg #[r,e],Vp B 0] w fun x w'=>x=Rt (Vb (isM m n))∧Bz w w':=by
 have a:=bA w (Oc #[r,e] 127);have z:=p.alloc (Oc #[r,e] 127);have c:=hiD (Ur m n r e o l _ (j.later a) (k.later a));obtain⟨i,f,rfl,_⟩:=j.1.form;obtain⟨q,u,rfl,_⟩:=j.2.form;obtain⟨s,y,rfl,_⟩:=k.1.form;obtain⟨t,A,rfl,_⟩:=k.2.form;obtain⟨g,h,-⟩:=z.g2;clear j k;go_enter func276,ntmps276;go_wp2_with fail;refine c.out.mono ?_;rintro x d ⟨rfl,b⟩;go_wp2_with fail;go_ret;exact⟨rfl,a.trans (b.mono a.size)⟩
theorem PY {α β:Type} (f:α->β) (p:β->Bool) (l:List α):firstI (fun x=>p (f x)) l=firstI p (l.map f):=by
 unfold firstI;rw[List.any_map,List.findIdx_map];rfl
theorem Pq (l:List Mt) (n:Mt) (v B A:Value) (w:World) (E:MtsV w v l) (C:MtV w B A n):Cs 247 #[v,.agg #[B,A]] w fun x w'=>x=Rt (Vi (firstI (fun m=>isM m n) l))∧Bz w w':=by
 have p:=hmf1;have b:=bA w (Oc #[B,A] 127);have z:=Holds.fresh w 127 #[B,A];obtain⟨D,F,j,o⟩:=E.later b;have d:=C.later b;have g:=idx_mt (fun y:Mt×Cl 2=>y.2.1) (fun y=>y.2.2) 276 #[Vp w.1.size 0] Jp (fun y=>isM y.1 n) D v _ j.1
  (fun i y q W f=>by
   obtain⟨r,e,h,s⟩:=o y (jY q);rw[h];exact Nc y.1 n r e B A w.1.size W (s.later f) (d.later f) (z.later f))
 rw[PY (fun y:Mt×Cl 2=>y.1) (fun m=>isM m n) D,F]at g;generalize firstI (fun m=>isM m n) l=x at*;have t:=hiD g;obtain⟨a,c,rfl,_⟩:=j.form;obtain⟨H,J,rfl,_⟩:=C.1.form;obtain⟨I,K,rfl,_⟩:=C.2.form;clear g j o C d E;generalize D.length=k at*;go_enter func247,ntmps247;go_wp2_with fail;refine t.out.mono ?_;rintro x u ⟨rfl,f⟩;go_wp2_with fail;go_ret;exact⟨rfl,b.trans (f.mono b.size)⟩
theorem Rf {p:Pt} (a:PtOk p) (j r n:Nat) (a9:2<=n) (v:Value) (w:World) (hv:PatV w v p) (s:w.cell? ⟨j,r,none⟩=some (Vi 0)) (t:w.cell? ⟨j,r+1,none⟩=some (Vi 1)):
  Cs 344 #[v,Sq (some ⟨j,r,none⟩) 2 n] w (Rw w (Vb true)):=by
 obtain⟨u,rfl,K⟩:=hv;have d:=bA w (Oc #[u,Vi p.2] 25);have z:=Holds.fresh w 25 #[u,Vi p.2];have f:=K.mono d nLe;have L:=hiD (yZ p a _ _ ⟨_,rfl,f⟩);have H:=hiD f;have N:=hiD a;obtain⟨a7,a8,rfl,a5,a6⟩:=K.form;replace s:=qd d nLe s;replace t:=qd d nLe t;rw[a.len]at*;clear K f a;go_enter func344,ntmps344;go_wp2_with fail;refine zE 0 rfl ?_;go_wp2_with fail;refine L.out.mono ?_;rintro aa E ⟨rfl,o⟩;have Q:=(z.later o).cell 0;simp at Q;have m:=d.trans (o.mono d.size);have D:=hiD (H.out.mono o nLe);have X:=hiD (qd o nLe s);have Z:=hiD (qd o nLe t);clear H L s t z;go_wp2_with fail;go_loopw [1,5,6,7,14] (fun F _ _ _ i wr=>Bz E wr∧((∃k:Nat,k<=1∧i=Vi k∧F=Vs j (r+k) (2-k) (n-k))∨i=Vi 2∧∃x c,F=Sq x 0 c)) (fun _ _ _ _ i _=>2-(intOf i).toNat);case atStart=>exact⟨Below.refl _ _,.inl ⟨0,by omega,rfl,rfl⟩⟩
 case round=>
  obtain⟨b,⟨k,hk,rfl,rfl⟩|⟨rfl,x,c,rfl⟩⟩:=hrel
  ·have M:=qd b nLe X.out;have W:=qd b nLe Z.out;have h:=N.out.len;obtain⟨b1,o1,c1,ng,T,S,a1,C,cs,A,B,O,-,J,-,R,a2,p2,V,P,a0⟩:=vP (D.out.mono b nLe) (show k<p.1.length by omega);rw[h]at O;cases O;obtain⟨rfl,rfl,rfl⟩:ng=false∧S=1∧a1=1:=by rcases N.out.all (jY J)with e|e<;>cases e<;>exact⟨rfl,rfl,rfl⟩
   clear J h;generalize cs.length=y at*;have g:Bz wr (wr.alloc (Oc #[Vb false,Vi T,Vi 1,Vi 1,Vb C,Sq A y B] 63)):=bB;have I:=Holds.fresh wr 63 #[Vb false,Vi T,Vi 1,Vi 1,Vb C,Sq A y B];have l:=b.trans (g.mono b.size);replace M:=qd g nLe M;replace W:=qd g nLe W;obtain⟨be,a3⟩:=xR wr.1.size;go_wp2_with fail;generalize wr.alloc (Oc #[Vb false,Vi T,Vi 1,Vi 1,Vb C,Sq A y B] 63)=wx at*;obtain⟨t0,-,t2,t3,-⟩:=I.g4;clear I R a2 p2 V P a0;rw[a3]at*;rcases(show k=0∨k=1 by omega)with rfl|rfl
   all_goals
    simp only[Nat.add_zero,Nat.sub_zero,Nat.reduceSub];go_loopw [7] (fun q U=>(q=Vi 0∨q=Vi 1)∧U=wx) (fun q _=>1-(intOf q).toNat);case atStart=>exact⟨.inl rfl,rfl⟩
    case round=>
     obtain⟨rfl|rfl,rfl⟩:=hrel
     ·go_wp2_with fail;go_roundw;case rel=>exact⟨.inr rfl,trivial⟩
      case measure=>simp[intOf]
     ·by_cases a4:n=2
      all_goals
       try subst a4
       go_wp2_with fail;go_roundw
       all_goals first|exact⟨l,.inl ⟨1,by omega,rfl,rfl⟩⟩|exact⟨l,.inr ⟨rfl,_,_,rfl⟩⟩|(simp[intOf];done)
  ·go_wp2_with fail;rw[qU];go_ret;exact⟨rfl,m.trans (b.mono m.size)⟩
theorem IU {p:Pt} (K:PtOk p) (n J M:Nat) (O:2<=M) (v:Value) (w:World) (P:PatV w v p) (i:w.cell? ⟨n,J,none⟩=some (.int .i64 0)) (j:w.cell? ⟨n,J+1,none⟩=some (.int .i64 1)):
  Cs 317 #[v,.slice (some ⟨n,J,none⟩) 2 M,.int .i64 1] w (Rw w (.slice none 0 0)):=by
 obtain⟨u,rfl,L⟩:=P;have b:=bA w (.cells #[u,.int .i64 p.2] 25);have z:=Holds.fresh w 25 #[u,.int .i64 p.2];have m:=hiD (L.mono b nLe);replace i:=qd b nLe i;replace j:=qd b nLe j;have y:=hiD (fun W d=>(Rf K n J M O (.agg #[u,.int .i64 p.2]) W ⟨_,rfl,m.out.mono d nLe⟩ (qd d nLe i) (qd d nLe j)).mono (fun e w' h=>(⟨h.1,d.trans (h.2.mono d.size)⟩:e= .returned (.bool true)∧Below (w.alloc (.cells #[u,.int .i64 p.2] 25)).1.size (w.alloc (.cells #[u,.int .i64 p.2] 25)) w')));have s:=hiD (fun W h=>FJ K 0 1 (by omega) (by rw[K.len];omega) (.agg #[u,.int .i64 p.2]) W ⟨_,rfl,h⟩);obtain⟨a,N,rfl,o,x⟩:=L.form;rw[K.len]at*;clear L K;go_enter func317,ntmps317;go_wp2_with fail;generalize w.alloc (.cells #[.slice a 2 N,.int .i64 p.2] 25)=W at*;have B:∀u:Lat W,Cq u.v n J (.int .i64 0):=fun u=>u.cell i;have t:∀u:Lat W,Cq u.v n (J+1) (.int .i64 1):=fun u=>u.cell j;obtain⟨q,A,-⟩:=z.l2;refine qz _ (by kernel_rfl) (by kernel_rfl) bRf ?_
 repeat (go_big_quiet_step (first|with_reducible exact Lat.call y.out _))
 refine wpQuiet_nil ?_;rintro k ⟨⟨_,c⟩,rfl⟩;have I:∀u:Lat k,Cq u.v n J (.int .i64 0):=fun u=>u.cell (qd c nLe i);have C:∀u:Lat k,Cq u.v n (J+1) (.int .i64 1):=fun u=>u.cell (qd c nLe j);obtain⟨F,D,-⟩:=(z.later c).l2;clear B t q A;go_wp2_with fail;refine xO k 10 (by kernel_rfl) (by kernel_rfl) bRf ?_;simp only[jm,dF,dE,ju]
 repeat (go_big_quiet_step (fail))
 refine wpQuiet_nil ?_;rintro H ⟨⟨_,g⟩,rfl⟩;go_wp2_with fail;refine(s.out _ ((m.out.mono c nLe).mono g nLe)).mono ?_;rintro r E ⟨rfl,l⟩;go_wp2_with fail;go_ret;have f:=(b.trans (c.mono b.size)).trans (g.mono (by have:=b.size;have:=c.size;omega));exact⟨rfl,f.trans (l.mono f.size)⟩
end
end Go.Proofs.YtnmpcdnbklmhkaaGreatDoor
