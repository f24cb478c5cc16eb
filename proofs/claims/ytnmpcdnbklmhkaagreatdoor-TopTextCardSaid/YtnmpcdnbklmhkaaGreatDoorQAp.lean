import Derived.Test.YtnmpcdnbklmhkaaGreatDoorQAn
import Derived.Test.YtnmpcdnbklmhkaaGreatDoorQAg
namespace Go.Proofs.YtnmpcdnbklmhkaaGreatDoor
open Go.Proofs.Tryz Go.RowKit
set_option maxRecDepth 100000
set_option linter.all false
set_option maxHeartbeats 8000000
section
attribute [local go_sem] Oper.semAt_some
attribute [local go_sem ↓] Go.wp_at_zero Go.wp_at_succ
def PatB (W:World) (B:Nat) (p:Pt):Prop:=∃u,Holds W B 25 #[u,Vi p.2]∧qN W u p.1
theorem PatB.later {W c:World} {B:Nat} {p:Pt} (h:PatB W B p) (d:Bz W c):PatB c B p:=by
 obtain⟨u,b,a⟩:=h;exact⟨u,b.later d,a.mono d nLe⟩
theorem vP {z:List St} {w:World} {u:Value} (I:qN w u z) {k:Nat} (H:k<z.length):∃b n c g A i f h y e d,u=Sq (some ⟨b,n,none⟩) z.length c∧z.length<=c∧z[k]?=some (⟨g,A,i,f,h,y⟩:St)∧yQ w (Sq e y.length d) y∧
  w.cell? ⟨b,n+k*6,none⟩=some (Vb g)∧w.cell? ⟨b,n+k*6+1,none⟩=some (Vi A)∧w.cell? ⟨b,n+k*6+2,none⟩=some (Vi i)∧w.cell? ⟨b,n+k*6+3,none⟩=some (Vi f)∧w.cell? ⟨b,n+k*6+4,none⟩=some (Vb h)∧w.cell? ⟨b,n+k*6+5,none⟩=some (Sq e y.length d):=by
 obtain⟨a,c,rfl,r,v,t,q⟩:=I;obtain⟨b,n,e,d,rfl,⟨j,B,C,D,E,F⟩,m,l,s,p⟩:=q.get k H;obtain⟨x,o⟩:=xR (z[k]);rw[o]at j B C D E F m l p;obtain⟨g,A,i,f,h,y⟩:=x;exact⟨b,n,c,g,A,i,f,h,y,e,d,rfl,r,by rw[<-o];exact jB H,⟨e,d,rfl,m,l,s,p⟩,j,B,C,D,E,F⟩
theorem qN.form {w:World} {u:Value} {f:List St} (h:qN w u f):∃a c,u=Sq a f.length c∧f.length<=c∧f.length<=9223372036854775807:=by
 obtain⟨a,c,e,d,b,_⟩:=h;exact⟨a,c,e,d,b⟩
theorem Dl {P:Program} {g:Operand} {k:Array Tmp} {l m:Code} {Q:Exit->Act->World->Prop} {a:Act} {w:World}
  {c:Nat} {j:Array Value} (s:a.eval g= .func (.func c) #[] j) (n:∀e w,(callFunc c e).run P w= .ok (.enter c e) w)
  {f:Nat->Array Value} {d:World->Prop} (t:Iter P c j f 0 d) (u:∀i,(f i).size=k.size)
  (I:World->Prop) (q:qe w.1.size I) (p:∀W,I W->d W) (o:I w)
  (r:∀(D:Nat) (W:World),w.1.size<=D->I W->W.1[D]?=some (.deferred (some []))->Q .normal {a with defers:=mark D::a.defers} W):
  (Code.rangeFunc g k l m).wp P Q a w:=
 kT s n t u (fun _=>I) (fun _ _ _=>False) (fun _=>q) (fun _ _=>qe.pure _) (fun _=>p) o (fun _=>a)
  (fun _ i _ _ h=>absurd h (Nat.not_lt_zero i)) (fun _ i _ _ h=>absurd h (Nat.not_lt_zero i)) r (fun _ _ _ _ _ _ h=>h.elim)
theorem st_two {p:Pt} (a:PtOk p) {k:Nat} {s:St} (h:p.1[k]?=some s):(k=0∧s=⟨false,0,1,1,false,[]⟩)∨(k=1∧s=⟨false,1,1,1,true,[]⟩):=by
 subst a;rcases k with _|_|k
 ·exact .inl ⟨rfl,(Option.some.inj h).symm⟩
 ·exact .inr ⟨rfl,(Option.some.inj h).symm⟩
 ·simp[lP]at h
theorem Ck (w:World):Cs 77 #[Vb true] w fun e w'=>e=Rt (Vi (-1))∧w=w':=by
 go_enter func77,ntmps77;go_wp2_with fail;go_ret;exact⟨rfl,rfl⟩
def SoT (p:Pt) (c:World) (g:Nat) (a:Array Value):Prop:=∀(i:Nat) (s:St),p.1[i]?=some s->∀W v,Bz c W->yQ W v s.6->Cs g (#[Vi i,stA s v]++a) W fun e w'=>e=Rt (Vb true)∧Bz W w'
theorem chk_so4 {p:Pt} (a:PtOk p) (d:World):SoT p d 79 #[]:=by
 intro i s c w v _ _;rcases st_two a c with⟨rfl,rfl⟩|⟨rfl,rfl⟩<;>
 ·simp only[stA];go_enter func79,ntmps79;go_wp2_with fail;go_ret;exact⟨rfl,bB⟩
theorem chk_so6 {p:Pt} (a:PtOk p) (d:World):SoT p d 81 #[]:=by
 intro i s c w v _ _;rcases st_two a c with⟨rfl,rfl⟩|⟨rfl,rfl⟩<;>
 ·simp only[stA];go_enter func81,ntmps81;go_wp2_with fail;go_ret;exact⟨rfl,bB⟩
theorem chk_so5 {p:Pt} (n:PtOk p) (B:World) (A:Nat) (y:∀W,Bz B W->PatB W A p):SoT p B 80 #[Vp A 0]:=by
 intro i s z w v d _;have k:0<p.1.length:=by rw[n];decide
 obtain⟨u,x,a⟩:=(y w d).later (bA w (Oc (stV s v).toArray 63));obtain⟨b,F,c,l,E,r,o,t,D,q,m,rfl,-,f,-,j,-⟩:=vP a k;obtain⟨-,-,-,-,g⟩:=a.form;have C:=x.cell 0;simp at C j;obtain rfl:l=false:=by
  rcases st_two n f with⟨_,e⟩|⟨h,_⟩
  ·cases e;rfl
  ·cases h
 clear x a f y d;rcases st_two n z with⟨rfl,rfl⟩|⟨rfl,rfl⟩<;>
 ·simp only[stA,stV]at*;clear z;go_enter func80,ntmps80;go_wp2_with fail;go_ret;exact⟨rfl,bB⟩
theorem N5 (u:Value) (d:Int) (g:Nat) (c:Array Value) (w:World):Cs 75 #[.agg #[u,Vi d],.func (.func g) #[] c] w fun e w'=>e=Rt (.func (.func 117) #[] #[Vp w.1.size 0,Vp (w.1.size+1) 0])∧
  w'=(w.alloc (Oc #[u,Vi d] 25)).alloc (Oc #[.func (.func g) #[] c] 156):=by
 have a:=hmf1;go_enter func75,ntmps75;go_wp2_with fail;go_ret;exact⟨rfl,rfl⟩
theorem LS:En0 117:=enters_of func117 rfl rfl
theorem OG (p:Pt) (u:Value) (g:Nat) (V:Array Value) (eg:∀n w,(callFunc g n).run prog w= .ok (.enter g n) w) (B D:Nat) (X:World) (U:SoT p X g V):
  Iter prog 117 #[Vp B 0,Vp D 0] (fun _=>#[Vi 0]) 0
  (fun W=>(Holds W B 25 #[u,Vi p.2]∧qN W u p.1)∧Holds W D 156 #[.func (.func g) #[] V]∧Bz X W):=by
 intro a9 J a0 W v o hF F r;have K:=hiD hF;have x:=hiD v;obtain⟨c,a⟩:=(hF 0 W r).1;have m:=(hF 0 W r).2.1.cell 0;obtain⟨a5,a7,rfl,A,I⟩:=a.form;have T:=c.cell 0;simp at T m;clear hF c a v F o;refine callsIn_of_wp func117 rfl trivial ?_ rfl;simp only[ntmps117,jW,jF,jO,Nat.reduceAdd,Nat.reduceSub,jR,jQ,jX,jU,jD,jE];gi_wp2;clear T m;gi_loopw [4,5,9] (fun _ _ q wr=>∃k:Nat,k<=p.1.length∧q=Vi k∧J 0 wr) (fun _ _ q wr=>p.1.length-(intOf q).toNat);case atStart=>exact⟨0,by omega,rfl,r⟩
 case round=>
  obtain⟨k,a1,rfl,l⟩:=hrel;obtain⟨⟨c,a⟩,m,i⟩:=K.out 0 wr l;by_cases t:k<p.1.length
  ·obtain⟨b,aa,a6,N,Z,H,L,O,e,z,C,E,a4,y,j,S,p1,p2,a2,Q,a3⟩:=vP a t;cases E;have d:=(Below.refl wr.1.size wr).alloc nLe (Oc #[Vb N,Vi Z,Vi H,Vi L,Vb O,Sq z e.length C] 63);have f:=U k _ y _ (Sq z e.length C) (i.trans (d.mono i.size)) (j.mono d nLe);simp only[stA]at f;have s:=(m.later d).cell 0;simp at s;have h:=(x.out 0).on l d;clear y j m c a d U;generalize e.length=R at*;have M:=hiD f;clear f;gi_wp2;refine⟨trivial,rfl,(callsIn_wide.2 M.out).mono ?_⟩;rintro a8 P ⟨rfl,d⟩;replace h:=(x.out 0).on h d;gi_wp2;refine⟨fun _ _=>trivial,?_⟩;gi_wp2;go_roundw;case rel=>exact⟨k+1,by omega,by go_num,h⟩
   case measure=>simp[intOf];omega
  ·gi_wp2;go_end0;exact⟨⟨_,rfl⟩,.inl l⟩
theorem KX {B:Nat} (v:Value) (n:List Cm):qe B (fun W=>yQ W v n):=fun W q y h p s=>by
 obtain⟨a,c,e,o,k,g,d⟩:=h;refine⟨a,c,e,o,k,g,?_⟩;rcases d with d|⟨b,t,l,d⟩
 ·exact .inl d
 ·exact .inr ⟨b,t,l,fun i x m j u f=>cell_kept (d i x m j u f) p (fun r e=>(s r e).2)⟩
theorem Dr {B:Nat} (v:Value) (A:List St):qe B (fun W=>qN W v A):=fun W s z h f n=>by
 obtain⟨a,c,e,q,m,k,d⟩:=h;refine⟨a,c,e,q,m,k,?_⟩;rcases d with d|⟨b,y,o,d⟩
 ·exact .inl d
 ·refine .inr ⟨b,y,o,fun i x p=>?_⟩;obtain⟨v,t,l⟩:=d i x p;exact⟨v,KX v _ W s z t f n,fun j u g=>cell_kept (l j u g) f (fun r e=>(n r e).2)⟩
theorem CZ (p:Pt) (u:Value) (g:Nat) (n:Array Value) (P:∀q w,(callFunc g q).run prog w= .ok (.enter g q) w) (M N:Nat) (w:World)
  (Q:Holds w M 25 #[u,Vi p.2]) (r:qN w u p.1) (R:Holds w N 156 #[.func (.func g) #[] n]) (K:SoT p w g n):
  Cs 74 #[Vp M 0,Vp N 0] w (Rw w (Vi (-1))):=by
 have a:=bA w (Oc #[Vi 0] 3);have s:=Holds.fresh w 3 #[Vi 0];have z:=Q.later a;have t:=R.later a;obtain⟨V,E,-⟩:=z.g2;have O:=t.cell 0;simp at O;have A:=hiD (fun u T w=>N5 u T g n w);have f:=hiD (fun B D y h=>OG p u g n P B D y h);have e:=hiD K;clear K;have l:=hiD r;clear r;refine qH func74 rfl ?_;simp only[ntmps74,jW,jF,jO,Nat.reduceAdd,Nat.reduceSub,jR,jQ,jX,jU,jD,jE];go_wp2_with fail;refine(A.out _ _ _).mono ?_;rintro a1 C ⟨rfl,rfl⟩;go_wp2_with fail;have k:=(s.alloc (Oc #[u,Vi p.2] 25)).alloc (Oc #[.func (.func g) #[] n] 156);have o:=(Holds.fresh (w.alloc (Oc #[Vi 0] 3)) 25 #[u,Vi p.2]).alloc (Oc #[.func (.func g) #[] n] 156);have U:=Holds.fresh' (w:=(w.alloc (Oc #[Vi 0] 3)).alloc (Oc #[u,Vi p.2] 25)) (b:=w.1.size+1+1) (by simp) 156 #[.func (.func g) #[] n];have d:=(a.alloc (by simp) (Oc #[u,Vi p.2] 25)).alloc (by simp;omega) (Oc #[.func (.func g) #[] n] 156);have i:=l.out.mono d nLe;rw[jl]at o;have a0:(((w.alloc (Oc #[Vi 0] 3)).alloc (Oc #[u,Vi p.2] 25)).alloc (Oc #[.func (.func g) #[] n] 156)).1.size=w.1.size+3:=by simp
 generalize ((w.alloc (Oc #[Vi 0] 3)).alloc (Oc #[u,Vi p.2] 25)).alloc (Oc #[.func (.func g) #[] n] 156)=H at*;refine Dl rfl LS (f.out (w.1.size+1) (w.1.size+1+1) w e.out) (fun _=>rfl)
  (fun W=>(Holds W (w.1.size+1) 25 #[u,Vi p.2]∧qN W u p.1)∧Holds W (w.1.size+1+1) 156 #[.func (.func g) #[] n]∧Holds W w.1.size 3 #[Vi 0]∧Bz w W)
  (((qi _ _ _).and (Dr _ _)).and ((qi _ _ _).and ((qi _ _ _).and (qe.below (by omega) nLe))))
  (fun W h=>⟨h.1,h.2.1,h.2.2.2⟩) ⟨⟨o,i⟩,U,k,d⟩ ?_
 rintro D W I ⟨F,Z,L,S⟩ x;obtain⟨X,J,-⟩:=L.g1;show Exit.inBlock 0 _ _ _ _;go_wp2_with fail;have j:=L.set 0 (Vi (-1));have c:=(KeepsOthers.setCell W (Ad w.1.size 0) (Vi (-1))).same D _ x rfl;have m:=qW (c:= .deferred none) c rfl (j.cell 0);simp at m;exact qZ (v:=Vi (-1)) c (by simp[results,results74,go_sem,m]) ⟨rfl,qB (S.setCell (p:=Ad w.1.size 0) nLe _) c (by omega)⟩
theorem Qj (s:St) (n:Option Addr) (o:Nat) (w:World):Cs 84 #[stA s (Sq n 0 o)] w (Rw w Vn):=by
 have k:=hiD (fun w=>T5 w);have j:=hiD (fun w=>Tryz.slices_Compact_int_empty none 0 w);obtain⟨d,q,e,c,f,u⟩:=s;simp only[stA];have a:=(bA w (Oc #[Vb d,Vi q,Vi e,Vi c,Vb f,Sq n 0 o] 63)).alloc (by simp) (Oc #[Vn] 125);have z:=Holds.fresh' (w:=w.alloc (Oc #[Vb d,Vi q,Vi e,Vi c,Vb f,Sq n 0 o] 63)) (b:=w.1.size+1) (by simp) 125 #[Vn];go_enter func84,ntmps84;go_wp2_with fail;generalize l:(w.alloc (Oc #[Vb d,Vi q,Vi e,Vi c,Vb f,Sq n 0 o] 63)).alloc (Oc #[Vn] 125)=W at*;obtain⟨t,m,-⟩:=z.g1;go_loopw [11] (fun i wr=>i=Vi 0∧wr=W) (fun _ _=>0);case atStart=>exact⟨rfl,rfl⟩
 case round=>
  obtain⟨rfl,rfl⟩:=hrel;clear l;go_wp2_with fail;refine(k.out _).mono ?_;rintro r h ⟨rfl,rfl⟩;go_wp2_with fail;refine(j.out _).mono ?_;rintro r h ⟨rfl,rfl⟩;go_wp2_with fail;have g:=(z.set 0 Vn).cell 0;simp at g;refine bodyPost_ret (v:=Vn) (by simp[results,results84,go_sem,g]) rfl ⟨rfl,a.setCell (p:=Ad (w.1.size+1) 0) (by simp) _⟩
theorem chk_so8 {p:Pt} (q:PtOk p) (y:World) (x:Nat):SoT p y 83 #[Vp x 0]:=by
 intro i s n w v _ t;have d:=q.noC s (jY n);rw[d]at t;obtain⟨e,c,rfl,-⟩:=t;have m:=hiD (fun w=>Qj s e c w);have j:i<=1:=by rcases st_two q n with⟨rfl,_⟩|⟨rfl,_⟩<;>omega
 clear n d;obtain⟨k,u,l,h,o,z⟩:=s;simp only[stA,jO]at*;have a:=(bA w (Oc #[Vb k,Vi u,Vi l,Vi h,Vb o,Sq e 0 c] 63));go_enter func83,ntmps83;go_wp2_with fail;refine(m.out _).mono ?_;rintro r f ⟨rfl,g⟩;have b:=a.trans (g.mono (by simp));go_wp2_with fail;go_loopw [7,15] (fun _ i wr=>i=Vi 0∧wr=f) (fun _ _ _=>0);case atStart=>exact⟨rfl,rfl⟩
 case round=>
  obtain⟨rfl,rfl⟩:=hrel;go_wp2_with fail;go_ret;exact⟨rfl,b⟩
theorem PtOk.len {p:Pt} (h:PtOk p):p.1.length=2:=by rw[h];rfl
theorem PtOk.win {p:Pt} (h:PtOk p):p.2=5:=by rw[h];rfl
theorem TD {p:Pt} (j:PtOk p) (l:Nat) (w:World) (m:PatB w l p):Cs 76 #[Vp l 0] w fun e w'=>e=Rt (Vi (-1))∧w=w':=by
 obtain⟨u,i,k⟩:=m;obtain⟨a,c,rfl,_,b⟩:=k.form;rw[j.len,j.win]at*;obtain⟨n,g,-⟩:=i.g2;have d:=hiD (fun w=>Ck w);clear i k;go_enter func76,ntmps76;go_wp2_with fail;refine(d.out _).mono ?_;rintro r f ⟨rfl,rfl⟩;go_wp2_with fail;go_ret;exact⟨rfl,rfl⟩
theorem TC {p:Pt} (A:PtOk p) (C:Nat) (w:World) (E:PatB w C p):Cs 78 #[Vp C 0] w fun e w'=>e=Rt (Vi (-1))∧w=w':=by
 obtain⟨u,n,B⟩:=E;have g:0<p.1.length:=by rw[A.len];omega
 obtain⟨b,I,c,t,H,y,q,z,F,x,k,rfl,o,a,_,f,s,v,l,d,m⟩:=vP B g;rcases st_two A a with⟨_,e⟩|⟨h,_⟩;rotate_left
 ·cases h
 cases e;have D:=n.cell 0;simp at D;have i:=hiD (fun w=>Ck w);simp only[Nat.zero_mul,Nat.add_zero]at f d;clear a n B;go_enter func78,ntmps78;go_wp2_with fail;refine(i.out _).mono ?_;rintro r j ⟨rfl,rfl⟩;go_wp2_with fail;go_ret;exact⟨rfl,rfl⟩
theorem TB (d:Nat) (w:World) (c:Holds w d 3 #[Vi 2]):Cs 82 #[Vp d 0] w fun e w'=>e=Rt (Vi (-1))∧w=w':=by
 have f:=c.cell 0;simp at f;have a:=hiD (fun w=>Ck w);clear c;go_enter func82,ntmps82;go_wp2_with fail;refine(a.out _).mono ?_;rintro r b ⟨rfl,rfl⟩;go_wp2_with fail;go_ret;exact⟨rfl,rfl⟩
theorem U7 (g:Nat) (c:Array Value) (d:Nat) (w:World):Cs 73 #[.func (.func g) #[] c,Vp d 0] w fun e w'=>e=Rt (.func (.func 74) #[] #[Vp d 0,Vp w.1.size 0])∧
  w'=w.alloc (Oc #[.func (.func g) #[] c] 156):=by
 have a:=hmf1;go_enter func73,ntmps73;go_wp2_with fail;go_ret;exact⟨rfl,rfl⟩
theorem kM:En0 74:=enters_of func74 rfl rfl
theorem Tv:En0 76:=enters_of func76 rfl rfl
theorem Tu:En0 78:=enters_of func78 rfl rfl
theorem Tt:En0 79:=enters_of func79 rfl rfl
theorem Tr:En0 80:=enters_of func80 rfl rfl
theorem Tq:En0 81:=enters_of func81 rfl rfl
theorem Tp:En0 82:=enters_of func82 rfl rfl
theorem To:En0 83:=enters_of func83 rfl rfl
def Q3 (w:World) (b:Nat):Prop:=∀r,r<7->∃(g:Nat) (c:Array Value),w.cell? ⟨b,r,none⟩=some (.func (.func g) #[] c)∧(∀a w,(callFunc g a).run prog w= .ok (.enter g a) w)∧
 ∀W,Bz w W->Cs g c W fun e w'=>e=Rt (Vi (-1))∧Bz W w'
theorem N6 (p:Pt) (s:PtOk p) (v:Value) (w:World) (hv:PatV w v p):
  Cs 50 #[v] w fun e w'=>∃b,e=Rt (Sq (some ⟨b,0,none⟩) 7 7)∧Q3 w' b∧Bz w w':=by
 obtain⟨u,rfl,g⟩:=hv;have a5:=hmf1;have a1:=hiD s.len;have E:=(bA w (Oc #[u,Vi p.2] 25)).alloc (by simp) (Oc #[Vi 0] 3);have i:=(Holds.fresh w 25 #[u,Vi p.2]).alloc (Oc #[Vi 0] 3);have H:=Holds.fresh' (w:=w.alloc (Oc #[u,Vi p.2] 25)) (b:=w.1.size+1) (by simp) 3 #[Vi 0];have P:=i.cell 0;simp at P;obtain⟨a,n,rfl,a2,a6⟩:=g.form;have M:=hiD g;clear g;have B:=hiD (fun a0 V T w=>U7 a0 V T w);have l:=hiD s;go_enter func50,ntmps50;go_wp2_with fail;generalize (w.alloc (Oc #[Sq a p.1.length n,Vi p.2] 25)).alloc (Oc #[Vi 0] 3)=W at*;clear P;go_loopw [6,11] (fun _ q wr=>∃k:Nat,k<=p.1.length∧q=Vi k∧Holds wr w.1.size 25 #[Sq a p.1.length n,Vi p.2]∧Holds wr (w.1.size+1) 3 #[Vi k]∧Bz w wr) (fun _ q wr=>p.1.length-(intOf q).toNat);case atStart=>exact⟨0,by omega,rfl,i,H,E⟩
 case round=>
  obtain⟨k,hk,rfl,O,N,j⟩:=hrel;by_cases J:k<p.1.length
  ·obtain⟨b,a7,a3,ng,c,y,Z,C,R,x,A,e2,a4,Q,K,p0,p1,p2,p3,p4,p5⟩:=vP (M.out.mono j nLe) J;cases e2;obtain⟨rfl,rfl⟩:ng=false∧Z=1:=by rcases st_two l.out Q with⟨_,e⟩|⟨_,e⟩<;>cases e<;>exact⟨rfl,rfl⟩
   clear K Q;generalize R.length=t at*;have z:=Holds.fresh wr 63 #[Vb false,Vi c,Vi y,Vi 1,Vb C,Sq x t A];have I:=j.alloc j.size (Oc #[Vb false,Vi c,Vi y,Vi 1,Vb C,Sq x t A] 63);have o:=N.alloc (Oc #[Vb false,Vi c,Vi y,Vi 1,Vb C,Sq x t A] 63);have F:=O.alloc (Oc #[Vb false,Vi c,Vi y,Vi 1,Vb C,Sq x t A] 63);obtain⟨l0,lf,-⟩:=o.g1;have hw:IntKind.i64.wrap ((k:Int)+1)=(k:Int)+1:=by rw[IntKind.wrap_i64];omega
   go_wp2_with fail;go_roundw;case rel=>exact⟨k+1,by omega,by go_num,F.far (by simp) _,by simpa using o.set 0 (Vi ((k:Int)+1)),I.setCell (p:=Ad (w.1.size+1) 0) (by simp) _⟩
   case measure=>simp[intOf];omega
  ·obtain rfl:k=p.1.length:=by omega
   go_wp2_with fail;refine(B.out _ _ _ _).mono ?_;rintro r D ⟨rfl,rfl⟩;go_wp2_with fail;refine(B.out _ _ _ _).mono ?_;rintro r D ⟨rfl,rfl⟩;go_wp2_with fail;refine(B.out _ _ _ _).mono ?_;rintro r D ⟨rfl,rfl⟩;go_wp2_with fail;refine(B.out _ _ _ _).mono ?_;rintro r D ⟨rfl,rfl⟩;go_wp2_with fail;go_ret;refine⟨wr.1.size+1+1+1+1,by simp,?_,?_⟩
   ·have z:=Holds.fresh' (w:=((((wr.alloc (Oc #[.func (.func 79) #[] #[]] 156)).alloc (Oc #[.func (.func 80) #[] #[Vp w.1.size 0]] 156)).alloc (Oc #[.func (.func 81) #[] #[]] 156)).alloc (Oc #[.func (.func 83) #[] #[Vp w.1.size 0]] 156))) (b:=wr.1.size+1+1+1+1) (by simp) 72 #[.func (.func 76) #[] #[Vp w.1.size 0],.func (.func 78) #[] #[Vp w.1.size 0],.func (.func 74) #[] #[Vp w.1.size 0,Vp wr.1.size 0],.func (.func 74) #[] #[Vp w.1.size 0,Vp (wr.1.size+1) 0],.func (.func 74) #[] #[Vp w.1.size 0,Vp (wr.1.size+1+1) 0],.func (.func 82) #[] #[Vp (w.1.size+1) 0],.func (.func 74) #[] #[Vp w.1.size 0,Vp (wr.1.size+1+1+1) 0]];have i:=((((O.alloc (Oc #[.func (.func 79) #[] #[]] 156)).alloc (Oc #[.func (.func 80) #[] #[Vp w.1.size 0]] 156)).alloc (Oc #[.func (.func 81) #[] #[]] 156)).alloc (Oc #[.func (.func 83) #[] #[Vp w.1.size 0]] 156)).alloc (Oc #[.func (.func 76) #[] #[Vp w.1.size 0],.func (.func 78) #[] #[Vp w.1.size 0],.func (.func 74) #[] #[Vp w.1.size 0,Vp wr.1.size 0],.func (.func 74) #[] #[Vp w.1.size 0,Vp (wr.1.size+1) 0],.func (.func 74) #[] #[Vp w.1.size 0,Vp (wr.1.size+1+1) 0],.func (.func 82) #[] #[Vp (w.1.size+1) 0],.func (.func 74) #[] #[Vp w.1.size 0,Vp (wr.1.size+1+1+1) 0]] 72);have H:=((((N.alloc (Oc #[.func (.func 79) #[] #[]] 156)).alloc (Oc #[.func (.func 80) #[] #[Vp w.1.size 0]] 156)).alloc (Oc #[.func (.func 81) #[] #[]] 156)).alloc (Oc #[.func (.func 83) #[] #[Vp w.1.size 0]] 156)).alloc (Oc #[.func (.func 76) #[] #[Vp w.1.size 0],.func (.func 78) #[] #[Vp w.1.size 0],.func (.func 74) #[] #[Vp w.1.size 0,Vp wr.1.size 0],.func (.func 74) #[] #[Vp w.1.size 0,Vp (wr.1.size+1) 0],.func (.func 74) #[] #[Vp w.1.size 0,Vp (wr.1.size+1+1) 0],.func (.func 82) #[] #[Vp (w.1.size+1) 0],.func (.func 74) #[] #[Vp w.1.size 0,Vp (wr.1.size+1+1+1) 0]] 72);have U:=((((Holds.fresh wr 156 #[.func (.func 79) #[] #[]]).alloc (Oc #[.func (.func 80) #[] #[Vp w.1.size 0]] 156)).alloc (Oc #[.func (.func 81) #[] #[]] 156)).alloc (Oc #[.func (.func 83) #[] #[Vp w.1.size 0]] 156)).alloc (Oc #[.func (.func 76) #[] #[Vp w.1.size 0],.func (.func 78) #[] #[Vp w.1.size 0],.func (.func 74) #[] #[Vp w.1.size 0,Vp wr.1.size 0],.func (.func 74) #[] #[Vp w.1.size 0,Vp (wr.1.size+1) 0],.func (.func 74) #[] #[Vp w.1.size 0,Vp (wr.1.size+1+1) 0],.func (.func 82) #[] #[Vp (w.1.size+1) 0],.func (.func 74) #[] #[Vp w.1.size 0,Vp (wr.1.size+1+1+1) 0]] 72);have y1:=(((Holds.fresh' (w:=(wr.alloc (Oc #[.func (.func 79) #[] #[]] 156))) (b:=wr.1.size+1) (by simp) 156 #[.func (.func 80) #[] #[Vp w.1.size 0]]).alloc (Oc #[.func (.func 81) #[] #[]] 156)).alloc (Oc #[.func (.func 83) #[] #[Vp w.1.size 0]] 156)).alloc (Oc #[.func (.func 76) #[] #[Vp w.1.size 0],.func (.func 78) #[] #[Vp w.1.size 0],.func (.func 74) #[] #[Vp w.1.size 0,Vp wr.1.size 0],.func (.func 74) #[] #[Vp w.1.size 0,Vp (wr.1.size+1) 0],.func (.func 74) #[] #[Vp w.1.size 0,Vp (wr.1.size+1+1) 0],.func (.func 82) #[] #[Vp (w.1.size+1) 0],.func (.func 74) #[] #[Vp w.1.size 0,Vp (wr.1.size+1+1+1) 0]] 72);have y2:=((Holds.fresh' (w:=((wr.alloc (Oc #[.func (.func 79) #[] #[]] 156)).alloc (Oc #[.func (.func 80) #[] #[Vp w.1.size 0]] 156))) (b:=wr.1.size+1+1) (by simp) 156 #[.func (.func 81) #[] #[]]).alloc (Oc #[.func (.func 83) #[] #[Vp w.1.size 0]] 156)).alloc (Oc #[.func (.func 76) #[] #[Vp w.1.size 0],.func (.func 78) #[] #[Vp w.1.size 0],.func (.func 74) #[] #[Vp w.1.size 0,Vp wr.1.size 0],.func (.func 74) #[] #[Vp w.1.size 0,Vp (wr.1.size+1) 0],.func (.func 74) #[] #[Vp w.1.size 0,Vp (wr.1.size+1+1) 0],.func (.func 82) #[] #[Vp (w.1.size+1) 0],.func (.func 74) #[] #[Vp w.1.size 0,Vp (wr.1.size+1+1+1) 0]] 72);have y3:=(Holds.fresh' (w:=(((wr.alloc (Oc #[.func (.func 79) #[] #[]] 156)).alloc (Oc #[.func (.func 80) #[] #[Vp w.1.size 0]] 156)).alloc (Oc #[.func (.func 81) #[] #[]] 156))) (b:=wr.1.size+1+1+1) (by simp) 156 #[.func (.func 83) #[] #[Vp w.1.size 0]]).alloc (Oc #[.func (.func 76) #[] #[Vp w.1.size 0],.func (.func 78) #[] #[Vp w.1.size 0],.func (.func 74) #[] #[Vp w.1.size 0,Vp wr.1.size 0],.func (.func 74) #[] #[Vp w.1.size 0,Vp (wr.1.size+1) 0],.func (.func 74) #[] #[Vp w.1.size 0,Vp (wr.1.size+1+1) 0],.func (.func 82) #[] #[Vp (w.1.size+1) 0],.func (.func 74) #[] #[Vp w.1.size 0,Vp (wr.1.size+1+1+1) 0]] 72);have f:=M.out.mono (j.trans ((((((Below.refl wr.1.size wr).alloc nLe (Oc #[.func (.func 79) #[] #[]] 156)).alloc (by simp) (Oc #[.func (.func 80) #[] #[Vp w.1.size 0]] 156)).alloc (by simp;omega) (Oc #[.func (.func 81) #[] #[]] 156)).alloc (by simp;omega) (Oc #[.func (.func 83) #[] #[Vp w.1.size 0]] 156)).alloc (by simp;omega) (Oc #[.func (.func 76) #[] #[Vp w.1.size 0],.func (.func 78) #[] #[Vp w.1.size 0],.func (.func 74) #[] #[Vp w.1.size 0,Vp wr.1.size 0],.func (.func 74) #[] #[Vp w.1.size 0,Vp (wr.1.size+1) 0],.func (.func 74) #[] #[Vp w.1.size 0,Vp (wr.1.size+1+1) 0],.func (.func 82) #[] #[Vp (w.1.size+1) 0],.func (.func 74) #[] #[Vp w.1.size 0,Vp (wr.1.size+1+1+1) 0]] 72) |>.mono j.size)) nLe;generalize (((((wr.alloc (Oc #[.func (.func 79) #[] #[]] 156)).alloc (Oc #[.func (.func 80) #[] #[Vp w.1.size 0]] 156)).alloc (Oc #[.func (.func 81) #[] #[]] 156)).alloc (Oc #[.func (.func 83) #[] #[Vp w.1.size 0]] 156)).alloc (Oc #[.func (.func 76) #[] #[Vp w.1.size 0],.func (.func 78) #[] #[Vp w.1.size 0],.func (.func 74) #[] #[Vp w.1.size 0,Vp wr.1.size 0],.func (.func 74) #[] #[Vp w.1.size 0,Vp (wr.1.size+1) 0],.func (.func 74) #[] #[Vp w.1.size 0,Vp (wr.1.size+1+1) 0],.func (.func 82) #[] #[Vp (w.1.size+1) 0],.func (.func 74) #[] #[Vp w.1.size 0,Vp (wr.1.size+1+1+1) 0]] 72))=S at*;have m:∀W,Bz S W->PatB W w.1.size p:=fun W d=>⟨_,i.later d,f.mono d nLe⟩;intro r hr;rcases(show r=0∨r=1∨r=2∨r=3∨r=4∨r=5∨r=6 by omega)with rfl|rfl|rfl|rfl|rfl|rfl|rfl
    ·exact⟨76,_,z.cell 0,Tv,fun W d=>(TD l.out _ W (m W d)).mono fun _ _ h=>⟨h.1,h.2▸Below.refl _ _⟩⟩
    ·exact⟨78,_,z.cell 1,Tu,fun W d=>(TC l.out _ W (m W d)).mono fun _ _ h=>⟨h.1,h.2▸Below.refl _ _⟩⟩
    ·exact⟨74,_,z.cell 2,kM,fun W d=>CZ p _ 79 #[] Tt _ _ W (i.later d) (f.mono d nLe) (U.later d) (chk_so4 l.out W)⟩
    ·exact⟨74,_,z.cell 3,kM,fun W d=>CZ p _ 80 #[Vp w.1.size 0] Tr _ _ W (i.later d) (f.mono d nLe) (y1.later d) (chk_so5 l.out W _ fun X L=>m X (d.trans (L.mono d.size)))⟩
    ·exact⟨74,_,z.cell 4,kM,fun W d=>CZ p _ 81 #[] Tq _ _ W (i.later d) (f.mono d nLe) (y2.later d) (chk_so6 l.out W)⟩
    ·exact⟨82,_,z.cell 5,Tp,fun W d=>(TB _ W (by have:=H.later d;rw[a1.out]at this;exact this)).mono fun _ _ h=>⟨h.1,h.2▸Below.refl _ _⟩⟩
    ·exact⟨74,_,z.cell 6,kM,fun W d=>CZ p _ 83 #[Vp w.1.size 0] To _ _ W (i.later d) (f.mono d nLe) (y3.later d) (chk_so8 l.out W _)⟩
   ·exact j.trans ((((((Below.refl wr.1.size wr).alloc nLe (Oc #[.func (.func 79) #[] #[]] 156)).alloc (by simp) (Oc #[.func (.func 80) #[] #[Vp w.1.size 0]] 156)).alloc (by simp;omega) (Oc #[.func (.func 81) #[] #[]] 156)).alloc (by simp;omega) (Oc #[.func (.func 83) #[] #[Vp w.1.size 0]] 156)).alloc (by simp;omega) (Oc #[.func (.func 76) #[] #[Vp w.1.size 0],.func (.func 78) #[] #[Vp w.1.size 0],.func (.func 74) #[] #[Vp w.1.size 0,Vp wr.1.size 0],.func (.func 74) #[] #[Vp w.1.size 0,Vp (wr.1.size+1) 0],.func (.func 74) #[] #[Vp w.1.size 0,Vp (wr.1.size+1+1) 0],.func (.func 82) #[] #[Vp (w.1.size+1) 0],.func (.func 74) #[] #[Vp w.1.size 0,Vp (wr.1.size+1+1+1) 0]] 72) |>.mono j.size)
theorem Dj {P:Program} {Q:Exit->Act->World->Prop} {a:Act} {w:World} {c f:Code} (l:Nat) (J:Act->World->Prop) (μ:Act->World->Nat) (i:findLabel c l=some (Code.skip.seq f))
  (g:∀a w,J a w->f.wp P (Exit.jump l (fun b w'=>J b w'∧μ b w'<μ a w) Q) a w)
  (first:(∀a w,J a w->f.wp P (Exit.jump l J Q) a w)->c.wp P (Exit.jump l J Q) a w):(Code.scope c).wp P Q a w:=by
 refine wp_scope_jumps l J μ i (first fun a w h=>Code.wp_mono (fun e b w' d=>?_) (g a w h)) fun a w h=>wp_seq (wp_skip (g a w h));cases e<;>first|exact d|exact⟨d.1,d.2.1⟩
theorem J9 {l:Nat} {J:Act->World->Prop} {Q:Exit->Act->World->Prop} {a:Act} {w:World} (h:Q .ret a w):Exit.jump l J Q .ret a w:=h
def CJ (w:World) (v q:Value) (a:Act) (wr:World):Prop:=
 ∃(b:Nat) (c:World) (r:Nat) (x:Value),Q3 c b∧Bz c wr∧Bz w wr∧r<=7∧∃u6 u7 u8 u9 u10 u11 u12 u13 u14 u15 u16 u17 u18 u19 u20 u21 u22 u23 u24 u25 d:Value,
  a={tmps:=#[v,q,Vi r,x,Vi 0,Sq (some ⟨b,0,none⟩) 7 7,u6,u7,u8,u9,u10,u11,u12,u13,u14,u15,u16,u17,u18,u19,u20,u21,u22,u23,u24,u25,d],defers:=[]}
def cMu (a:Act):Nat:=7-(intOf (a.tmps.getD 2 undef)).toNat
theorem Gj (p:Pt) (n:PtOk p) (v:Value) (w:World) (O:PatV w v p):
  Cs 29 #[v] w (Rw w (.tuple #[Vi 0,Vi 0,Vi 0])):=by
 obtain⟨u,rfl,x⟩:=O;have i:=bA w (Oc #[u,Vi p.2] 25);have z:=Holds.fresh w 25 #[u,Vi p.2];obtain⟨B,C,-⟩:=z.g2;have s:=hiD (Bk p _ _ ⟨u,rfl,x.mono i nLe⟩ n.wf);rw[show ptB p=true by rw[n];decide]at s;have y:=hiD (fun W (k:Below (w.alloc (Oc #[u,Vi p.2] 25)).1.size (w.alloc (Oc #[u,Vi p.2] 25)) W)=>N6 p n (.agg #[u,Vi p.2]) W ⟨u,rfl,x.mono (i.trans (k.mono (by simp))) nLe⟩);clear x;go_enter func29,ntmps29;go_wp2_with fail;refine Dj 0 (CJ w (.agg #[u,Vi p.2]) (Vp w.1.size 0)) (fun a _=>cMu a) rfl ?_ fun f=>?_
 ·rintro a wr ⟨b,K,r,a8,m,h,j,A,u6,u7,u8,u9,P,Q,R,S,T,U,V,X,Z,a0,a1,a2,a3,a4,a5,a6,a7,rfl⟩;by_cases q:r<7
  ·obtain⟨g,N,c,M,d⟩:=m r q;have F:=qd h nLe c;have J:=hiD (d wr h);have L:=hiD m;clear c d m;go_wp2_with (go_at_fn g;refine J.out.mono ?_;rintro e t ⟨rfl,l⟩);apply wp_goto;refine⟨rfl,⟨b,K,r+1,_,L.out,h.trans (l.mono h.size),j.trans (l.mono j.size),by omega,_,_,_,_,_,_,_,_,_,_,_,_,_,_,_,_,_,_,_,_,_,rfl⟩,?_⟩;simp[cMu,intOf];omega
  ·obtain rfl:r=7:=by omega
   go_wp2_with fail;refine J9 ?_
   go_ret3
   exact⟨rfl,j⟩
 ·have I:=hiD f;clear f;go_wp2_with fail;refine s.out.mono ?_;rintro r t ⟨rfl,k⟩;have E:=z.later k;obtain⟨B,C,-⟩:=E.g2;go_wp2_with fail;refine(y.out _ k).mono ?_;rintro r D ⟨b,rfl,m,o⟩;go_wp2_with fail;refine wp_label ?_;rename_i H;exact H _ _ (I.out _ _ ⟨b,D,0,_,m,Below.refl _ _,(i.trans (k.mono (by simp))).trans (o.mono (by have:=k.size;simp at this;omega)),jg _,_,_,_,_,_,_,_,_,_,_,_,_,_,_,_,_,_,_,_,_,_,rfl⟩)
theorem yZ (p:Pt) (f:PtOk p) (v:Value) (w:World) (g:PatV w v p):
  Cs 154 #[v] w (Rw w (Vb true)):=by
 obtain⟨u,rfl,e⟩:=g;have a:=bA w (Oc #[u,Vi p.2] 25);have c:=hiD (Gj p f (.agg #[u,Vi p.2]) _ ⟨u,rfl,e.mono a nLe⟩);clear e;go_enter func154,ntmps154;go_wp2_with fail;refine c.out.mono ?_;rintro r d ⟨rfl,b⟩;go_wp2_with fail;go_ret;exact⟨rfl,a.trans (b.mono (by simp))⟩
theorem Qc {p:Pt} (n:PtOk p) (v:Value) (w:World) (s:qN w v p.1):Cs 367 #[v] w fun e w'=>e=Rt (Vi 1)∧w'=w:=by
 obtain⟨b,x,c,m,u,q,j,r,t,o,g,rfl,f,a,-,l,-⟩:=vP s (k:=1) (by rw[n.len];omega);obtain⟨-,-,-,-,d⟩:=s.form;rcases st_two n a with⟨h,_⟩|⟨_,e⟩
 ·cases h
 cases e;rw[n.len]at*;clear s a n;go_enter func367,ntmps367;go_wp2_with fail;go_loopw [3] (fun i wr=>i=Vi 1∧wr=w) (fun _ _=>0);case atStart=>exact⟨rfl,rfl⟩
 case round=>
  obtain⟨rfl,rfl⟩:=hrel;go_wp2_with fail;go_ret;exact⟨rfl,rfl⟩
theorem Qd {p:Pt} (i:PtOk p) (v:Value) (w:World) (l:PatV w v p):Cs 341 #[v] w (Rw w (Vi 0)):=by
 obtain⟨u,rfl,j⟩:=l;have b:=bA w (Oc #[u,Vi p.2] 25);have z:=Holds.fresh w 25 #[u,Vi p.2];have c:=j.mono b nLe;have f:=hiD (fun q=>Qc i u ((w.alloc (Oc #[u,Vi p.2] 25)).drewN q) (c.mono (qp _ _ q) nLe));obtain⟨a,k,rfl,d,e⟩:=j.form;rw[i.len]at*;clear j c i;go_enter func341,ntmps341;go_wp2_with fail;generalize w.alloc (Oc #[Sq a 2 k,Vi p.2] 25)=W at*;have g:=z.cell 0;simp at g;go_quiet (exact Calls.quiet_of_same (f.out _));go_wp2_with fail;go_ret;exact⟨rfl,b.trans (qp _ _ _)⟩
theorem qN.sub {w:World} {b A n c:Nat} {B:List St} (h:qN w (Sq (some ⟨b,A,none⟩) n c) B) (i j:Nat) (D:i<=j) (E:j<=B.length):qN w (Sq (some ⟨b,A+i*6,none⟩) (j-i) (c-i)) ((B.take j).drop i):=by
 obtain⟨a,y,e,z,t,s,g⟩:=h;injection e with e1 e2 e3;subst e1 e2 e3;have d:((B.take j).drop i).length=j-i:=by rw[jj,jb];omega
 refine⟨some (Ad b (A+i*6)),c-i,by rw[d],by rw[d];omega,by rw[d];omega,(fun e=>nomatch e),?_⟩;rcases g with rfl|⟨r,k,e,g⟩
 ·exact .inl (by simp)
 ·cases e;refine .inr ⟨b,A+i*6,rfl,fun q x f=>?_⟩;rw[List.getElem?_drop]at f;have p:i+q<j:=by have:=(jG.1 f).1;rw[jb]at this;omega
  rw[List.getElem?_take_of_lt p]at f;obtain⟨v,C,o⟩:=g (i+q) x f;refine⟨v,C,fun m u l=>?_⟩;have:=o m u l;rw[show A+i*6+q*6+m=A+(i+q)*6+m by rw[Nat.add_mul];omega];exact this
theorem FJ {p:Pt} (R:PtOk p) (a c:Nat) (S:a<=c) (T:c<=p.1.length) (v:Value) (w:World) (V:PatV w v p):
  Cs 340 #[v,Vi a,Vi c] w (Rw w Vn):=by
 obtain⟨u,rfl,n⟩:=V;have j:=bA w (Oc #[u,Vi p.2] 25);have a8:=Holds.fresh w 25 #[u,Vi p.2];have d:=n.mono j nLe;have Z:=hiD R;obtain⟨a6,z,rfl,K,Q⟩:=n.form;rcases Nat.lt_or_ge a c with M|N
 ·obtain⟨b,X,a7,ng,kd,mn,mx,sr,cs,ca,cc,y,-⟩:=vP n (show 0<p.1.length by omega);cases y;have x:=hiD (d.sub a c S T);have H:((p.1.take c).drop a).length=c-a:=by rw[jj,jb];omega
  have U:=hiD (fun s (h:s∈(p.1.take c).drop a)=>R.all (List.mem_of_mem_take (List.mem_of_mem_drop h)));generalize (p.1.take c).drop a=L at*;have a1:¬z=a:=by omega
  clear n d R;go_enter func340,ntmps340;go_wp2_with fail;generalize w.alloc (Oc #[Vs b X p.1.length z,Vi p.2] 25)=W at*;go_loopw [6,7,8,15] (fun o _ _ i wr=>o=Vn∧∃(k:Nat),k<=c-a∧i=Vi k∧Bz w wr∧Bz W wr) (fun _ _ _ i _=>c-a-(intOf i).toNat);case atStart=>exact⟨rfl,0,jg _,rfl,j,Below.refl _ _⟩
  case round=>
   obtain⟨rfl,k,hk,rfl,F,f⟩:=hrel;by_cases a0:k<c-a
   ·obtain⟨a3,O,c',A,l,t,g,q,B,m,r,y,P,J,-,a5,p1,p2,p3,a4,p5⟩:=vP (x.out.mono f nLe) (show k<L.length by omega);rw[H]at y;cases y;obtain rfl:A=false:=by rcases U.out _ (jY J)with e|e<;>cases e<;>rfl
    clear J;generalize B.length=I at*;have D:=F.alloc F.size (Oc #[Vb false,Vi l,Vi t,Vi g,Vb q,Sq m I r] 63);have E:=f.alloc f.size (Oc #[Vb false,Vi l,Vi t,Vi g,Vb q,Sq m I r] 63);go_wp2_with fail;go_roundw;case rel=>exact⟨rfl,k+1,by omega,by go_num,D,E⟩
    case measure=>simp[intOf];omega
   ·go_wp2_with fail;go_ret;exact⟨rfl,F⟩
 ·obtain rfl:a=c:=by omega
  clear n d;by_cases a2:z=a
  all_goals
   go_enter func340,ntmps340;go_wp2_with fail;go_loopw [6,7,8,15] (fun o _ _ i wr=>o=Vn∧i=Vi 0∧Bz w wr) (fun _ _ _ _ _=>0);case atStart=>exact⟨rfl,rfl,bA w _⟩
   case round=>
    obtain⟨rfl,rfl,C⟩:=hrel;go_wp2_with fail;go_ret;exact⟨rfl,C⟩
theorem KJ {p:Pt} (n:PtOk p) (v:Value) (w:World) (I:PatV w v p):
  Cs 314 #[v] w (Rw w Vn):=by
 obtain⟨u,rfl,E⟩:=I;have f:=bA w (Oc #[u,Vi p.2] 25);have z:=Holds.fresh w 25 #[u,Vi p.2];have c:∀W,Below (w.alloc (Oc #[u,Vi p.2] 25)).1.size (w.alloc (Oc #[u,Vi p.2] 25)) W->PatV W (.agg #[u,Vi p.2]) p:=fun W b=>⟨u,rfl,E.mono (f.trans (b.mono (by simp))) nLe⟩;have t:=hiD (yZ p n _ _ (c _ bRf));have o:=hiD (fun W h=>Qd n (.agg #[u,Vi p.2]) W (c W h));have s:=hiD (fun W h=>FJ n 2 2 nLe (by rw[n.len];omega) (.agg #[u,Vi p.2]) W (c W h));obtain⟨a,H,rfl,l,m⟩:=E.form;rw[n.len]at*;clear E c n;go_enter func314,ntmps314;go_wp2_with fail;refine t.out.mono ?_;rintro r d ⟨rfl,b⟩;have k:=z.later b;have A:∀x:Lat d,Cq x.v w.1.size 0 (Sq a 2 H):=fun x=>x.cell (k.cell 0);have B:∀x:Lat d,Cq x.v w.1.size 1 (Vi p.2):=fun x=>x.cell (k.cell 1);have q:=hiD (fun F (D:Bz d F)=>(o.out F (b.trans (D.mono b.size))).mono (fun e w' h=>(⟨h.1,D.trans (h.2.mono D.size)⟩:e=Rt (Vi 0)∧Bz d w')));go_wp2_with fail;refine xO d 10 (by kernel_rfl) (by kernel_rfl) bRf ?_;simp only[jm,dF,dE,ju]
 repeat (go_big_quiet_step (first|with_reducible exact Lat.call q.out _))
 refine wpQuiet_nil ?_;rintro _ ⟨⟨y,g⟩,rfl⟩;go_wp2_with fail;refine(s.out _ (b.trans (g.mono b.size))).mono ?_;rintro r C ⟨rfl,j⟩;go_wp2_with fail;go_ret;have i:=f.trans ((b.trans (g.mono b.size)).mono (by simp));exact⟨rfl,i.trans (j.mono i.size)⟩
end
end Go.Proofs.YtnmpcdnbklmhkaaGreatDoor
