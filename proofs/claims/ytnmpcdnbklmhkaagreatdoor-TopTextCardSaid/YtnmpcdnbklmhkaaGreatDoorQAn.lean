import Derived.Test.YtnmpcdnbklmhkaaGreatDoorQAe
import Derived.Test.YtnmpcdnbklmhkaaGreatDoorQAk
namespace Go.Proofs.YtnmpcdnbklmhkaaGreatDoor
open Go.Proofs.Tryz Go.RowKit
set_option maxRecDepth 100000
set_option maxHeartbeats 8000000
section
attribute [local go_sem] Oper.semAt_some
attribute [local go_sem ↓] Go.wp_at_zero Go.wp_at_succ
theorem B4 {α:Type} (p:α->Bool):∀l:List α,placeN p l=l.findIdx p
 |[]=>rfl
 |x::l=>by
   rw[placeN,B4 p l,List.findIdx_cons];cases p x<;>simp
theorem O3 {α:Type} (p:α->Bool) (l:List α) (h:0<=firstI p l):(placeN p l:Int)=firstI p l:=by
 rw[B4];unfold firstI at*;split at h
 ·rename_i e;rw[if_pos e]
 ·omega
theorem Sa {α:Type} (p:α->Bool) (l:List α) (h:firstI p l<0):placeN p l=l.length:=by
 rw[B4];unfold firstI at h;split at h
 ·omega
 ·rename_i e;rw[List.findIdx_eq_length];intro x a;have:=(List.any_eq_false.1 (Bool.eq_false_iff.2 e)) x a;simpa using this
theorem JP (g:Nat) (q:Array Value) (u:∀r w,(callFunc g r).run prog w= .ok (.enter g r) w) (p:Ev->Bool) (s:List Ev) (v:Value) (w:World) (n:RowV 5 evV w v s)
  (t:∀(i:Nat) (x:Ev),s[i]?=some x->∀W,Bz w W->Cs g (#[evA x]++q) W fun e w'=>e=Rt (Vb (p x))∧Bz W w'):
  Cs 325 #[v,.func (.func g) #[] q] w (Rw w (Vi (placeN p s))):=by
 have j:=UF evV (fun _=>rfl) g q u p s v w n t;obtain⟨a,z,rfl,k⟩:=n.form;have f:=O3 p s;have c:=Sa p s;generalize firstI p s=x at*;generalize placeN p s=y at*;have l:=hiD j;clear j t n;generalize s.length=m at*;rcases(show 0<=x∨x<0 by omega)with d|d
 ·have h:=hiD (f d);clear f c;go_enter func325,ntmps325;go_wp2_with fail;refine l.out.mono ?_;rintro e o ⟨rfl,b⟩;go_wp2_with fail;go_ret;exact⟨by rw[h.out];rfl,b⟩
 ·have h:=hiD (c d);clear f c;go_enter func325,ntmps325;go_wp2_with fail;refine l.out.mono ?_;rintro e o ⟨rfl,b⟩;go_wp2_with fail;go_ret;exact⟨by rw[h.out];rfl,b⟩
theorem LY:En0 326:=enters_of func326 rfl rfl
theorem Iv:En0 343:=enters_of func343 rfl rfl
theorem GA:En0 345:=enters_of func345 rfl rfl
theorem LZ:En0 303:=enters_of func303 rfl rfl
theorem Jj:En0 249:=enters_of func249 rfl rfl
theorem RU (x e:Ev) (B:Nat) (w:World) (n:Holds w B 36 (evV e).toArray):Cs 326 #[evA x,Vp B 0] w fun r w'=>r=Rt (Vb (!lessE x e))∧Bz w w':=by
 have i:=hiD (fun w=>yN x e w);generalize lessE x e=b at*;obtain⟨C,A,y,t,u,j⟩:=x;obtain⟨k,c,a,f,g,h⟩:=e;simp only[evA,evV]at*;have z:=n.alloc (Oc #[Vi C,Vi A,Vi y,Vi t,Vc u j] 36);obtain⟨p,s,o,m,q,-⟩:=z.g5;go_enter func326,ntmps326;go_wp2_with fail;refine(i.out _).mono ?_;rintro r l ⟨rfl,d⟩;go_wp2_with fail;go_ret;exact⟨rfl,bB.trans (d.mono (by simp))⟩
theorem MI (x e:Ev) (B:Nat) (w:World) (n:Holds w B 36 (evV e).toArray):Cs 343 #[evA x,Vp B 0] w fun r w'=>r=Rt (Vb (lessE e x))∧Bz w w':=by
 have i:=hiD (fun w=>yN e x w);generalize lessE e x=b at*;obtain⟨C,A,y,t,u,j⟩:=x;obtain⟨k,c,a,f,g,h⟩:=e;simp only[evA,evV]at*;have z:=n.alloc (Oc #[Vi C,Vi A,Vi y,Vi t,Vc u j] 36);obtain⟨p,s,o,m,q,-⟩:=z.g5;go_enter func343,ntmps343;go_wp2_with fail;refine(i.out _).mono ?_;rintro r l ⟨rfl,d⟩;go_wp2_with fail;go_ret;exact⟨rfl,bB.trans (d.mono (by simp))⟩
theorem Ld (x e f:Ev) (B D:Nat) (w:World) (Z:Holds w B 36 (evV e).toArray) (X:Holds w D 36 (evV f).toArray):Cs 345 #[evA x,Vp B 0,Vp D 0] w fun r w'=>r=Rt (Vb (lessE e x&&lessE x f))∧Bz w w':=by
 have l:=hiD (fun w=>yN e x w);have o:=hiD (fun w=>yN x f w);generalize lessE e x=b at*;generalize lessE x f=c at*;obtain⟨U,T,y,n,u,g⟩:=x;obtain⟨a2,k,j,p,q,v⟩:=e;obtain⟨a0,i,h,s,a1,t⟩:=f;simp only[evA,evV]at*;have z:=Z.alloc (Oc #[Vi U,Vi T,Vi y,Vi n,Vc u g] 36);have V:=X.alloc (Oc #[Vi U,Vi T,Vi y,Vi n,Vc u g] 36);have W:=Holds.fresh w 36 #[Vi U,Vi T,Vi y,Vi n,Vc u g];obtain⟨F,I,M,A,O,-⟩:=z.g5;cases b
 ·go_enter func345,ntmps345;go_wp2_with fail;refine(l.out _).mono ?_;rintro r m ⟨rfl,a⟩;go_wp2_with fail;go_ret;exact⟨rfl,bB.trans (a.mono (by simp))⟩
 ·go_enter func345,ntmps345;go_wp2_with fail;refine(l.out _).mono ?_;rintro r m ⟨rfl,a⟩;replace V:=V.later a;replace W:=W.later a;obtain⟨H,P,S,N,E,-⟩:=V.g5;obtain⟨J,K,C,R,Q,-⟩:=W.g5;go_wp2_with fail;refine(o.out _).mono ?_;rintro r L ⟨rfl,d⟩;go_wp2_with fail;go_ret;exact⟨rfl,(bB.trans (a.mono (by simp))).trans (d.mono (by have:=a.size;simp at this;omega))⟩
theorem RV (x:Ev) (t:Int) (B:Nat) (w:World) (c:Holds w B 3 #[Vi t]):Cs 303 #[evA x,Vp B 0] w fun r w'=>r=Rt (Vb (decide (t<=x.ts)))∧Bz w w':=by
 obtain⟨i,g,f,d,e,a⟩:=x;simp only[evA,evV]at*;have z:=c.alloc (Oc #[Vi i,Vi g,Vi f,Vi d,Vc e a] 36);have b:=z.cell 0;simp at b;go_enter func303,ntmps303;go_wp2_with fail;go_ret;exact⟨rfl,bB⟩
theorem qR (W:World) (c:List Value) (t:TypeId) (j:Nat) (u:Value) (d:c[j]?=some u):(W.alloc (Oc c.toArray t)).cell? ((⟨W.1.size,0,none⟩:Addr).add j)=some u:=by
 have a:(W.alloc (Oc c.toArray t)).1[W.1.size]?=some (Oc c.toArray t):=dB W _;have e:((Ad W.1.size 0):Addr).add j=(Ad W.1.size j):=by unfold Addr.add;split<;>simp_all
 rw[e,cell_of_row _ _ _ _ _ _ a];simpa using d
theorem Holds.sets5 {w:World} {b t:Nat} {g i j k l:Value} (h:Holds w b t #[g,i,j,k,l]) (a c d e f:Value):
  Holds (((((w.setCell ⟨b,0,none⟩ a).setCell ⟨b,1,none⟩ c).setCell ⟨b,2,none⟩ d).setCell ⟨b,3,none⟩ e).setCell ⟨b,4,none⟩ f) b t #[a,c,d,e,f]:=by
 have:=((((h.set 0 a).set 1 c).set 2 d).set 3 e).set 4 f;simpa using this
theorem Below.sets5 {c b:Nat} {j w:World} (h:Below c j w) (a:c<=b) (d e f g i:Value):
  Below c j (((((w.setCell ⟨b,0,none⟩ d).setCell ⟨b,1,none⟩ e).setCell ⟨b,2,none⟩ f).setCell ⟨b,3,none⟩ g).setCell ⟨b,4,none⟩ i):=
 ((((h.setCell (p:=Ad b 0) a d).setCell (p:=Ad b 1) a e).setCell (p:=Ad b 2) a f).setCell (p:=Ad b 3) a g).setCell (p:=Ad b 4) a i
theorem qE {e E k n:Nat} {v:Value} {f:List Value} {w:World} (h:w.ownsRow e E k v n f):∀b,v.ownBlock=some b->e<=b:=fun b a=>by
 rcases h.2 with⟨rfl,_⟩|⟨g,i,c,rfl,d,_⟩
 ·cases a
 ·cases a;exact d
theorem yV {a c E k n:Nat} {v:Value} {d:List Value} {w:World} (h:w.ownsRow a E k v n d) (m:c<=a):w.ownsRow c E k v n d:=
 ⟨h.1,h.2.imp id fun ⟨g,f,i,e,j,l⟩=>⟨g,f,i,e,jS m j,l⟩⟩
theorem zD {a E k n:Nat} {v:Value} {c:List Value} {w w':World} (h:w.ownsRow a E k v n c) (d:Bz w w'):w'.ownsRow a E k v n c:=h.kept (Aw d) (Classical.em _)
theorem MH (g:Nat) (Q:Array Value) (eg:∀S w,(callFunc g S).run prog w= .ok (.enter g S) w) (p:Ev->Bool) (s:List Ev) (v:Value) (w:World) (P:RowV 5 evV w v s) (ag:s.length<=1000000)
  (U:∀(i:Nat) (x:Ev),s[i]?=some x->∀W,Bz w W->Cs g (#[evA x]++Q) W fun e w'=>e=Rt (Vb (p x))∧Bz W w'):
  Cs 302 #[v,.func (.func g) #[] Q] w fun e w'=>∃T,e=Rt T∧w'.ownsRow w.1.size 36 5 T (s.filter p).length ((s.filter p).flatMap evV)∧Bz w w':=by
 obtain⟨i0,hi,a4,a3,a2⟩:=iP36;obtain⟨a7,ae,rfl,ac⟩:=id P.form;have key:∀(k:Nat) (W:World),Bz w W->k<s.length->∃b u o n h a c d,a7=some (Ad b u)∧s[k]?=some (⟨o,n,h,a,c,d⟩:Ev)∧
   (∀W,Bz w W->Cs g (#[.agg #[Vi o,Vi n,Vi h,Vi a,Vc c d]]++Q) W fun e w'=>e=Rt (Vb (p ⟨o,n,h,a,c,d⟩))∧Bz W w')∧
   Cq W b (u+k*5) (Vi o)∧Cq W b (u+k*5+1) (Vi n)∧Cq W b (u+k*5+2) (Vi h)∧Cq W b (u+k*5+3) (Vi a)∧Cq W b (u+k*5+4) (Vc c d):=by
  intro k W F M;obtain⟨b,u,ad,e,_,H⟩:=(P.later F).get (jB M);cases e;have l:=U k _ (jB M);obtain⟨x,N⟩:=xR (s[k]);rw[N]at H l;obtain⟨o,n,h,a,c,d⟩:=x;exact⟨b,u,o,n,h,a,c,d,rfl,by rw[<-N];exact jB M,l,by simpa using H 0 _ rfl,by simpa using H 1 _ rfl,by simpa using H 2 _ rfl,by simpa using H 3 _ rfl,by simpa using H 4 _ rfl⟩
 have r:∀(k:Nat) (x:Ev),s[k]?=some x->((s.take (k+1)).filter p)=(s.take k).filter p++(if p x=true then [x]else []):=fun k x N=>by
  rw[List.take_add_one,N,List.filter_append];cases a8:p x<;>simp[a8]
 have f:∀k,((s.take k).filter p).length<=k:=fun k=>jS (List.length_filter_le _ _) (by simp;omega);have B:(s.take s.length).filter p=s.filter p:=by rw[jn]
 have a6:=hiD key;clear key;have HS:=hiD r;clear r;have HL:=hiD f;clear f;have Z:=hiD B;clear B P U;generalize s.length=m at*;have ah:=hst1;go_enter func302,ntmps302;go_wp2_with fail;go_loopw [4,6,9] (fun a9 _ i wr=>∃(k:Nat),k<=m∧i=Vi k∧wr.ownsRow w.1.size 36 5 a9 ((s.take k).filter p).length (((s.take k).filter p).flatMap evV)∧Bz w wr) (fun _ _ i _=>m-(intOf i).toNat);case atStart=>exact⟨0,jg _,rfl,js _ _ _ _,Below.refl _ _⟩
 case round=>
  obtain⟨k,M,rfl,K,F⟩:=hrel;by_cases a1:k<m
  ·obtain⟨b,u,o,n,h,a,c,d,rfl,J,t,p0,p1,p2,p3,p4⟩:=a6.out k wr F a1;have A:=HS.out k _ J;have hn:=HL.out k;clear J;have q:=(F.alloc F.size (Oc #[Vi o,Vi n,Vi h,Vi a,Vc c d] 36));have R:=hiD (t _ q);clear t;have z:=Holds.fresh wr 36 #[Vi o,Vi n,Vi h,Vi a,Vc c d];have y:=K.alloc (Oc #[Vi o,Vi n,Vi h,Vi a,Vc c d] 36);generalize l:p ⟨o,n,h,a,c,d⟩=px at*;have ab:=hiD l;clear l;cases px
   ·have C:=hiD A;clear A;go_wp2_with (go_at_fn g;refine R.out.mono ?_;rintro e O ⟨rfl,j⟩);go_roundw;case rel=>
     refine⟨k+1,by omega,by go_num,?_,q.trans (j.mono q.size)⟩;rw[C.out];simpa using zD y j
    case measure=>simp[intOf];omega
   ·have C:=hiD A;clear A;generalize X:(s.take k).filter p=L at*;have aa:=hiD X;clear X;go_wp2_with (first
     |(go_at_fn g;refine R.out.mono ?_;rintro e O ⟨rfl,j⟩;replace z:=z.later j;replace y:=zD y j;have s0:=z.cell 0;have s1:=z.cell 1;have s2:=z.cell 2;have s3:=z.cell 3;have s4:=z.cell 4;simp at s0 s1 s2 s3 s4;have D:=q.trans (j.mono q.size);have af:=D.size;have I:=y.alloc (Oc #[Vi o,Vi n,Vi h,Vi a,Vc c d] 36))
     |(at_builtin;refine wpList_append_own _ rfl (.tmp 16) (.tmp 18) 112 rfl w.1.size 36 i0 _ 5 48 underlying112 hi a4 a3 a2 rfl (by decide) _ L.length (L.flatMap evV) rfl I (Ad O.1.size 0) 1 1 [Vi o,Vi n,Vi h,Vi a,Vc c d] rfl rfl ?c1 ?c2 ?c3 ?c4 (by simp;omega) ?_))
    case c1=>exact qR O [Vi o,Vi n,Vi h,Vi a,Vc c d] 36
    case c2=>
     intro ai V;simp only[jI,jH,or_false]at V;rcases V with rfl|rfl|rfl|rfl|rfl<;>rfl
    case c3=>unfold maxLen;omega
    case c4=>omega
    intro T w2 a0 E _;have a5:Bz w w2:=(D.alloc D.size _).grown E (by simp;omega) (qE I);go_wp2_with fail;go_roundw;case rel=>
     refine⟨k+1,by omega,by go_num,?_,a5⟩;rw[C.out];simpa[evV]using a0
    case measure=>simp[intOf];omega
  ·obtain rfl:k=m:=by omega
   go_wp2_with fail;go_ret;rw[Z.out]at K;exact⟨_,rfl,K,F⟩
theorem Ud (t:Int) (s:List Ev) (v:Value) (w:World) (n:RowV 5 evV w v s) (o:s.length<=1000000):
  Cs 268 #[v,Vi t] w fun e w'=>∃c,e=Rt c∧w'.ownsRow w.1.size 36 5 c (s.filter fun x=>decide (t<=x.ts)).length ((s.filter fun x=>decide (t<=x.ts)).flatMap evV)∧Bz w w':=by
 have h:=hmf1;have b:=bA w (Oc #[Vi t] 3);have f:=MH 303 #[Vp w.1.size 0] LZ (fun x=>decide (t<=x.ts)) s v (w.alloc (Oc #[Vi t] 3)) (n.later b) o
  (fun i x l W d=>RV x t w.1.size W (((Holds.fresh w 3 #[Vi t])).later d))
 obtain⟨a,q,rfl,g⟩:=id n.form;generalize (s.filter fun x=>decide (t<=x.ts))=L at*;have j:=hiD f;clear f n;generalize s.length=m at*;go_enter func268,ntmps268;go_wp2_with fail;refine j.out.mono ?_;rintro e k ⟨c,rfl,p,d⟩;go_wp2_with fail;go_ret;exact⟨c,rfl,yV p (by simp),b.trans (d.mono (by simp))⟩
theorem MJ (e f:Ev) (s:List Ev) (v:Value) (w:World) (n:RowV 5 evV w v s) (E:s.length<=1000000):
  Cs 318 #[v,evA e,evA f] w fun r w'=>∃g,r=Rt g∧w'.ownsRow w.1.size 36 5 g (betweenE s e f).length ((betweenE s e f).flatMap evV)∧Bz w w':=by
 have u:=hmf1;have c:=(bA w (Oc (evV e).toArray 36)).alloc (by simp) (Oc (evV f).toArray 36);have h:=(Holds.fresh w 36 (evV e).toArray).alloc (Oc (evV f).toArray 36);have D:=Holds.fresh' (w:=w.alloc (Oc (evV e).toArray 36)) (b:=w.1.size+1) (by simp) 36 (evV f).toArray;have j:=MH 345 #[Vp w.1.size 0,Vp (w.1.size+1) 0] GA (fun x=>lessE e x&&lessE x f) s v ((w.alloc (Oc (evV e).toArray 36)).alloc (Oc (evV f).toArray 36)) (n.later c) E
  (fun i x B W d=>Ld x e f w.1.size (w.1.size+1) W (h.later d) (D.later d))
 unfold betweenE;obtain⟨a,H,rfl,l⟩:=id n.form;generalize (s.filter fun x=>lessE e x&&lessE x f)=L at*;have p:=hiD j;clear j n h D;obtain⟨N,M,K,I,J,C⟩:=e;obtain⟨z,o,k,q,t,y⟩:=f;simp only[evA,evV]at p c⊢;generalize s.length=m at*;go_enter func318,ntmps318;go_wp2_with fail;refine p.out.mono ?_;rintro e A ⟨g,rfl,F,d⟩;go_wp2_with fail;go_ret;exact⟨g,rfl,yV F (by simp;omega),c.trans (d.mono (by simp;omega))⟩
theorem yq {s:List Ev} {w:World} {v:Value} (p:RowV 5 evV w v s) {k:Nat} (o:k<s.length):∃b g c n m l i j d,v=Sq (some ⟨b,g,none⟩) s.length c∧s.length<=c∧s[k]?=some (⟨n,m,l,i,j,d⟩:Ev)∧
   w.cell? ⟨b,g+k*5,none⟩=some (Vi n)∧w.cell? ⟨b,g+k*5+1,none⟩=some (Vi m)∧w.cell? ⟨b,g+k*5+2,none⟩=some (Vi l)∧w.cell? ⟨b,g+k*5+3,none⟩=some (Vi i)∧w.cell? ⟨b,g+k*5+4,none⟩=some (Vc j d):=by
 obtain⟨b,g,c,e,h,a⟩:=p.get (jB o);obtain⟨x,f⟩:=xR (s[k]);rw[f]at a;obtain⟨n,m,l,i,j,d⟩:=x;exact⟨b,g,c,n,m,l,i,j,d,e,h,by rw[<-f];exact jB o,by simpa using a 0 _ rfl,by simpa using a 1 _ rfl,by simpa using a 2 _ rfl,by simpa using a 3 _ rfl,by simpa using a 4 _ rfl⟩
theorem B2 (e:Ev) (s:List Ev) (v:Value) (w:World) (a:RowV 5 evV w v s):
  Cs 292 #[v,evA e] w fun r w'=>r=Rt (.tuple #[Vi (findN s e),Vb (hasE s e)])∧Bz w w':=by
 have a2:=hmf1;have h:=bA w (Oc (evV e).toArray 36);have p:=(Holds.fresh w 36 (evV e).toArray);have l:=JP 326 #[Vp w.1.size 0] LY (fun x=>!lessE x e) s v (w.alloc (Oc (evV e).toArray 36)) (a.later h)
  (fun aa x q W f=>RU x e w.1.size W (p.later f))
 have k:=a.later h;have R:=fun W=>Go.Calls.rel (fun w=>kP e w) W;change Calls _ _ _ _ fun r w'=>r=Rt (Vi (findN s e))∧_ at l;have a1:findN s e<=s.length:=Cu _ _;unfold hasE;by_cases y:findN s e<s.length
 ·obtain⟨b,Q,U,O,d,c,a0,B,A,rfl,o,q,E,I,J,H,D⟩:=yq k y;rw[q];clear q;have S:=fun W=>Go.Calls.rel (fun w=>kP (⟨O,d,c,a0,B,A⟩:Ev) w) W;have t:=a.small;generalize findN s e=n at*;generalize s.length=m at*;obtain⟨N,z,i,V,Z,P⟩:=e;simp only[evA,evV,keyB]at*;have a7:∀w,(Op.equalIn 10000 152 (.agg #[Vi O,Vi d,Vi c]) (.agg #[Vi N,Vi z,Vi i])).run prog w= .ok (O==N&&(d==z&&c==i)) w:=fun w=>
   xZ 9998 152 3 underlying152 underlying3 sizeOf3 isAgg3 O d c N z i w
  have F:(decide (O=N)&&decide (d=z)&&decide (c=i))=(O==N&&(d==z&&c==i)):=by rw[Bool.and_assoc];rfl
  rw[F];clear F;generalize (O==N&&(d==z&&c==i))=X at*;have C:=hiD l;clear l a k;go_enter func292,ntmps292;go_wp2_with fail;refine C.out.mono ?_;rintro r g ⟨rfl,f⟩;replace p:=p.later f;obtain⟨a4,a5,a6,a3,a8,-⟩:=p.l5;replace E:∀u:Lat g,u.v.cell? (Ad b (Q+n*5))=_:=fun u=>u.cell (qd f nLe E);replace I:∀u:Lat g,u.v.cell? (Ad b (Q+n*5+1))=_:=fun u=>u.cell (qd f nLe I);replace J:∀u:Lat g,u.v.cell? (Ad b (Q+n*5+2))=_:=fun u=>u.cell (qd f nLe J);replace H:∀u:Lat g,u.v.cell? (Ad b (Q+n*5+3))=_:=fun u=>u.cell (qd f nLe H);replace D:∀u:Lat g,u.v.cell? (Ad b (Q+n*5+4))=_:=fun u=>u.cell (qd f nLe D);have K:=hiD (S g);have M:=hiD (R g);clear S R p;go_wp2_with fail;refine qz g (by kernel_rfl) (by kernel_rfl) bRf ?_
  repeat (go_big_quiet_step (first|with_reducible exact Lat.call K.out _|with_reducible exact Lat.call M.out _))
  refine wpQuiet_nil ?_;rintro _ ⟨⟨L,j⟩,rfl⟩;go_wp2_with fail;go_ret2;exact⟨rfl,h.trans ((f.trans (j.mono f.size)).mono (by simp))⟩
 ·obtain⟨a9,U,rfl,o⟩:=id a.form;have T:s[findN s e]?=none:=List.getElem?_eq_none (by omega);rw[T];clear T;have t:=a.small;generalize findN s e=n at*;generalize s.length=m at*;obtain rfl:n=m:=by omega
  obtain⟨N,z,i,V,Z,P⟩:=e;simp only[evA,evV]at*;have C:=hiD l;clear l a k R;go_enter func292,ntmps292;go_wp2_with fail;refine C.out.mono ?_;rintro r g ⟨rfl,f⟩;go_wp2_with fail;refine qz g (by kernel_rfl) (by kernel_rfl) bRf ?_
  repeat (go_big_quiet_step (fail))
  refine wpQuiet_nil ?_;rintro _ ⟨⟨L,j⟩,rfl⟩;go_wp2_with fail;go_ret2;exact⟨rfl,h.trans ((f.trans (j.mono f.size)).mono (by simp))⟩
theorem OS (e:Ev) (s:List Ev) (v:Value) (w:World) (i:RowV 5 evV w v s):
  Cs 316 #[v,evA e] w fun r w'=>r=Rt (.tuple #[evA ((Db s e).getD ev0),Vb (Db s e).isSome])∧Bz w w':=by
 have a3:=hmf1;have g:=(bA w (Oc (evV e).toArray 36)).alloc (by simp) (Oc (evV ev0).toArray 36);have z:=(Holds.fresh w 36 (evV e).toArray).alloc (Oc (evV ev0).toArray 36);have a:=Holds.fresh' (w:=w.alloc (Oc (evV e).toArray 36)) (b:=w.1.size+1) (by simp) 36 (evV ev0).toArray;have q:=JP 343 #[Vp w.1.size 0] Iv (fun x=>lessE e x) s v ((w.alloc (Oc (evV e).toArray 36)).alloc (Oc (evV ev0).toArray 36)) (i.later g)
  (fun a5 x t W c=>MI x e w.1.size W (z.later c))
 have l:=i.later g;have a2:=hst1;have a1:=Cu (fun x=>lessE e x) s;unfold Db;by_cases a0:placeN (fun x=>lessE e x) s<s.length
 ·obtain⟨b,a6,R,y,f,d,j,o,k,rfl,p,t,C,E,F,D,B⟩:=yq l a0;rw[t];clear t;have u:=i.small;generalize placeN (fun x=>lessE e x) s=n at*;generalize s.length=m at*;obtain⟨Z,X,V,T,U,S⟩:=e;simp only[evA,evV,ev0]at*;have A:=hiD q;clear q i l z;go_enter func316,ntmps316;go_wp2_with fail;refine A.out.mono ?_;rintro r H ⟨rfl,c⟩;replace a:=a.later c;obtain⟨K,L,O,I,P,J,N⟩:=a.g5;replace C:=qd c nLe C;replace E:=qd c nLe E;replace F:=qd c nLe F;replace D:=qd c nLe D;replace B:=qd c nLe B;go_wp2_with fail;have h:=g.trans (c.mono (by simp;omega));have M:=(Holds.sets5 a (Vi y) (Vi f) (Vi d) (Vi j) (Vc o k)).sets5 (Vi y) (Vi f) (Vi d) (Vi j) (Vc o k);exact bodyPost_ret (xH rfl _ _ (w.1.size+1) 36 #[Vi y,Vi f,Vi d,Vi j,Vc o k] _ rfl M underlying36 rfl rfl) rfl
   ⟨rfl,Below.sets5 (Below.sets5 h (by simp) _ _ _ _ _) (by simp) _ _ _ _ _⟩
 ·obtain⟨a4,R,rfl,p⟩:=id i.form;have Q:s[placeN (fun x=>lessE e x) s]?=none:=List.getElem?_eq_none (by omega);rw[Q];clear Q;have u:=i.small;generalize placeN (fun x=>lessE e x) s=n at*;generalize s.length=m at*;obtain rfl:n=m:=by omega
  obtain⟨Z,X,V,T,U,S⟩:=e;simp only[evA,evV,ev0]at*;have A:=hiD q;clear q i l z;go_enter func316,ntmps316;go_wp2_with fail;refine A.out.mono ?_;rintro r H ⟨rfl,c⟩;replace a:=a.later c;obtain⟨K,L,O,I,P,J,N⟩:=a.g5;go_wp2_with fail;have h:=g.trans (c.mono (by simp;omega));have M:=Holds.sets5 a (Vi 0) (Vi 0) (Vi 0) (Vi 0) (Vc 0 0);exact bodyPost_ret (xH rfl _ _ (w.1.size+1) 36 #[Vi 0,Vi 0,Vi 0,Vi 0,Vc 0 0] _ rfl M underlying36 rfl rfl) rfl
   ⟨rfl,Below.sets5 h (by simp) _ _ _ _ _⟩
theorem RO (a:Option Addr) (n c:Nat) (w:World):Cs 250 #[Sq a n c] w fun e w'=>e=Rt (.func (.func 279) #[] #[Vp w.1.size 0])∧w'=w.alloc (Oc #[Sq a n c] 112):=by
 have b:=hmf1;go_enter func250,ntmps250;go_wp2_with fail;go_ret;exact⟨rfl,rfl⟩
theorem LU:En0 279:=enters_of func279 rfl rfl
theorem O9 (B:Nat) (v:Value) (s:List Ev):Iter prog 279 #[Vp B 0] (fun i=>#[evA (s.getD i ev0),evA (s.getD (i+1) ev0)]) (s.length-1)
  (fun W=>Holds W B 112 #[v]∧RowV 5 evV W v s):=by
 intro a4 J z W r P hF H t;have L:=hiD hF;have n:=hiD r;have S:=(hF 0 W t).2.small;obtain⟨a,l,rfl,C⟩:=(hF 0 W t).2.form;clear hF;have d:∀k,k<s.length->s[k]?=some (s.getD k ev0):=fun k I=>by simp[List.getD,I]
 refine callsIn_of_wp func279 rfl trivial ?_ rfl;simp only[ntmps279,jW,jF,jO,Nat.reduceAdd,Nat.reduceSub,jR,jQ,jX,jU,jD,jE];gi_wp2;gi_loopw [3] (fun p wr=>∃i:Nat,i<=s.length-1∧p=Vi ((i:Int)+1)∧J i wr) (fun p wr=>s.length-(intOf p).toNat);case atStart=>exact⟨0,by omega,rfl,t⟩
 case round=>
  obtain⟨i,hi,rfl,c⟩:=hrel;have g:=(L.out i wr c);have hc:Cq wr B 0 (Sq a s.length l):=g.1.cell 0;by_cases w:i+1<s.length
  ·obtain⟨fn,a8,a1,a2,u,N⟩:=H i wr.drew (by omega) ((r i).on c bRf.drew);obtain⟨b,a5,a3,ts,a7,a6,kd,re,im,e,_,y,p0,p1,p2,p3,a0⟩:=yq g.2 (show i<s.length by omega);obtain⟨b',A,c',V,F,a9,Q,R,M,U,_,f,q0,q1,q2,X,q4⟩:=yq g.2 w;rw[d i (by omega)]at y;rw[d (i+1) (by omega)]at f;rw[Option.some.inj y,Option.some.inj f]at u;simp only[evA,evV]at u;cases e;cases U;clear y f g;have j:Hid (i<s.length-1):=hiD (by omega);have E:i<s.length:=by omega
   have K:0<=(i:Int)+1:=by omega
   have D:(i:Int)+1<(s.length:Int):=by omega
   have O:decide ((i:Int)+1<(s.length:Int))=true:=by simp;omega
   have T:IntKind.i64.wrap (i:Int)=(i:Int):=by rw[IntKind.wrap_i64];omega
   gi_wp2;refine BH 15 (by kernel_rfl) (by kernel_rfl) ?_;simp only[jm,dF,dE,ju]
   repeat still_step
   refine wpStill_nil ?_;change (Instr.yield _ _).run _ wr.drew=_ at u;gi_wp2;refine⟨rfl,N.mono ?_⟩;rintro e Z (⟨rfl,o⟩|⟨rfl,m⟩)
   ·gi_wp2;go_roundw;case rel=>exact⟨i+1,j.out,by simp,o⟩
    case measure=>simp[intOf];omega
   ·gi_wp2;go_end0;exact⟨⟨_,rfl⟩,.inr ⟨i,j.out,m⟩⟩
  ·have h:=fun q=>(r i).on c (qp wr.1.size wr q);have j:Hid (i=s.length-1):=hiD (by omega);have O:decide ((i:Int)+1<(s.length:Int))=false:=by simp;omega
   have x:=hiD h;clear h g;gi_wp2;refine wpIn_wide.2 ?_;go_quiet (fail);gi_wp2;go_end0;have e:=j.out;subst e;exact⟨⟨_,rfl⟩,.inl (x.out _)⟩
theorem Kqb {W c:World} (h:Bz W c):KeepsOthers W c:=
 ⟨h.size,fun k _ a _=>(h.block k (jA.1 a).1).trans a⟩
theorem FQ {α:Type} {B k:Nat} {n:α->List Value} (v:Value) (l:List α):qe B (fun W=>RowV k n W v l):=fun W t A h s y=>by
 obtain⟨a,c,e,q,m,g,d⟩:=h;refine⟨a,c,e,q,m,g,?_⟩;rcases d with d|⟨b,z,o,d⟩
 ·exact .inl d
 ·exact .inr ⟨b,z,o,fun i x p j u f=>cell_kept (d i x p j u f) s (fun r e=>(y r e).2)⟩
theorem JQ:∀s:List Ev,AI s=true↔∀j,j+1<s.length->lessE (s.getD j ev0) (s.getD (j+1) ev0)=true
 |[]=>by simp[AI]
 |[a]=>by simp[AI]
 |a::b::l=>by
   rw[AI,jJ,JQ (b::l)];constructor
   ·rintro⟨d,c⟩ j e;cases j with
    |zero=>exact d
    |succ j=>exact c j (by simpa using e)
   ·intro h;exact⟨h 0 (by simp),fun j e=>h (j+1) (by simpa using e)⟩
theorem OQ (x:Ev) (f:evWf x) (w:World):Cs 249 #[evA x] w fun r w'=>r=Rt (Vb (!evB x))∧Bz w w':=by
 have c:=hiD (fun w=>Cd x f w);generalize evB x=b at*;obtain⟨l,k,j,g,i,e⟩:=x;simp only[evA,evV]at*;clear f;go_enter func249,ntmps249;go_wp2_with fail;refine(c.out _).mono ?_;rintro r d ⟨rfl,a⟩;go_wp2_with fail;go_ret;exact⟨rfl,bB.trans (a.mono (by simp))⟩
theorem A0 (s:List Ev) (hw:∀x∈s,evWf x) (v:Value) (w:World) (C:RowV 5 evV w v s):
  Cs 220 #[v] w fun r w'=>r=Rt (Vb (rowB s))∧Bz w w':=by
 have f:=bA w (Oc #[Vb false] 4);have c1:=PR evV (fun _=>rfl) 249 #[] Jj (fun x=>!evB x) s v (w.alloc (Oc #[Vb false] 4)) (C.later f)
  (fun i x U W q=>OQ x (hw x (jY U)) W)
 have a6:rowB s=(!(s.any fun x=>!evB x)&&AI s):=by
  unfold rowB;congr 1;rw[List.not_any_eq_all_not];simp
 rw[a6];clear a6 hw;generalize (s.any fun x=>!evB x)=a8 at*;have a0:=hiD (fun a7=>O9 a7 v s);have H:=hiD (JQ s);have ae:=C;obtain⟨a,n,rfl,an⟩:=id C.form;have O:=hiD c1;clear c1;have HV:=hiD C;clear C ae;cases a8
 ·refine qH func220 rfl ?_;simp only[ntmps220,jW,jF,jO,Nat.reduceAdd,Nat.reduceSub,jR,jQ,jX,jU,jD,jE];go_wp2_with fail;refine O.out.mono ?_;rintro r u ⟨rfl,q⟩;go_wp2_with fail;refine(RO _ _ _ _).mono ?_;rintro r w2 ⟨rfl,rfl⟩;go_wp2_with fail;have k:=f.trans (q.mono (by simp));have a3:w.1.size<u.1.size:=by have:=q.size;simp at this;omega
  have zr:=((Holds.fresh w 4 #[Vb false]).later q).alloc (Oc #[Sq a s.length n] 112);have zp:=Holds.fresh u 112 #[Sq a s.length n];have af:=(HV.out.later k).later ((Below.refl u.1.size u).alloc nLe (Oc #[Sq a s.length n] 112));have ab:=k.alloc k.size (Oc #[Sq a s.length n] 112);obtain⟨z,o⟩:=xR u.1.size;rw[o]at zp a3;generalize J:u.alloc (Oc #[Sq a s.length n] 112)=w2 at*;have ao:w2.1.size=z+1:=by rw[<-J,<-o];simp
  clear J q f k;rw[o];clear o;refine Ak rfl LU (a0.out z) (fun _=>rfl)
   (fun i W=>Hid (∀j,j<i->lessE (s.getD j ev0) (s.getD (j+1) ev0)=true)∧Holds W z 112 #[Sq a s.length n]∧RowV 5 evV W (Sq a s.length n) s∧Holds W w.1.size 4 #[Vb false]∧Bz w W)
   (fun c i W=>c= .ret∧Hid (lessE (s.getD i ev0) (s.getD (i+1) ev0)=false)∧Holds W w.1.size 4 #[Vb false]∧Bz w W) ?_ ?_ ?_ ?_
   (fun i Z W=>∃P Q,z<P∧z<Q∧Holds W P 36 #[Vi (s.getD i ev0).ts,Vi (s.getD i ev0).src,Vi (s.getD i ev0).seq,Vi (s.getD i ev0).kind,Vc (s.getD i ev0).re (s.getD i ev0).im]∧Holds W Q 36 #[Vi (s.getD (i+1) ev0).ts,Vi (s.getD (i+1) ev0).src,Vi (s.getD (i+1) ev0).seq,Vi (s.getD (i+1) ev0).kind,Vc (s.getD (i+1) ev0).re (s.getD (i+1) ev0).im]∧
    Z={tmps:=#[Sq a s.length n,undef,Vp w.1.size 0,Vp P 0,Vp Q 0,Sq a s.length n,Vb false,Sq a s.length n,.func (.func 279) #[] #[Vp z 0],.agg #[Vi (s.getD i ev0).ts,Vi (s.getD i ev0).src,Vi (s.getD i ev0).seq,Vi (s.getD i ev0).kind,Vc (s.getD i ev0).re (s.getD i ev0).im],.agg #[Vi (s.getD (i+1) ev0).ts,Vi (s.getD (i+1) ev0).src,Vi (s.getD (i+1) ev0).seq,Vi (s.getD (i+1) ev0).kind,Vc (s.getD (i+1) ev0).re (s.getD (i+1) ev0).im],undef,undef,undef,undef],defers:=[]})
   ?_ ?_ ?_ ?_ ?_
  ·intro i;exact(qe.pure _).and ((qi _ _ _).and ((FQ _ _).and ((qi _ _ _).and (qe.below (by omega) nLe))))
  ·intro c i;exact(qe.pure _).and ((qe.pure _).and ((qi _ _ _).and (qe.below (by omega) nLe)))
  ·rintro i W h;exact⟨h.2.1,h.2.2.1⟩
  ·exact⟨hiD (fun j N=>absurd N (Nat.not_lt_zero _)),zp,af,zr,ab⟩
  ·intro i Z;exact qe.ex fun P=>qe.ex fun Q=>(qe.pure _).and ((qe.pure _).and ((qi _ _ _).and ((qi _ _ _).and (qe.pure _))))
  ·intro l i W ak hi m A;have aa:z<W.1.size:=m.2.1.size;have ap:=hst1;have a4:=fun S V=>(⟨m.1,(m.2.1.alloc S).alloc V,(m.2.2.1.later (bRf.alloc nLe S)).later (bRf.alloc nLe V),(m.2.2.2.1.alloc S).alloc V,(m.2.2.2.2.alloc m.2.2.2.2.size S).alloc (by have:=m.2.2.2.2.size;simp;omega) V⟩:_∧_∧_∧_∧_);have HI:=hiD a4;clear a4 m;simp only[evA,evV];generalize s.getD i ev0=x at*;generalize s.getD (i+1) ev0=y at*;obtain⟨ts,ai,ah,kd,re,im⟩:=x;obtain⟨aj,ac,a9,a2,ag,a1⟩:=y;gi_wp2;exact A _ _ (((KeepsOthers.alloc W _).trans (KeepsOthers.alloc _ _)).from _) (HI.out _ _) ⟨W.1.size,W.1.size+1,aa,by omega,(Holds.fresh _ _ _).alloc _,Holds.fresh' (by simp) _ _,rfl⟩
  ·rintro l i Z W hl ad ⟨I,i1,i2,t,B⟩ ⟨P,Q,al,am,L,M,rfl⟩;have T:=hiD (fun w=>yN (s.getD i ev0) (s.getD (i+1) ev0) w);generalize U:s.getD i ev0=x at*;generalize hy:s.getD (i+1) ev0=y at*;have R:=hiD U;have X:=hiD hy;clear U hy;obtain⟨br,E⟩:=xR (lessE x y);simp only[E]at T;have a5:=hiD E;clear E;obtain⟨ts,ai,ah,kd,re,im⟩:=x;obtain⟨aj,ac,a9,a2,ag,a1⟩:=y;simp only[evA,evV]at T L M;obtain⟨p0,p1,p2,p3,p4,-⟩:=L.g5;obtain⟨q0,g,q2,q3,q4,-⟩:=M.g5;clear L M;cases br
   ·gi_wp2;refine⟨trivial,rfl,(CallsIn.inRound l (callsIn_wide.2 (T.out _))).mono ?_⟩;rintro r W1 ⟨rfl,b⟩;have e:=t.later b;have f3:=e.free;have K:=e.cell 0;simp at K;gi_wp2;exact⟨((Kqb b).trans (KeepsOthers.setCell W1 (Ad w.1.size 0) (Vb false))).from _,rfl,hiD (by rw[R.out,X.out];exact a5.out),e.set 0 (Vb false),(B.trans (b.mono B.size)).setCell (p:=Ad w.1.size 0) nLe _⟩
   ·gi_wp2;refine⟨trivial,rfl,(CallsIn.inRound l (callsIn_wide.2 (T.out _))).mono ?_⟩;rintro r W1 ⟨rfl,b⟩;gi_wp2;refine⟨(Kqb b).from _,?_,i1.later b,i2.later b,t.later b,B.trans (b.mono B.size)⟩;refine hiD fun j N=>?_;rcases Nat.lt_or_ge j i with h|h
    ·exact I.out j h
    ·obtain rfl:j=i:=by omega
     rw[R.out,X.out];exact a5.out
  ·rintro D W hD ⟨I,i1,i2,t,B⟩ A;have d:AI s=true:=H.out.2 fun j N=>I.out j (by omega);have HR:=hiD d;clear d;obtain⟨K,f3,-⟩:=t.g1;show Exit.inBlock 0 _ _ _ _;go_wp2_with fail;have e:=t.set 0 (Vb true);have F:=(KeepsOthers.setCell W (Ad w.1.size 0) (Vb true)).same D _ A rfl;have g:=qW (c:= .deferred none) F rfl (e.cell 0);simp at g;refine qZ (v:=Vb true) F (by simp[results,results220,go_sem,g]) ⟨by rw[HR.out];rfl,qB (B.setCell (p:=Ad w.1.size 0) nLe _) F (by omega)⟩
  ·rintro D c i W hD ad ⟨rfl,HN,t,B⟩ A;have d:AI s=false:=Bool.eq_false_iff.2 fun h=>by
    have:=H.out.1 h i (by omega);rw[HN.out]at this;cases this
   have g:=qW (c:= .deferred none) A rfl (t.cell 0);simp at g;apply wp_ret;exact qZ (v:=Vb false) A (by simp[results,results220,go_sem,g]) ⟨by rw[d];rfl,qB B A (by omega)⟩
 ·refine qH func220 rfl ?_;simp only[ntmps220,jW,jF,jO,Nat.reduceAdd,Nat.reduceSub,jR,jQ,jX,jU,jD,jE];go_wp2_with fail;refine O.out.mono ?_;rintro r u ⟨rfl,q⟩;have t:=(Holds.fresh w 4 #[Vb false]).later q;obtain⟨K,f3,-⟩:=t.g1;go_wp2_with fail;have g:=(t.set 0 (Vb false)).cell 0;simp at g;refine DP (v:=Vb false) (by simp[results,results220,go_sem,g]) ⟨by simp,?_⟩;exact(f.trans (q.mono (by simp))).setCell (p:=Ad w.1.size 0) nLe _
theorem ins_nil (w:World):Cs 181 #[Vn,Vi 0,Vi 0] w fun e w'=>e=Rt (.tuple #[])∧w=w':=by
 go_enter func181,ntmps181;go_wp2_with fail;go_loopw [6] (fun i wr=>i=Vi 1∧wr=w) (fun _ _=>0);case atStart=>exact⟨rfl,rfl⟩
 case round=>
  obtain⟨rfl,rfl⟩:=hrel;go_wp2_with fail;go_end0;exact⟨rfl,rfl⟩
theorem pdq_nil (n:Int) (w:World):Cs 151 #[Vn,Vi 0,Vi 0,Vi n] w fun e w'=>e=Rt (.tuple #[])∧w=w':=by
 have a:=hiD (fun w=>ins_nil w);go_enter func151,ntmps151;go_wp2_with fail;go_loopw [1,2,3,8,9] (fun x y _ _ _ wr=>x=Vi 0∧y=Vi 0∧wr=w) (fun _ _ _ _ _ _=>0);case atStart=>exact⟨rfl,rfl,rfl⟩
 case round=>
  obtain⟨rfl,rfl,rfl⟩:=hrel;go_wp2_with fail;refine(a.out _).mono ?_;rintro r b ⟨rfl,rfl⟩;go_wp2_with fail
  (try simp only[Exit.inBlock,Exit.then])
  exact bodyPost_ret (results_none rfl _ _ _) rfl ⟨rfl,rfl⟩
theorem T5 (w:World):Cs 119 #[Vn] w fun e w'=>e=Rt (.tuple #[])∧w=w':=by
 have c:=hiD (fun w=>Tryz.bits_Len 0 w (by decide) (by decide));have b:=hiD (fun n w=>pdq_nil n w);go_enter func119,ntmps119;go_wp2_with fail;refine(c.out _).mono ?_;rintro r a ⟨rfl,rfl⟩;go_wp2_with fail;refine(b.out _ _).mono ?_;rintro r a ⟨rfl,rfl⟩;go_wp2_with fail;go_end0;exact⟨rfl,rfl⟩
end
end Go.Proofs.YtnmpcdnbklmhkaaGreatDoor
