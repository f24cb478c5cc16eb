import Derived.Test.YtnmpcdnbklmhkaaGreatDoorQAo
import Derived.Test.YtnmpcdnbklmhkaaGreatDoorQAp
import Derived.Test.YtnmpcdnbklmhkaaGreatDoorQAg
import Derived.Lib.Overlaps
import Derived.Lib.AppendZerosOnto
import Derived.Laws.IdiomCopy
import Derived.Laws.NewBlocks
import Derived.Laws.Externs
import Derived.Shelf.RegionOpenPlain
namespace Go.Proofs.YtnmpcdnbklmhkaaGreatDoor
open Go.Proofs.Tryz Go.RowKit
set_option maxRecDepth 100000
set_option linter.all false
set_option maxHeartbeats 8000000
section
attribute [local go_sem] Oper.semAt_some
attribute [local go_sem ↓] Go.wp_at_zero Go.wp_at_succ
def Pi (n:Int):Bool:=decide (0<=n)&&decide (n<=1099511627776)
theorem Nf (f c d e:Int) (s:Pu [f,c,d,e]=true) (w:World):Cs 219 #[mkA f c d e] w (Rw w (.bool true)):=by
 have X:=hiD (fun f c d e a1 w=>Hy f c d e a1 w);have O:[f,c,d,e].all Pi=true:=s;clear s;have Q:FS 4=4:=rfl;generalize m:[f,c,d,e]=L at*;have k:L.length=4:=by rw[<-m];rfl
 have a2:=hiD (fun j (z:j<L.length)=>(show Pi (L.getD j 0)=true by
  rw[jx,jB z];exact List.all_eq_true.1 O _ (dI z)))
 have E:=hiD m;clear m O;have I:=hiD (fun B a=>FH B a 4 L (by omega));simp only[mkA]at*;refine qH func219 rfl ?_;simp only[ntmps219,jW,jF,jO,Nat.reduceAdd,Nat.reduceSub,jR,jQ,jX,jU,jD,jE];go_wp2_with fail;refine(X.out _ _ _ _ _ _).mono ?_;rintro a6 a5 ⟨rfl,rfl⟩;rw[Q];go_wp2_with fail;have N:=(Holds.fresh' (w:=w.alloc (.cells #[Vi f,Vi c,Vi d,Vi e] 111)) (b:=w.1.size+1) (by simp) 4 #[.bool false]);have q:=(bA w (.cells #[Vi f,Vi c,Vi d,Vi e] 111)).alloc (by simp) (.cells #[.bool false] 4);have g:((w.alloc (.cells #[Vi f,Vi c,Vi d,Vi e] 111)).alloc (.cells #[.bool false] 4)).1.size=w.1.size+1+1:=by simp
 generalize (w.alloc (.cells #[Vi f,Vi c,Vi d,Vi e] 111)).alloc (.cells #[.bool false] 4)=M at*;have V:=((Holds.fresh' g 111 #[Vi f,Vi c,Vi d,Vi e])).alloc (.cells #[.slice (some ⟨w.1.size+1+1,0,none⟩) 4 4] 125);have S:=Holds.fresh' (w:=M.alloc (.cells #[Vi f,Vi c,Vi d,Vi e] 111)) (b:=w.1.size+1+1+1) (by simp[g]) 125 #[.slice (some ⟨w.1.size+1+1,0,none⟩) 4 4];have U:=(N.alloc (.cells #[Vi f,Vi c,Vi d,Vi e] 111)).alloc (.cells #[.slice (some ⟨w.1.size+1+1,0,none⟩) 4 4] 125);have F:=(q.alloc q.size (.cells #[Vi f,Vi c,Vi d,Vi e] 111)).alloc (by simp[g];omega) (.cells #[.slice (some ⟨w.1.size+1+1,0,none⟩) 4 4] 125);have u:((M.alloc (.cells #[Vi f,Vi c,Vi d,Vi e] 111)).alloc (.cells #[.slice (some ⟨w.1.size+1+1,0,none⟩) 4 4] 125)).1.size=w.1.size+4:=by simp[g]
 have t:=Ik V 4;rw[show [f,c,d,e].take 4=L by rw[<-E.out];rfl]at t;generalize (M.alloc (.cells #[Vi f,Vi c,Vi d,Vi e] 111)).alloc (.cells #[.slice (some ⟨w.1.size+1+1,0,none⟩) 4 4] 125)=W1 at*;rw[show (Value.slice (some ⟨w.1.size+1+1,0,none⟩) 4 4)= .slice (some ⟨w.1.size+1+1,0,none⟩) L.length 4 by rw[k]]at S;have A:=hiD u;have a4:=hiD k;clear u k g Q;refine kT rfl DC (I.out (w.1.size+1+1+1) (some ⟨w.1.size+1+1,0,none⟩)) (fun _=>rfl)
  (fun i W=>(Holds W (w.1.size+1+1+1) 125 #[.slice (some ⟨w.1.size+1+1,0,none⟩) L.length 4]∧zA W .i64 (some ⟨w.1.size+1+1,0,none⟩) L)∧Holds W (w.1.size+1) 4 #[.bool false]∧Bz w W)
  (fun _ _ _=>False)
  (fun i=>(((qi _ _ _).and (FR _ _ _)).and ((qi _ _ _).and (qe.below (by have:=A.out;omega) nLe)))) (fun _ _=>qe.pure _)
  (fun i W h=>h.1) ⟨⟨S,t⟩,by simpa using U,F⟩
  (fun i=>{tmps:=#[.agg #[Vi f,Vi c,Vi d,Vi e],Vp w.1.size 0,Vp (w.1.size+1) 0,Vi (L.getD i 0),
   .agg #[Vi f,Vi c,Vi d,Vi e],.func (.func 307) #[] #[Vp (w.1.size+1+1+1) 0],Vi (L.getD i 0),undef,undef,undef,undef,undef,undef],defers:=[]}) ?_ ?_ ?_ ?_
 ·intro a0 i W a3 hi J;generalize L.getD i 0=x at*;gi_wp2;exact J
 ·rintro a0 i W hl C ⟨⟨R,K⟩,l,n⟩;have y:=a2.out i C;have r:=l.cell 0;simp at r;generalize L.getD i 0=x at*;have Z:0<=x∧x<=1099511627776:=by simpa[Pi]using y
  have h0:¬x<0:=by omega
  have h1:¬1099511627776<x:=by omega
  clear y Z;gi_wp2;exact⟨KeepsFrom.refl _ _,⟨R,K⟩,l,n⟩
 ·rintro D W hD ⟨⟨R,K⟩,l,n⟩ J;obtain⟨r,f3,-⟩:=l.g1;show Exit.inBlock 0 _ _ _ _;go_wp2_with fail;have H:=l.set 0 (.bool true);have o:=(KeepsOthers.setCell W ⟨w.1.size+1,0,none⟩ (.bool true)).same D _ J rfl;have P:=qW (c:= .deferred none) o rfl (H.cell 0);simp at P;exact qZ (v:= .bool true) o (by simp[results,results219,go_sem,P]) ⟨rfl,qB (n.setCell (p:=⟨w.1.size+1,0,none⟩) (by simp) _) o (by have:=A.out;omega)⟩
 ·exact fun _ _ _ _ _ _ T _=>T.elim
theorem Hz (e f g i c j:Int) (w:World):Cs 354 #[mkA e f g i,Vi c,Vi j] w (Rw w (Vb (lateM [e,f,g,i] c j))):=by
 simp only[mkA];rcases(show c=0∨c=1∨c=2∨c=3∨c<0∨4<=c by omega)with rfl|rfl|rfl|rfl|h|h
 ·go_enter func354,ntmps354;go_wp2_with fail;go_ret;exact⟨by simp[lateM],bB⟩
 ·go_enter func354,ntmps354;go_wp2_with fail;go_ret;exact⟨by simp[lateM],bB⟩
 ·go_enter func354,ntmps354;go_wp2_with fail;go_ret;exact⟨by simp[lateM],bB⟩
 ·go_enter func354,ntmps354;go_wp2_with fail;go_ret;exact⟨by simp[lateM],bB⟩
 ·have d:lateM [e,f,g,i] c j=false:=by unfold lateM;rw[decide_eq_false (by omega)];rfl
  rw[d];clear d;go_enter func354,ntmps354;go_wp2_with fail;go_ret;exact⟨rfl,bB⟩
 ·have d:lateM [e,f,g,i] c j=false:=by unfold lateM;rw[decide_eq_false (show ¬c<4 by omega)];simp
  rw[d];clear d;have a:0<=c:=by omega
  go_enter func354,ntmps354;go_wp2_with fail;go_ret;exact⟨rfl,bB⟩
theorem F7 (t u z A s B:Int) (w:World):Cs 222 #[mkA t u z A,Vi s,Vi B] w (Rw w (Vi (floorM [t,u,z,A] s B))):=by
 have g:=hiD (fun w=>F5 t u z A s w);have i:=hiD (fun a w=>num_Sub a B w);obtain⟨r,n⟩:=xR (floorM [t,u,z,A] s B);rw[n];unfold floorM at n;generalize leastM [t,u,z,A] s=l at*;have e:=hiD (fun w=>i.out l w);generalize o:GZ l B=x at*;obtain⟨q,j⟩:=x;simp only at n e;clear i o;simp only[mkA]at*;have b:=bA w (Oc #[Vi t,Vi u,Vi z,Vi A] 111);by_cases f:j=0
 ·subst f;rw[if_pos rfl]at n;have d:=hiD n;clear n;go_enter func222,ntmps222;go_wp2_with fail;refine(g.out _).mono ?_;rintro y h ⟨rfl,c⟩;go_wp2_with fail;refine(e.out _).mono ?_;rintro y m ⟨rfl,rfl⟩;go_wp2_with fail;go_ret;exact⟨by rw[<-d.out];rfl,b.trans (c.mono (by simp))⟩
 ·rw[if_neg f]at n;have p:(j==0)=false:=by simpa using f
  by_cases k:0<B
  ·rw[if_pos k]at n;have d:=hiD n;clear n;go_enter func222,ntmps222;go_wp2_with fail;refine(g.out _).mono ?_;rintro y h ⟨rfl,c⟩;go_wp2_with fail;refine(e.out _).mono ?_;rintro y m ⟨rfl,rfl⟩;go_wp2_with fail;go_ret;exact⟨by rw[<-d.out];rfl,b.trans (c.mono (by simp))⟩
  ·rw[if_neg k]at n;have d:=hiD n;clear n;go_enter func222,ntmps222;go_wp2_with fail;refine(g.out _).mono ?_;rintro y h ⟨rfl,c⟩;go_wp2_with fail;refine(e.out _).mono ?_;rintro y m ⟨rfl,rfl⟩;go_wp2_with fail;go_ret;exact⟨by rw[<-d.out];rfl,b.trans (c.mono (by simp))⟩
def Hv (m:List Int) (a c:Int):Bool:=decide (0<=a∧a<4∧max 0 (m.getD a.toNat 0)<=c∧c<=1099511627776)
theorem Ps (i j k l g:Int) (n:max 0 i<=g) (o:g<=1099511627776) (w:World):Cs 290 #[mkA i j k l,Vi 0,Vi g] w (Rw w (.tuple #[.agg #[Vi g,Vi j,Vi k,Vi l],Vb true])):=by
 simp only[mkA];have d:∀w,(Op.equalIn 10000 111 (.agg #[Vi g,Vi j,Vi k,Vi l]) (.agg #[Vi i,Vi j,Vi k,Vi l])).run prog w= .ok (g==i) w:=fun w=>by
  rw[Fd 9998 111 3 underlying111 underlying3 sizeOf3 isAgg3];simp
 have c:=(bA w (Oc #[Vi i,Vi j,Vi k,Vi l] 111)).alloc (by simp) (Oc #[Vi g,Vi j,Vi k,Vi l] 111);have z:=Holds.fresh' (w:=w.alloc (Oc #[Vi i,Vi j,Vi k,Vi l] 111)) (b:=w.1.size+1) (by simp) 111 #[Vi g,Vi j,Vi k,Vi l];have e:decide (g<max 0 i)=false:=by rw[decide_eq_false_iff_not];omega
 have f:decide (g>1099511627776)=false:=by rw[decide_eq_false_iff_not];omega
 by_cases m:g=i
 ·have a:(g==i)=true:=by simpa using m
  simp only[a]at d;clear m;go_enter func290,ntmps290;go_wp2_with fail;refine zE 0 rfl ?_;go_wp2_with fail;rw[qU];exact bodyPost_ret (xH rfl _ _ (w.1.size+1) 111 #[Vi g,Vi j,Vi k,Vi l] _ rfl z underlying111 rfl rfl) rfl ⟨rfl,c⟩
 ·have a:(g==i)=false:=by simpa using m
  simp only[a]at d;clear m;go_enter func290,ntmps290;go_wp2_with fail;refine zE 0 rfl ?_;go_wp2_with fail;rw[qU];exact bodyPost_ret (xH rfl _ _ (w.1.size+1) 111 #[Vi g,Vi j,Vi k,Vi l] _ rfl z underlying111 rfl rfl) rfl ⟨rfl,c⟩
theorem SF (m j k l g i:Int) (n:g=0) (h:Hv [m,j,k,l] g i=true) (w:World):Cs 290 #[mkA m j k l,Vi g,Vi i] w fun e w'=>∃a b c d,setM [m,j,k,l] g i=[a,b,c,d]∧e=Rt (.tuple #[mkA a b c d,Vb true])∧Bz w w':=by
 have f:0<=g∧g<4∧max 0 ([m,j,k,l].getD g.toNat 0)<=i∧i<=1099511627776:=by simpa[Hv]using h
 have o:setM [m,j,k,l] g i=[m,j,k,l].set g.toNat i:=by unfold setM;rw[if_pos f]
 subst n;exact(Ps m j k l i (by simpa using f.2.2.1) f.2.2.2 w).mono fun _ _ h=>⟨i,j,k,l,o,h.1,h.2⟩
def intV (n:Int):List Value:=[Vi n]
def MtV (W:World) (r e:Value) (m:Mt):Prop:=RowT 1 3 intV W r m.row∧RowT 5 36 evV W e m.2
def mtR (m:Mt) (a:List Value) (W:World):Prop:=∃r e,a=[r,e]∧MtV W r e m
theorem MtV.abides {F:TypeId->Bool} (a:F 3=false) (c:F 36=false) (r e:Value) (m:Mt):qM F (fun W=>MtV W r e m):=(RowT.abides a r m.row).and (RowT.abides c e m.2)
theorem MtV.later {W a:World} {r e:Value} {m:Mt} (h:MtV W r e m) (c:Bz W a):MtV a r e m:=⟨h.1.later c,h.2.later c⟩
theorem mtR.abides {F:TypeId->Bool} (c:F 3=false) (d:F 36=false) (m:Mt) (a:List Value):qM F (mtR m a):=
 qM.ex fun r=>qM.ex fun e=>(qM.pure _).and (MtV.abides c d r e m)
theorem Cc:∀x,∀u∈intV x,u.oneCell'=true:=fun x u a=>by simp[intV]at a;rw[a];rfl
theorem vZ:∀x,∀u∈evV x,u.oneCell'=true:=fun x u a=>by
 simp only[evV,jI,jH,or_false]at a;rcases a with rfl|rfl|rfl|rfl|rfl<;>rfl
theorem Hx {p:Pt} (n:PtOk p) (v:Value) (w:World) (s:PatV w v p):Cs 280 #[v] w (Rw w (Vb false)):=by
 obtain⟨u,rfl,r⟩:=s;have a:=bA w (Oc #[u,Vi p.2] 25);obtain⟨b,y,c,l,x,o,i,q,t,m,g,rfl,f,d,-,j,-⟩:=vP (r.mono a nLe) (k:=1) (by rw[n.len];omega);rcases st_two n d with⟨h,_⟩|⟨_,e⟩
 ·cases h
 cases e;rw[n.len]at*;clear r d n;go_enter func280,ntmps280;go_wp2_with fail;go_ret;exact⟨rfl,a⟩
theorem AM {p:Pt} (N:PtOk p) (v r e:Value) (m:Mt) (w:World) (O:PatV w v p) (n:RowV 5 evV w e m.2) (Q:0<m.2.length):
  Cs 257 #[v,.agg #[r,e]] w fun x w'=>x=Rt (Vi (yH p m))∧Bz w w':=by
 have d:=fun B z=>(bA w B).alloc (by simp) z;obtain⟨u,rfl,L⟩:=O;have g:=n.later (d (Oc #[u,Vi p.2] 25) (Oc #[r,e] 127));have D:=hiD (Hx N _ _ ⟨u,rfl,L.mono (d (Oc #[u,Vi p.2] 25) (Oc #[r,e] 127)) nLe⟩);have s:=Holds.fresh' (w:=w.alloc (Oc #[u,Vi p.2] 25)) (b:=w.1.size+1) (by simp) 127 #[r,e];obtain⟨a,M,rfl,l⟩:=n.form;have t:=n.small;have i:=d (Oc #[u,Vi p.2] 25) (Oc #[r,Sq a m.2.length M] 127);have C:((m.2.length:Int)==0)=false:=by simp only[beq_eq_false_iff_ne];omega
 obtain⟨b,T,c,P,W,V,S,U,K,q,o,k,j,I,J,H,F⟩:=yq g (show m.2.length-1<m.2.length by omega);cases q;have f:yH p m=P:=by unfold yH;rw[List.getLast?_eq_getElem?,k]
 rw[f];have R:IntKind.i64.wrap ((m.2.length:Int)-1)=((m.2.length-1:Nat):Int):=by rw[IntKind.wrap_i64];omega
 have y:m.2.length-1<m.2.length:=by omega
 clear k L n g f;go_enter func257,ntmps257;go_wp2_with fail;refine D.out.mono ?_;rintro x E ⟨rfl,h⟩;replace j:=qd h nLe j;have A:=(s.later h).cell 1;simp at A;go_wp2_with fail;go_ret;exact⟨rfl,i.trans (h.mono (by simp;omega))⟩
theorem kO (r e:Value) (m:Mt) (w:World) (d:MtV w r e m) (h1:m.row.length<=1000000) (h2:m.2.length<=1000000):
  Cs 274 #[.agg #[r,e]] w fun x w'=>∃B D,x=Rt (.agg #[B,D])∧MtV w' B D m∧Bz w w':=by
 have k:=(bA w (Oc #[r,e] 127)).alloc (by simp) (Oc #[Vn,Vn] 127);have C:=(Holds.fresh w 127 #[r,e]).alloc (Oc #[Vn,Vn] 127);have z2:=Holds.fresh' (w:=w.alloc (Oc #[r,e] 127)) (b:=w.1.size+1) (by simp) 127 #[Vn,Vn];have q:=d.later k;obtain⟨E,y,rfl,_⟩:=d.1.form;obtain⟨n,o,rfl,_⟩:=d.2.form;have V:=hiD (fun W h=>FB intV (fun _=>rfl) Cc (Sq E m.row.length y) m.row W h h1);have O:=hiD (fun W h=>Bd evV (fun _=>rfl) vZ (Sq n m.2.length o) m.2 W h h2);have N:=hiD q;clear d q;go_enter func274,ntmps274;go_wp2_with fail;generalize (w.alloc (Oc #[Sq E m.row.length y,Sq n m.2.length o] 127)).alloc (Oc #[Vn,Vn] 127)=W at*;have L:=hiD (fun w' (z:Bz W w')=>(⟨(C.later z).cell 0,(C.later z).cell 1⟩:Cq w' w.1.size 0 (Sq E m.row.length y)∧Cq w' w.1.size 1 (Sq n m.2.length o)));refine qO [(true,0),(true,1),(true,3),(true,4),(false,2),(true,6),(false,5)] 7 [8,9] (by kernel_rfl) (by kernel_rfl) (fun w'=>Bz W w') (bRf.drew) (fun _ _ a1 _ _ h=>by cases a1<;>exact h) ?_;simp only[qI,xx,jM,jN]
 repeat (refine zX rfl (fun w' t=>by obtain⟨I,J⟩:=L.out w' t;(go_simp<;>rfl)) ?_)
 simp only[Act.put,jC,jL,jK];refine zQ rfl ?_;go_simp;refine(V.out _ (N.out.1.later bRf.drew).1).mono ?_;rintro x a5 ⟨B,rfl,Z,a4⟩;have c:=((Below.refl W.1.size W).drew).trans a4;refine⟨c,?_⟩
 repeat (refine zX rfl (fun w' t=>by obtain⟨I,J⟩:=L.out w' t;(go_simp<;>rfl)) ?_)
 simp only[Act.put,jC,jL,jK];refine zQ rfl ?_;go_simp;refine(O.out _ (N.out.2.later c).1).mono ?_;rintro x S ⟨D,rfl,X,s⟩;have a:=c.trans (s.mono c.size);refine⟨a,vf ?_⟩;obtain⟨f,g,rfl⟩:=qh Z;obtain⟨i,j,rfl⟩:=qh X;have l:=C.later a;have u:=z2.later a;obtain⟨I,J,qf,ql⟩:=l.g2;obtain⟨s0,s1,sf,sl⟩:=u.g2;go_wp2_with fail;have a2:=RowT.of_own (enc:=intV) (fun _=>rfl) Z rfl;have H:=RowT.of_own (enc:=evV) (fun _=>rfl) X rfl;have v:MtV S (Sq f m.row.length g) (Sq i m.2.length j) m:=⟨a2.later s,H⟩;have A:=MtV.abides (F:=fun a3=>a3==127) rfl rfl (Sq f m.row.length g) (Sq i m.2.length j) m;have k1:=A.set v l rfl 0 (Sq f m.row.length g);have a0:=l.set 0 (Sq f m.row.length g);have U:=A.set k1 a0 rfl 1 (Sq i m.2.length j);have K:=(u.far (p:=Ad w.1.size 0) (by simp) (Sq f m.row.length g)).far (p:=Ad w.1.size 1) (by simp) (Sq i m.2.length j);have T:=A.set U K rfl 0 (Sq f m.row.length g);have M:=K.set 0 (Sq f m.row.length g);have P:=A.set T M rfl 1 (Sq i m.2.length j);have Q:Holds _ _ _ #[Sq f m.row.length g,Sq i m.2.length j]:=M.set 1 (Sq i m.2.length j);have R:=k.trans (a.mono k.size);refine bodyPost_ret (zU rfl _ _ (w.1.size+1) 127 #[Sq f m.row.length g,Sq i m.2.length j] _ rfl Q underlying127 rfl (by kernel_rfl)) rfl ⟨_,_,rfl,P,?_⟩;exact(((R.setCell (p:=Ad w.1.size 0) nLe _).setCell (p:=Ad w.1.size 1) nLe _).setCell (p:=Ad (w.1.size+1) 0) (by simp) _).setCell (p:=Ad (w.1.size+1) 1) (by simp) _
def cfC (u:Value) (c:Cf):Array Value:=#[u,Vi c.p.2,Vu c.2,Vi c.cap,Vi c.4,Vi c.5]
def Ai (W:World) (v:Value) (c:Cf):Prop:=∃u,v= .agg (cfC u c)∧qN W u c.p.1
theorem Ai.later {W a:World} {v:Value} {c:Cf} (h:Ai W v c) (d:Bz W a):Ai a v c:=by
 obtain⟨u,e,f⟩:=h;exact⟨u,e,f.mono d nLe⟩
def foC (c d e f:Int) (k:Value) (a:Int):Array Value:=#[Vi c,Vi d,Vi e,Vi f,k,Vi a]
def vw (W:World) (v:Value) (f:Fo):Prop:=∃a c d e k,f.1=[a,c,d,e]∧v= .agg (foC a c d e k f.hi)∧RowT 5 36 evV W k f.2
theorem vw.later {W j:World} {v:Value} {f:Fo} (h:vw W v f) (l:Bz W j):vw j v f:=by
 obtain⟨d,b,c,a,k,i,e,g⟩:=h;exact⟨d,b,c,a,k,i,e,g.later l⟩
theorem vW (n a b:Int) (w:World):Cs 153 #[Vi n,Vi a,Vi b] w fun e w'=>e=Rt (Vb (decide (a<=n)&&decide (n<=b)))∧w=w':=by
 by_cases h:a<=n
 ·have c:decide (a<=n)=true:=by simpa using h
  go_enter func153,ntmps153;go_wp2_with fail;go_ret;exact⟨by first|rfl|(rw[c];rfl),rfl⟩
 ·have c:decide (a<=n)=false:=by simpa using h
  go_enter func153,ntmps153;go_wp2_with fail;go_ret;exact⟨by first|rfl|(rw[c];rfl),rfl⟩
theorem Av (c:Cf) (A:PtOk c.p) (n:Bc c=true) (v:Value) (w:World) (B:Ai w v c):Cs 121 #[v] w (Rw w (Vb true)):=by
 obtain⟨p,e,o,d,b⟩:=c;obtain⟨u,rfl,z⟩:=B;simp only[cfC]at*;have f:=bA w (Oc #[u,Vi p.2,Vu e,Vi o,Vi d,Vi b] 45);have t:=hiD (yZ p A (.agg #[u,Vi p.2]) (w.alloc (Oc #[u,Vi p.2,Vu e,Vi o,Vi d,Vi b] 45)) ⟨u,rfl,z.mono f nLe⟩);obtain⟨a,C,rfl,q,r⟩:=z.form;clear z A;unfold Bc at n;simp only[jJ,Bool.or_eq_true,decide_eq_true_eq]at n;obtain⟨⟨⟨⟨y,m⟩,l⟩,k⟩,-⟩:=n;have i:=vW o 1 16;have g:=vW d 0 1099511627776;have h:=vW b 1 4;rw[decide_eq_true m.1,decide_eq_true m.2]at i;rw[decide_eq_true l.1,decide_eq_true l.2]at g;rw[decide_eq_true k.1,decide_eq_true k.2]at h;have i:=hiD i;have g:=hiD g;have h:=hiD h;clear m l k;rcases y with rfl|rfl
 all_goals
  go_enter func121,ntmps121;go_wp2_with fail;refine(i.out _).mono ?_;rintro x j ⟨rfl,rfl⟩;go_wp2_with fail;refine(g.out _).mono ?_;rintro x j ⟨rfl,rfl⟩;go_wp2_with fail;refine(h.out _).mono ?_;rintro x j ⟨rfl,rfl⟩;go_wp2_with fail;refine t.out.mono ?_;rintro x j ⟨rfl,s⟩;go_wp2_with fail;go_ret;exact⟨rfl,f.trans (s.mono (by simp))⟩
theorem Holds.sets6 {w:World} {b t:Nat} {i j k l m n:Value} (h:Holds w b t #[i,j,k,l,m,n]) (a c d e f g:Value):
  Holds ((((((w.setCell ⟨b,0,none⟩ a).setCell ⟨b,1,none⟩ c).setCell ⟨b,2,none⟩ d).setCell ⟨b,3,none⟩ e).setCell ⟨b,4,none⟩ f).setCell ⟨b,5,none⟩ g) b t #[a,c,d,e,f,g]:=by
 have:=(((((h.set 0 a).set 1 c).set 2 d).set 3 e).set 4 f).set 5 g;simpa using this
theorem Below.sets6 {c b:Nat} {k w:World} (h:Below c k w) (a:c<=b) (d e f g i j:Value):
  Below c k ((((((w.setCell ⟨b,0,none⟩ d).setCell ⟨b,1,none⟩ e).setCell ⟨b,2,none⟩ f).setCell ⟨b,3,none⟩ g).setCell ⟨b,4,none⟩ i).setCell ⟨b,5,none⟩ j):=
 (((((h.setCell (p:=Ad b 0) a d).setCell (p:=Ad b 1) a e).setCell (p:=Ad b 2) a f).setCell (p:=Ad b 3) a g).setCell (p:=Ad b 4) a i).setCell (p:=Ad b 5) a j
theorem qM.sets6 {F:TypeId->Bool} {I:World->Prop} (A:qM F I) {w:World} {b t:Nat} {k l m n o p:Value} (j:I w) (h:Holds w b t #[k,l,m,n,o,p]) (c:F t=true) (a d e f g i:Value):
  I ((((((w.setCell ⟨b,0,none⟩ a).setCell ⟨b,1,none⟩ d).setCell ⟨b,2,none⟩ e).setCell ⟨b,3,none⟩ f).setCell ⟨b,4,none⟩ g).setCell ⟨b,5,none⟩ i):=
 A.set (A.set (A.set (A.set (A.set (A.set j h c 0 a) (h.set 0 a) c 1 d) ((h.set 0 a).set 1 d) c 2 e) (((h.set 0 a).set 1 d).set 2 e) c 3 f) ((((h.set 0 a).set 1 d).set 2 e).set 3 f) c 4 g) (((((h.set 0 a).set 1 d).set 2 e).set 3 f).set 4 g) c 5 i
theorem Kb (f:Fo) (y:f.2.length<=1000000) (v:Value) (w:World) (W:vw w v f):Cs 191 #[v] w fun e w'=>∃r,e=Rt r∧vw w' r f∧Bz w w':=by
 obtain⟨l,d,g,h,k,I,rfl,s⟩:=W;have c:=(bA w (Oc (foC l d g h k f.hi) 114)).alloc (by simp) (Oc (foC 0 0 0 0 Vn 0) 114);have C:=(Holds.fresh w 114 (foC l d g h k f.hi)).alloc (Oc (foC 0 0 0 0 Vn 0) 114);have Z:=Holds.fresh' (w:=w.alloc (Oc (foC l d g h k f.hi) 114)) (b:=w.1.size+1) (by simp) 114 (foC 0 0 0 0 Vn 0);have J:=hiD (Bd evV (fun _=>rfl) vZ k f.2 _ (s.later c).1 y);obtain⟨a3,a4,rfl,a7⟩:=s.form;obtain⟨a5,a,n⟩:=f;simp only at*;unfold foC at*;clear s;go_enter func191,ntmps191;go_wp2_with fail;refine J.out.mono ?_;rintro a6 K ⟨r,rfl,x,u⟩;obtain⟨i,j,rfl⟩:=qh x;have m:=C.later u;have q:=Z.later u;obtain⟨O,Q,V,M,a1,P,qf,U⟩:=m.g6;obtain⟨R,S,N,a2,s4,a0,L,T⟩:=q.g6;go_wp2_with fail;have o:=RowT.of_own (enc:=evV) (fun _=>rfl) x rfl;have A:=RowT.abides (F:=fun t=>t==114) (k:=5) (E:=36) (enc:=evV) rfl (Sq i a.length j) a;have X:=A.set o m rfl 4 (Sq i a.length j);have z:=q.far (p:=Ad w.1.size 4) (by simp) (Sq i a.length j);have H:=qM.sets6 A X z rfl (Vi l) (Vi d) (Vi g) (Vi h) (Sq i a.length j) (Vi n);have D:=Holds.sets6 z (Vi l) (Vi d) (Vi g) (Vi h) (Sq i a.length j) (Vi n);have B:=((c.trans (u.mono c.size)).setCell (p:=Ad w.1.size 4) nLe (Sq i a.length j));refine bodyPost_ret (zU rfl _ _ (w.1.size+1) 114 #[Vi l,Vi d,Vi g,Vi h,Sq i a.length j,Vi n] _ rfl D underlying114 rfl rfl) rfl ⟨_,rfl,⟨l,d,g,h,_,I,rfl,H⟩,?_⟩;exact Below.sets6 B (by simp) _ _ _ _ _ _
theorem S6 (c:Cf) (D:PtOk c.p) (C:Bc c=true) (v:Value) (w:World) (B:Ai w v c):Cs 85 #[v] w (Rw w (.tuple #[.agg (foC 0 0 0 0 Vn (-1)),Vi 0])):=by
 have e:=B;obtain⟨u,rfl,n⟩:=B;have d:=(bA w (Oc (cfC u c) 45)).alloc (by simp) (Oc (foC 0 0 0 0 Vn 0) 114);have E:=Holds.fresh' (w:=w.alloc (Oc (cfC u c) 45)) (b:=w.1.size+1) (by simp) 114 (foC 0 0 0 0 Vn 0);have k:=hiD (Av c D C _ _ (e.later d));obtain⟨a,F,rfl,h,i⟩:=n.form;unfold cfC foC at*;clear n e;go_enter func85,ntmps85;go_wp2_with fail;refine k.out.mono ?_;rintro x m ⟨rfl,g⟩;have f:=E.later g;obtain⟨y,z,r,t,A,s,o,q⟩:=f.g6;go_wp2_with fail;have l:Holds _ _ _ #[Vi 0,Vi 0,Vi 0,Vi 0,Vn,Vi (-1)]:=f.set 5 (Vi (-1));have j:=Holds.sets6 l (Vi 0) (Vi 0) (Vi 0) (Vi 0) Vn (Vi (-1));exact bodyPost_ret (xH rfl _ _ (w.1.size+1) 114 #[Vi 0,Vi 0,Vi 0,Vi 0,Vn,Vi (-1)] _ rfl j underlying114 rfl rfl) rfl ⟨rfl,Below.sets6 ((d.trans (g.mono d.size)).setCell (p:=Ad (w.1.size+1) 5) (by simp) _) (by simp) _ _ _ _ _ _⟩
theorem xG {P:Program} (w:World) (p F H f:TypeId) (k g o m s:Nat) (a:Addr) (r E:Nat) (e:Array Value) (t:TypeId) (d:List Value) (n:Nat)
  (D:P.underlying p=some (.slice f)) (q:(P.info? f).map (·.size)=some k)
  (y:w.1[g]?=some (.cells e t (0,0))) (B:n=Nat.min r m) (A:d.length=n*k)
  (C:∀j v,d[j]?=some v->w.cell? (a.add j)=some v) (x:o+d.length<=e.size) (u:∀v∈d,v.oneCell'=true):
  (Builtin.copy_ #[p,F] H #[Sq (some ⟨g,o,none⟩) m s,Sq (some a) r E]).run P w=
   .ok (goInt n) (w.setRow g (e.toList.take o++d++e.toList.drop (o+d.length)).toArray):=by
 have c:=run_loadCells_list (P:=P) w a d C;have b:=run_storeCells_at P g o t d 0 e w y (by simpa using x) u;cases l:P.info? f with
 |none=>simp[l]at q
 |some i=>
   have z:i.size=k:=by simpa[l]using q
   simp[Builtin.copy_,run_underlying D,Builtin.lenOf,Builtin.firstCells,sizeOf,typeInfo,l,z,<-B,<-A,c,b]
structure NmOk (cs:Array Value):Prop where
 size:cs.size=36
 one:cs.all (·.oneCell')=true
theorem lcells {P:Program} {w:World} {b t n:Nat} {a:Array Value} (h:Holds w b t a) (c:a.size=n):(loadCellsFrom ⟨b,0,none⟩ 0 n #[]).run P w= .ok a w:=by
 subst c;have:=run_loadCells_list (P:=P) w (Ad b 0) a.toList (fun j v d=>by
  rw[Addr.add_lit,dG,h.cell j];simpa using d)
 simpa[loadCells]using this
theorem scells {P:Program} {w:World} {b t:Nat} {c a:Array Value} (h:Holds w b t c) (e:c.size=a.size) (d:a.all (·.oneCell')=true):(storeCells ⟨b,0,none⟩ a.toList 0).run P w= .ok () (w.setRow b a):=by
 have:=run_storeCells_from (P:=P) b t a.toList 0 c w h (by simp;omega) (fun v f=>(Array.all_eq_true_iff_forall_mem.1 d) v (by simpa using f));simpa[e]using this
theorem Holds.setRow {w:World} {b t:Nat} {c:Array Value} (h:Holds w b t c) (a:Array Value):Holds (w.setRow b a) b t a:=setRow_heap w b c a t _ h
theorem Holds.farRow {w:World} {b d t:Nat} {c a:Array Value} (h:Holds w d t c) (e:d≠b):Holds (w.setRow b a) d t c:=(setRow_other w b d a e).trans h
def bindC (a:Array Value) (i:Nat) (e:Ev):Array Value:=
 (((((a.setIfInBounds (i*5) (Vi e.ts)).setIfInBounds (i*5+1) (Vi e.src)).setIfInBounds (i*5+2) (Vi e.seq)).setIfInBounds (i*5+3) (Vi e.kind)).setIfInBounds (i*5+4) (Vc e.re e.im)).setIfInBounds (30+i) (Vb true)
theorem De {c:Array Value} (h:c.all (·.oneCell')=true) (i:Nat) (v:Value) (d:v.oneCell'=true):(c.setIfInBounds i v).all (·.oneCell')=true:=by
 rw[Array.all_eq_true_iff_forall_mem]at h⊢;intro x a;rcases Array.mem_or_eq_of_mem_setIfInBounds a with a|rfl
 ·exact h _ a
 ·exact d
theorem NmOk.bind {a:Array Value} (h:NmOk a) (i:Nat) (e:Ev):NmOk (bindC a i e):=
 ⟨by unfold bindC;simp[h.size],by unfold bindC;exact De (De (De (De (De (De h.one _ _ rfl) _ _ rfl) _ _ rfl) _ _ rfl) _ _ rfl) _ _ rfl⟩
theorem Be {B g:Nat} {d w:World} (e:Below B d w) (f:B<=g) (c:Array Value):Below B d (w.setRow g c):=
 e.trans ⟨rfl,rfl,rfl,by simp[World.setRow],fun k a=>setRow_other w g k c (by omega)⟩
theorem QX (n:Array Value) (R:NmOk n) (i:Nat) (hi:i<6) (e:Ev) (w:World):Cs 339 #[.agg n,Vi i,evA e] w fun x w'=>x=Rt (.agg (bindC n i e))∧Bz w w':=by
 have a1:=isAgg399;have a6:=sizeOf399;have a0:=R.size;have a:∀j,j<36->∃c,n[j]?=some c:=fun j hj=>⟨_,jw (by omega)⟩;obtain⟨c0,P⟩:=a (i*5) (by omega);obtain⟨a3,g1⟩:=a (i*5+1) (by omega);obtain⟨c2,g2⟩:=a (i*5+2) (by omega);obtain⟨c3,g3⟩:=a (i*5+3) (by omega);obtain⟨c4,g4⟩:=a (i*5+4) (by omega);obtain⟨c5,y⟩:=a (30+i) (by omega);have a2:=hst1;have a7:∀(x:Array Value) (l k:Obj),x.size=36->(loadCellsFrom (Ad w.1.size 0) 0 36 #[]).run prog (((w.alloc (Oc x 399)).alloc l).alloc k)= .ok x (((w.alloc (Oc x 399)).alloc l).alloc k):=fun x l k E=>
  lcells (((Holds.fresh w 399 x).alloc l).alloc k) E
 have hS:∀(x z:Array Value) (l k:Obj),z.size=36->x.size=36->x.all (·.oneCell')=true->(storeCells (Ad (w.1.size+1+1) 0) x.toList 0).run prog (((w.alloc l).alloc k).alloc (Oc z 399))= .ok () ((((w.alloc l).alloc k).alloc (Oc z 399)).setRow (w.1.size+1+1) x):=fun x z l k hz E H=>
  scells (Holds.fresh' (w:=(w.alloc l).alloc k) (b:=w.1.size+1+1) (by simp) 399 z) (by omega) H
 have v:=R.bind i e;unfold bindC at v⊢;have r:=v.one;clear a;obtain⟨Z,X,V,T,U,M⟩:=e;simp only[evA,evV]at*;have H:(i:Int)<6:=by omega
 have a4:(0:Int)<=i:=by omega
 obtain⟨m,f⟩:=xR (((((n.setIfInBounds (i*5) (Vi Z)).setIfInBounds (i*5+1) (Vi X)).setIfInBounds (i*5+2) (Vi V)).setIfInBounds (i*5+3) (Vi T)).setIfInBounds (i*5+4) (Vc U M));have I:m[30+i]?=some c5:=by
  rw[<-f];simp(disch:=omega) only[Array.getElem?_setIfInBounds_ne];exact y
 have s:m.size=36:=by rw[<-f];simp[a0]
 have K:=hiD f;rw[f]at r⊢;have h:(m.setIfInBounds (30+i) (Vb true)).size=36:=by simp[s]
 clear v f;go_enter func339,ntmps339
 iterate 66 (first|go_values|go_skip|go_guarded|go_step|go_upon|go_back|go_simp)
 rw[K.out];clear K P g1 g2 g3 g4 y;obtain⟨W,q⟩:=xR (((w.alloc (Oc m 399)).alloc (Oc #[Vi Z,Vi X,Vi V,Vi T,Vc U M] 36)).alloc (Oc #[Vi 0,Vi 0,Vi 0,Vi 0,Vc 0 0,Vi 0,Vi 0,Vi 0,Vi 0,Vc 0 0,Vi 0,Vi 0,Vi 0,Vi 0,Vc 0 0,Vi 0,Vi 0,Vi 0,Vi 0,Vc 0 0,Vi 0,Vi 0,Vi 0,Vi 0,Vc 0 0,Vi 0,Vi 0,Vi 0,Vi 0,Vc 0 0,Vb false,Vb false,Vb false,Vb false,Vb false,Vb false] 399));have u:Holds W w.1.size 399 m:=by rw[<-q];exact((Holds.fresh w 399 m).alloc _).alloc _
 have J:Holds W (w.1.size+1+1) 399 #[Vi 0,Vi 0,Vi 0,Vi 0,Vc 0 0,Vi 0,Vi 0,Vi 0,Vi 0,Vc 0 0,Vi 0,Vi 0,Vi 0,Vi 0,Vc 0 0,Vi 0,Vi 0,Vi 0,Vi 0,Vc 0 0,Vi 0,Vi 0,Vi 0,Vi 0,Vc 0 0,Vi 0,Vi 0,Vi 0,Vi 0,Vc 0 0,Vb false,Vb false,Vb false,Vb false,Vb false,Vb false]:=by rw[<-q];exact Holds.fresh' (by simp) _ _
 have L:Bz w W:=by rw[<-q];exact(bB.alloc (by simp) _).alloc (by simp;omega) _
 have Q:=hiD q;rw[q];clear q;have F:=u.cell (30+i);rw[I]at F;have O:=u.free (30+i)
 iterate 6 (first|go_values|go_skip|go_guarded|go_step|go_upon|go_back|go_simp)
 obtain⟨t,d⟩:=xR (W.setCell (Ad w.1.size (30+i)) (Vb true));have S:Holds t w.1.size 399 (m.setIfInBounds (30+i) (Vb true)):=by rw[<-d];exact u.set _ _
 have D:Holds t (w.1.size+1+1) 399 #[Vi 0,Vi 0,Vi 0,Vi 0,Vc 0 0,Vi 0,Vi 0,Vi 0,Vi 0,Vc 0 0,Vi 0,Vi 0,Vi 0,Vi 0,Vc 0 0,Vi 0,Vi 0,Vi 0,Vi 0,Vc 0 0,Vi 0,Vi 0,Vi 0,Vi 0,Vc 0 0,Vi 0,Vi 0,Vi 0,Vi 0,Vc 0 0,Vb false,Vb false,Vb false,Vb false,Vb false,Vb false]:=by rw[<-d];exact J.far (p:=Ad w.1.size (30+i)) (by simp;omega) _
 have B:Bz w t:=by rw[<-d];exact L.setCell (p:=Ad w.1.size (30+i)) nLe _
 rw[d];clear d F O u J L Q I s;generalize C:m.setIfInBounds (30+i) (Vb true)=o at*
 iterate 2 (first|go_values|go_skip|go_guarded|go_step|go_upon|go_back|go_simp)
 refine wp_load_row 399 (.tmp 3) rfl w.1.size rfl 399 o (0,0) _ S underlying399 rfl (by rw[h];kernel_rfl) ?_
 iterate 2 (first|go_values|go_skip|go_guarded|go_step|go_upon|go_back|go_simp)
 refine wp_store_row 399 (.tmp 6) (.tmp 20) rfl (w.1.size+1+1) o rfl rfl 399 _ D (by rw[h];kernel_rfl) (by rw[h];rfl) r ?_;have N:=D.setRow o;have A:=Be (g:=w.1.size+1+1) B (by omega) o;generalize t.setRow (w.1.size+1+1) o=a5 at*;go_wp2_with fail;exact bodyPost_ret (zU rfl _ _ (w.1.size+1+1) 399 o _ rfl N underlying399 rfl (by rw[h];kernel_rfl)) rfl ⟨by rw[<-C],A⟩
theorem Iu:En0 368:=enters_of func368 rfl rfl
theorem IT (a:Option Addr) (m c:Nat) {e:Array Value} (f:e.size=36) (w:World):Cs 342 #[Sq a m c,.agg e] w fun x w'=>x=Rt (.func (.func 368) #[] #[Vp w.1.size 0,Vp (w.1.size+1) 0])∧Holds w' w.1.size 61 #[Sq a m c]∧Bz w w':=by
 have d:=hmf1;have z:=(Holds.fresh w 61 #[Sq a m c]).alloc (Oc e 399);have b:=(bA w (Oc #[Sq a m c] 61)).alloc (by simp) (Oc e 399);go_enter func342,ntmps342;go_wp2_with fail;go_ret;exact⟨rfl,z,b⟩
theorem LO (B N:Nat) (a:Option Addr) (c:Nat):Iter prog 368 #[Vp B 0,Vp N 0] (fun _=>#[Vb true]) 0 (fun W=>Holds W B 61 #[Sq a 0 c]):=by
 intro l J h W g d hF f b;have z:=hF 0 W b;have j:=z.cell 0;simp at j;have e:=hiD b;clear g d hF f b z;refine callsIn_of_wp func368 rfl trivial ?_ rfl;simp only[ntmps368,jW,jF,jO,Nat.reduceAdd,Nat.reduceSub,jR,jQ,jX,jU,jD,jE];gi_wp2;gi_loopw [5,8,9,10,11,12,13,14,15,16,17,18] (fun _ i _ _ _ _ _ _ _ _ _ _ wr=>i=Vi 0∧wr=W) (fun _ _ _ _ _ _ _ _ _ _ _ _ _=>0);case atStart=>exact⟨rfl,rfl⟩
 case round=>
  obtain⟨rfl,rfl⟩:=hrel;gi_wp2;go_end0;exact⟨⟨_,rfl⟩,.inl e.out⟩
theorem Mk (s:St) (V:s.6=[]) (i:Nat) (a8:i<6) {n:Array Value} (S:NmOk n) (e:Ev) (v:Value) (w:World) (X:yQ w v s.6):Cs 315 #[stA s v,Vi i,.agg n,evA e] w fun x w'=>x=Rt (Vb (decide (s.kind=e.kind)))∧Bz w w':=by
 rw[V]at X;obtain⟨a,c,rfl,_⟩:=X;have H:=hiD (fun B a0=>LO B a0 a c);have d:=QX n S i a8 e;have Z:=hiD (fun w=>IT a 0 c (S.bind i e).size w);have I:=S.size;generalize bindC n i e=ds at*;clear V S;obtain⟨t,l,m,q,y,cm⟩:=s;have af:=hst1;obtain⟨Q,N,K,J,r,g⟩:=e;simp only[evA,evV,stA]at*;have A:=(((bA w (Oc #[Vb t,Vi l,Vi m,Vi q,Vb y,Sq a 0 c] 63)).alloc (by simp) (Oc n 399)).alloc (by simp;omega) (Oc #[Vi Q,Vi N,Vi K,Vi J,Vc r g] 36)).alloc (by simp;omega) (Oc #[Vb false] 4);by_cases F:l=J
 ·subst F;have ad:(l !=l)=false:=by simp
  rw[decide_eq_true rfl];have l0:decide ((i:Int)<0)=false:=decide_eq_false (by omega);have l6:decide (6<=(i:Int))=false:=decide_eq_false (by omega);have y1:=(((Holds.fresh w 63 #[Vb t,Vi l,Vi m,Vi q,Vb y,Sq a 0 c]).alloc (Oc n 399)).alloc (Oc #[Vi Q,Vi N,Vi K,Vi l,Vc r g] 36)).alloc (Oc #[Vb false] 4);have y2:=((Holds.fresh' (w:=w.alloc (Oc #[Vb t,Vi l,Vi m,Vi q,Vb y,Sq a 0 c] 63)) (b:=w.1.size+1) (by simp) 399 n).alloc (Oc #[Vi Q,Vi N,Vi K,Vi l,Vc r g] 36)).alloc (Oc #[Vb false] 4);have u:=(Holds.fresh' (w:=(w.alloc (Oc #[Vb t,Vi l,Vi m,Vi q,Vb y,Sq a 0 c] 63)).alloc (Oc n 399)) (b:=w.1.size+1+1) (by simp) 36 #[Vi Q,Vi N,Vi K,Vi l,Vc r g]).alloc (Oc #[Vb false] 4);have P:=Holds.fresh' (w:=((w.alloc (Oc #[Vb t,Vi l,Vi m,Vi q,Vb y,Sq a 0 c] 63)).alloc (Oc n 399)).alloc (Oc #[Vi Q,Vi N,Vi K,Vi l,Vc r g] 36)) (b:=w.1.size+1+1+1) (by simp) 4 #[Vb false];refine qH func315 rfl ?_;simp only[ntmps315,jW,jF,jO,Nat.reduceAdd,Nat.reduceSub,jR,jQ,jX,jU,jD,jE];go_wp2_with fail;generalize (((w.alloc (Oc #[Vb t,Vi l,Vi m,Vi q,Vb y,Sq a 0 c] 63)).alloc (Oc n 399)).alloc (Oc #[Vi Q,Vi N,Vi K,Vi l,Vc r g] 36)).alloc (Oc #[Vb false] 4)=W at*;have q5:∀x:Lat W,Cq x.v w.1.size 5 (Sq a 0 c):=fun x=>x.cell (y1.cell 5);have O:∀w',(∃x:Lat W,w'=x.v)->(loadVar 399 (Ad (w.1.size+1) 0)).run prog w'= .ok (.agg n) w':=by
   rintro _ ⟨x,rfl⟩;exact run_loadVar_row x.v (w.1.size+1) 399 399 n (0,0) _ (y2.later x.h) underlying399 rfl (by rw[I];kernel_rfl)
  have e0:∀x:Lat W,Cq x.v (w.1.size+1+1) 0 (Vi Q):=fun x=>x.cell (u.cell 0);have e1:∀x:Lat W,Cq x.v (w.1.size+1+1) 1 (Vi N):=fun x=>x.cell (u.cell 1);have a7:∀x:Lat W,Cq x.v (w.1.size+1+1) 2 (Vi K):=fun x=>x.cell (u.cell 2);have e3:∀x:Lat W,Cq x.v (w.1.size+1+1) 3 (Vi l):=fun x=>x.cell (u.cell 3);have e4:∀x:Lat W,Cq x.v (w.1.size+1+1) 4 (Vc r g):=fun x=>x.cell (u.cell 4);have a5:=hiD (fun o (U:Bz W o)=>(d o).mono (fun e w' (h:e=_∧Bz o w')=>(⟨h.1,U.trans (h.2.mono U.size)⟩:e=_∧Bz W w')));have a1:=isAgg399;have z1:=sizeOf399;refine xO W 6 (by kernel_rfl) (by kernel_rfl) bRf ?_;simp only[jm,dF,dE,ju];clear d u
  repeat (go_big_quiet_step (fail))
  refine KH rfl 399 (.tmp 6) rfl (Ad (w.1.size+1) 0) rfl (.agg n) O ?_;simp only[Act.put,jC,jL,jK]
  repeat (go_big_quiet_step (first|with_reducible exact Lat.call a5.out _))
  refine wpQuiet_nil ?_;rintro C ⟨⟨_,f⟩,rfl⟩;clear O e0 e1 a7 e3 e4 q5;go_wp2_with fail;refine(Z.out _).mono ?_;rintro ag a6 ⟨rfl,a2,z⟩;go_wp2_with fail;have ab:=f.size;have k:Bz w a6:=(A.trans (f.mono A.size)).trans (z.mono (A.trans (f.mono A.size)).size);have a4:=(P.later f).later z;have ac:=P.size;refine kT rfl Iu (H.out C.1.size (C.1.size+1)) (fun _=>rfl)
   (fun i W=>i=0∧Holds W C.1.size 61 #[Sq a 0 c]∧Holds W (w.1.size+1+1+1) 4 #[Vb false]∧Bz w W) (fun _ _ _=>False)
   (fun i=>(qe.pure _).and ((qi _ _ _).and ((qi _ _ _).and (qe.below (by have:=k.size;omega) nLe)))) (fun _ _=>qe.pure _) (fun i W h=>h.2.1) ⟨rfl,a2,a4,k⟩
   (fun _=>⟨#[],[]⟩) (fun a9 i W aa R=>absurd R (Nat.not_lt_zero _)) (fun a9 i W _ R=>absurd R (Nat.not_lt_zero _)) ?_ (fun D c i W _ R=>absurd R (Nat.not_lt_zero _))
  rintro D o hD ⟨-,-,T,E⟩ a3;have f9:=T.free;have c9:=T.cell 0;simp at c9;show Exit.inBlock 0 _ _ _ _;go_wp2_with fail;have L:=T.set 0 (Vb true);have j:=(KeepsOthers.setCell o (Ad (w.1.size+1+1+1) 0) (Vb true)).same D _ a3 rfl;have M:=qW (c:= .deferred none) j rfl (L.cell 0);simp at M;refine qZ (v:=Vb true) j (by simp[results,results315,go_sem,M]) ⟨rfl,qB (E.setCell (p:=Ad (w.1.size+1+1+1) 0) (by show w.1.size<=w.1.size+1+1+1;omega) _) j (by have:=k.size;omega)⟩
 ·have ae:(l !=J)=true:=by simp[bne_iff_ne,F]
  rw[decide_eq_false F];refine qH func315 rfl ?_;simp only[ntmps315,jW,jF,jO,Nat.reduceAdd,Nat.reduceSub,jR,jQ,jX,jU,jD,jE];go_wp2_with fail;exact DP (v:=Vb false) (by simp[results,results315,go_sem]) ⟨rfl,A⟩
end
end Go.Proofs.YtnmpcdnbklmhkaaGreatDoor
