import Derived.Test.YtnmpcdnbklmhkaaGreatDoorQAl
import Derived.Deep.RegionLaw
import Derived.Deep.DrawnRows
import Derived.Deep.DeepCutAuto
import Derived.Deep.Onto
import Derived.Test.YtnmpcdnbklmhkaaGreatDoorQAk
import Derived.Test.YtnmpcdnbklmhkaaGreatDoorQAu
import Derived.Test.YtnmpcdnbklmhkaaGreatDoorQAi
import Derived.Lib.ItoaLen
import Derived.Deep.RegionHeld3
import Derived.Test.YtnmpcdnbklmhkaaGreatDoorQAe
import Derived.Test.YtnmpcdnbklmhkaaGreatDoorQAt
import Derived.Test.YtnmpcdnbklmhkaaGreatDoorQAm
import Derived.Test.YtnmpcdnbklmhkaaGreatDoorQAw
namespace Go.Proofs.YtnmpcdnbklmhkaaGreatDoor
open Go.Proofs.Tryz Go.RowKit
set_option maxRecDepth 100000
set_option linter.all false
set_option maxHeartbeats 8000000
section
attribute [local go_sem] Oper.semAt_some
attribute [local go_sem ↓] Go.wp_at_zero Go.wp_at_succ
theorem U1:(prog.info? 97).map (fun i=>(i.zero,i.size,i.bytes))=some (some (.agg #[Vu 0,Vu 0,Vi 0,Vi 0,Vi 0,Vu 0,Vi 0,Vi 0,Vi 0]),9,72):=by kernel_rfl
section
variable {w W : World} {ts : List Tok} {b blk off cap sb at0 : Nat} {nt : Bool} {k mn mx : Int} {strict : Bool} {v : Value} {cs : List Cm} {bad : Bool} {rc tc : Array Value}
end
theorem yG {W:World} {e:TypeId} {c n a:Nat} {v:Value} {d:List Value} (h:W.ownsRow a e c v n d) {j:Nat} (f:j<a):some j≠v.ownBlock:=fun e=>by
 have:=(h.lt j e.symm).1;omega
theorem OP {W:World} {l r n m s q:Nat} {e j:TypeId} {v k:Value} {t u:List Value} (h:W.ownsRow l e r v n t) (o:W.ownsRow m j s k q u) (p:e≠j):v.ownBlock=none∨v.ownBlock≠k.ownBlock:=by
 rcases h.2 with⟨rfl,_⟩|⟨g,x,f,rfl,_,i,_⟩
 ·exact .inl rfl
 ·rcases o.2 with⟨rfl,_⟩|⟨d,b,c,rfl,_,a,_⟩
  ·exact .inr (fun e=>by cases e)
  ·refine .inr fun e=>?_;obtain rfl:g=d:=by simpa[Value.ownBlock]using e
   rw[i]at a;simp at a;exact p a.2
def vQ (L:List (St×Value)):List Value:=L.flatMap fun p=>stV p.1 p.2
section
variable {w W W' : World} {ts : List Tok} {b blk off cap rb ob at0 at1 : Nat} {L : List (St × Value)} {v v' : Value} {win : Int} {bad bad1 : Bool}
theorem KY (L:List (St×Value)) (i:Nat) (q:St×Value) (h:L[i]?=some q) (j:Nat) (v:Value) (c:(stV q.1 q.2)[j]?=some v):(vQ L)[i*6+j]?=some v:=by
 unfold vQ
 induction L generalizing i with
 |nil=>simp at h
 |cons x r ih=>
   have b:(stV x.1 x.2).length=6:=rfl;cases i with
   |zero=>
     obtain rfl:x=q:=by simpa using h
     have a:j<6:=by have:=(jG.1 c).1;omega
     rw[List.flatMap_cons,List.getElem?_append_left (by omega)];simpa using c
   |succ i=>
     rw[List.flatMap_cons,List.getElem?_append_right (by omega),b,show (i+1)*6+j-6=i*6+j by omega];exact ih i (by simpa using h)
theorem KW {x:Nat} (h:W.ownsRow x 63 6 v L.length (vQ L)) (t:∀p∈L,yQ W p.2 p.1.6):qN W v (L.map Prod.fst):=by
 unfold qN;rw[List.length_map];rcases h.2 with⟨rfl,m⟩|⟨g,r,d,rfl,_,l,f,k,_⟩
 ·refine⟨none,0,by rw[m],by omega,by omega,fun _=>rfl,.inl (by rw[jV m];rfl)⟩
 ·refine⟨some (Ad g 0),r,rfl,by omega,by unfold maxLen at*;omega,(fun e=>nomatch e),.inr ⟨g,0,rfl,fun i s n=>?_⟩⟩;rw[List.getElem?_map]at n;obtain⟨q,a,rfl⟩:=Option.map_eq_some_iff.1 n;refine⟨q.2,t q (jY a),fun j u o=>?_⟩;have c:=(jG.1 a).1;have b:j<6:=(jG.1 o).1;rw[dG,h.cellAt (i*6+j) (by omega),KY L i q a j u o]
end
end
def BJ (l:List UInt8):List Tok:=(qk 0 l).map (·.t)++[⟨0,0,l.length⟩]
theorem Rl (l:List UInt8):(BJ l).length=(qk 0 l).length+1:=by simp[BJ]
theorem Mf {l:List UInt8} {d:List Tok} {p:Int} (h:zZ l=(d,p,0)):p=0∧l.length<=2000∧good (qk 0 l)∧d=BJ l:=by
 unfold zZ at h;split at h
 ·simp at h
 ·split at h
  ·simp at h
  ·rename_i g _ f;simp only[Prod.mk.injEq]at h;obtain⟨c,a,_⟩:=h;refine⟨a.symm,by omega,fun y b e=>?_,c.symm⟩;have:=List.find?_eq_none.1 f y b;simp[e]at this
theorem opOf_ok (l:List UInt8):(tokOf l).1=4->1<=(tokOf l).2.1:=by
 unfold tokOf;split
 ·split<;>simp
 ·split
  ·split
   ·simp
   ·split<;>simp
  ·split
   ·intro _;simp only;omega
   ·split<;>simp
theorem GM:∀(f a:Nat) (l:List UInt8),∀y∈yT f a l,y.t.kind=4->1<=y.t.n
 |0,_,_=>fun y h=>by simp[yT]at h
 |f+1,a,l=>fun y h=>by
   unfold yT at h;split at h
   ·simp at h
   ·rcases jI.1 h with rfl|h
    ·exact opOf_ok _
    ·split at h
     ·simp at h
     ·exact GM f _ _ y h
theorem NT:∀(a:List Tok) (e:Tok),(∀t∈a,t.kind≠0)->e.kind=0->endQ (a++[e])
 |[],_,_,he=>.inl ⟨he,rfl⟩
 |t::a,e,h,he=>.inr ⟨h t (by simp),NT a e (fun t c=>h t (List.mem_cons_of_mem _ c)) he⟩
theorem JH {l:List UInt8} (c:good (qk 0 l)):endQ (BJ l):=by
 refine NT _ _ (fun t d=>?_) rfl;obtain⟨y,a,rfl⟩:=List.mem_map.1 d;have:=(kS _ _ _ y a (c y a)).1;omega
theorem TY {l:List UInt8} (g:good (qk 0 l)):∀t∈BJ l,tokB t:=by
 intro t f;rcases List.mem_append.1 f with f|f
 ·obtain⟨y,a,rfl⟩:=List.mem_map.1 f;obtain⟨e,b,d,c⟩:=kS _ _ _ y a (g y a);exact⟨b,fun h=>⟨GM _ _ _ y a h,d h⟩,c⟩
 ·obtain rfl:=List.mem_singleton.1 f;exact⟨⟨Int.le_refl _,(by decide:(0:Int)<=1099511627776)⟩,fun h=>absurd (show (0:Int)=4 from h) (by decide),fun h=>absurd (show (0:Int)=2 from h) (by decide)⟩
theorem toksL_get {l:List UInt8} {k:Nat} {t:Tok} (h:(BJ l)[k]?=some t):(∃y,(qk 0 l)[k]?=some y∧y.t=t)∨(k=(qk 0 l).length∧t=⟨0,0,l.length⟩):=by
 unfold BJ at h;by_cases b:k<(qk 0 l).length
 ·rw[List.getElem?_append_left (by simpa using b),List.getElem?_map]at h;obtain⟨y,c,rfl⟩:=Option.map_eq_some_iff.1 h;exact .inl ⟨y,c,rfl⟩
 ·rw[List.getElem?_append_right (by simp;omega)]at h;rw[List.length_map]at h;have d:=(jG.1 h).1;simp only[List.length_singleton]at d;have a:k-(qk 0 l).length=0:=by omega
  rw[a]at h;simp only[jM,Option.some.injEq]at h;exact .inr ⟨by omega,h.symm⟩
theorem Mp {l:List UInt8} {k:Nat} {t:Tok} (h:(BJ l)[k]?=some t):∃c:Nat,t.at'=c∧c<=l.length:=by
 rcases toksL_get h with⟨y,a,rfl⟩|⟨_,rfl⟩
 ·have:=kE _ _ _ nLe y (jY a);exact⟨y.t.at'.toNat,by omega,by omega⟩
 ·exact⟨l.length,rfl,Nat.le_refl _⟩
theorem kg {l:List UInt8} {c:List Tok} (d:zZ l=(c,0,0)):(∀a,pPat c= .error a->zg l=(⟨[],0⟩,a,90))∧(∀p r,pPat c= .ok (p,r)->zg l=(p,0,0)):=by
 unfold zg;rw[d];exact⟨fun a h=>by simp[h],fun p r h=>by simp[h]⟩
section
attribute [local go_sem] Oper.semAt_some
theorem NA:En0 112:=enters_of func112 rfl rfl
theorem He (t:Tm) (w:World):Cs 66 #[tmA t] w fun e w'=>
  e=Rt (.func (.func 112) #[] #[Vp w.1.size 0])∧w.alloc (Oc (tmV t).toArray 95)=w':=by
 obtain⟨k,n,s,r⟩:=t;simp only[tmA,tmV];go_enter func66,ntmps66;go_wp2_with fail;go_ret;exact⟨rfl,rfl⟩
def BK (n:Int):List (List UInt8):=if 0<n then [[43],Lib.itoa n]else if n<0 then [Lib.itoa n]else []
def vT (t:Tm):List (List UInt8):=
 if t.kind=0 then [Lib.itoa t.n]else [yX t.kind.toNat,[40],qy t.s]++((if twoB t=true then [[44],qy t.r]else [])++([[41]]++BK t.n))
theorem Hj (t:Tm):(vT t).flatten=vl t:=by
 unfold vT vl BK JJ;by_cases a:t.kind=0
 ·simp[a]
 ·by_cases d:twoB t=true<;>by_cases c:0<t.n<;>by_cases b:t.n<0<;>simp[a,d,c,b]
theorem J0 {w:World} {B:Nat} {v:Value} {l:List Int} {n:Nat} (h:w.ownsRow B 3 1 v n (l.map (Value.int .i64))) (o:l.length=n) (p:0<n):
  ∃g m a,v=Sq (some ⟨g,0,none⟩) n m∧n<=m∧Holds w g 3 a∧∀(i:Nat) (x:Int),l[i]?=some x->a[i]?=some (Vi x):=by
 rcases h.2 with⟨_,f⟩|⟨g,m,a,rfl,f,e,k,j⟩
 ·omega
 ·have b:Holds w g 3 a:=e;refine⟨g,m,a,rfl,by omega,b,fun i x c=>?_⟩;have q:i<n:=by rw[<-o];exact(jG.1 c).1
  have d:=h.cellAt i (by omega);rw[b.cell i]at d;rw[d,List.getElem?_map,c];rfl
theorem I1 (n s r:Int) (B:Nat) (y:bnd n):Ky prog 112 #[Vp B 0] (fun i=>#[sV (atL [Lib.itoa n] i)]) 1
  (fun W=>Holds W B 95 #[Vu 0,Vi n,Vi s,Vi r]∧GP W) 3:=by
 intro l J W f hF h g;obtain⟨x,k⟩:=hF 0 W g;have d:=(callsIn_wide (n:=0)).2 (vI n y W k);obtain⟨C,u,D,E⟩:Cq W B 0 (Vu 0)∧Cq W B 1 (Vi n)∧Cq W B 2 (Vi s)∧Cq W B 3 (Vi r):=⟨x.cell 0,x.cell 1,x.cell 2,x.cell 3⟩;have H:=x.size;have o:=hiD f;clear f;have p:=hiD h;clear h hF;have m:=hiD d;clear d;refine callsIn_of_wp func112 rfl trivial ?_ rfl;simp only[ntmps112,jW,jF,jO,Nat.reduceAdd,Nat.reduceSub,jR,jQ,jX,jU,jD,jE];gi_wp2;refine⟨trivial,rfl,m.out.mono ?_⟩;rintro e j ⟨rfl,c⟩;have b:=(o.out 0).later g c;obtain⟨F,I,z,A,q,t⟩:=p.out 0 j (by simp) b;rw[show (#[sV (atL [Lib.itoa n] 0)]:Array Value)=#[sV (Lib.itoa n)]from rfl]at q;gi_wp2;refine⟨rfl,t.mono ?_⟩;rintro e v ⟨rfl,a,_⟩;gi_wp2;refine bodyPost_ret (results_none rfl _ _ _) rfl ?_;exact⟨⟨_,rfl⟩,a⟩
theorem I0 (k n s r:Int) (b2:0<k) (b3:k<7) (Z:twoB ⟨k,n,s,r⟩=false) (B:Nat) (X:bnd n) (T:List (List UInt8)) (t:BK n=T):Ky prog 112 #[Vp B 0] (fun ae=>#[sV (atL ([yX k.toNat,[40],qy s,[41]]++T) ae)]) (4+T.length)
  (fun W=>Holds W B 95 #[Vu k,Vi n,Vi s,Vi r]∧GP W) 3:=by
 intro b7 al W Q hF S P;obtain⟨f,hG⟩:=hF 0 W P;have b4:(k==0)=false:=by simp only[beq_eq_false_iff_ne];omega
 have N:=(callsIn_wide (n:=0)).2 (GO ⟨k,n,s,r⟩ W);rw[J1 (by simp only;omega) Z]at N;simp only[tmA]at N;obtain⟨c0,c1,c2,c3⟩:Cq W B 0 (Vu k)∧Cq W B 1 (Vi n)∧Cq W B 2 (Vi s)∧Cq W B 3 (Vi r):=⟨f.cell 0,f.cell 1,f.cell 2,f.cell 3⟩;have hl:=f.size;have U:=hiD Q;clear Q;have y:=hiD S;clear S;have l:=hiD hF;clear hF Z;have CN:=hiD N;clear N hG;refine callsIn_of_wp func112 rfl trivial ?_ rfl;simp only[ntmps112,jW,jF,jO,Nat.reduceAdd,Nat.reduceSub,jR,jQ,jX,jU,jD,jE];gi_wp2;refine⟨trivial,rfl,CN.out.mono ?_⟩;rintro e M ⟨v,rfl,o,a1⟩;have I:=(U.out 0).later P a1;obtain⟨g,av,aw,rfl,b1,a,q⟩:=J0 o rfl (by simp);obtain⟨w,H⟩:=l.out 0 M I;obtain⟨d0,J⟩:Cq M B 0 (Vu k)∧Cq M B 1 (Vi n):=⟨w.cell 0,w.cell 1⟩;obtain⟨m,rfl⟩:=jr (show 0<=k by omega);have aa:=H.head m (by omega);obtain⟨fn,b8,ap,aq,b,c⟩:=y.out 0 M (by omega) I;rw[show (#[sV (atL ([yX ((m:Nat):Int).toNat,[40],qy s,[41]]++T) 0)]:Array Value)=#[.string (UJ m)]from rfl]at b;clear w H o f c0 c1 c2 c3;gi_wp2;refine⟨rfl,c.mono ?_⟩;rintro e A ⟨rfl,ab,E⟩;replace a:=E _ _ a;obtain⟨ax,b9,aj,am,b,c⟩:=y.out 1 A (by omega) ab;rw[show (#[sV (atL ([yX ((m:Nat):Int).toNat,[40],qy s,[41]]++T) 1)]:Array Value)=#[.string ⟨#[40]⟩]from rfl]at b;clear d0 J aa E;have f0:Cq A g 0 (Vi s):=(a.cell 0).trans (q 0 s rfl);gi_wp2;refine⟨rfl,c.mono ?_⟩;rintro e p ⟨rfl,a6,L⟩;replace a:=L _ _ a;have f0:Cq p g 0 (Vi s):=(a.cell 0).trans (q 0 s rfl);have b0:=a.size;obtain⟨ay,ba,bb,ar,b,c⟩:=y.out 2 p (by omega) a6;rw[show (#[sV (atL ([yX ((m:Nat):Int).toNat,[40],qy s,[41]]++T) 2)]:Array Value)=#[sV (qy s)]from rfl]at b;have F:=(callsIn_wide (n:=0)).2 (vS s p);have CL:=hiD F;clear F L;gi_wp2;refine⟨trivial,rfl,CL.out.mono ?_⟩;rintro e w3 ⟨rfl,rfl⟩;gi_wp2;refine⟨rfl,c.mono ?_⟩;rintro e C ⟨rfl,a5,ac⟩;replace a:=ac _ _ a;gi_wp2
 all_goals
  gi_loopw [40] (fun af wr=>af=Vi 0∧C=wr) (fun _ _=>0);case atStart=>exact⟨rfl,rfl⟩
  case round=>
   obtain⟨rfl,rfl⟩:=hrel;obtain⟨az,ao,ak,au,b,c⟩:=y.out 3 C (by omega) a5;rw[show (#[sV (atL ([yX ((m:Nat):Int).toNat,[40],qy s,[41]]++T) 3)]:Array Value)=#[.string ⟨#[41]⟩]from rfl]at b;gi_wp2;refine⟨rfl,c.mono ?_⟩;rintro e O ⟨rfl,j,b5⟩;obtain⟨a9,a8⟩:=l.out 4 O j;have J:Cq O B 1 (Vi n):=a9.cell 1;by_cases x:0<n
   ·obtain rfl:T=[[43],Lib.itoa n]:=by rw[<-t];unfold BK;rw[if_pos x]
    obtain⟨a',an,ai,a3,b,c⟩:=y.out 4 O (by simp) j;rw[show (#[sV (atL ([yX ((m:Nat):Int).toNat,[40],qy s,[41]]++[[43],Lib.itoa n]) 4)]:Array Value)=#[.string ⟨#[43]⟩]from rfl]at b;gi_wp2;refine⟨rfl,c.mono ?_⟩;rintro e R ⟨rfl,D,b6⟩;obtain⟨a0,a2⟩:=l.out 5 R D;have d2:Cq R B 1 (Vi n):=a0.cell 1;have K:=(callsIn_wide (n:=0)).2 (vI n X R a2);have i:=hiD K;clear K;gi_wp2;refine⟨trivial,rfl,i.out.mono ?_⟩;rintro e z ⟨rfl,u⟩;have d:=(U.out 5).later D u;obtain⟨a4,ag,a7,ah,b,c⟩:=y.out 5 z (by simp) d;rw[show (#[sV (atL ([yX ((m:Nat):Int).toNat,[40],qy s,[41]]++[[43],Lib.itoa n]) 5)]:Array Value)=#[sV (Lib.itoa n)]from rfl]at b;gi_wp2;refine⟨rfl,c.mono ?_⟩;rintro e W7 ⟨rfl,h,ad⟩;gi_wp2
    first
     |(go_end0;exact⟨⟨_,rfl⟩,h⟩)
     |(refine bodyPost_ret (results_none rfl _ _ _) rfl ?_;exact⟨⟨_,rfl⟩,h⟩)
   ·by_cases V:n<0
    ·obtain rfl:T=[Lib.itoa n]:=by rw[<-t];unfold BK;rw[if_neg x,if_pos V]
     have K:=(callsIn_wide (n:=0)).2 (vI n X O a8);have i:=hiD K;clear K;gi_wp2;refine⟨trivial,rfl,i.out.mono ?_⟩;rintro e z ⟨rfl,u⟩;have d:=(U.out 4).later j u;obtain⟨a4,ag,a7,ah,b,c⟩:=y.out 4 z (by simp) d;rw[show (#[sV (atL ([yX ((m:Nat):Int).toNat,[40],qy s,[41]]++[Lib.itoa n]) 4)]:Array Value)=#[sV (Lib.itoa n)]from rfl]at b;gi_wp2;refine⟨rfl,c.mono ?_⟩;rintro e W7 ⟨rfl,h,ad⟩;gi_wp2
     first
      |(go_end0;exact⟨⟨_,rfl⟩,h⟩)
      |(refine bodyPost_ret (results_none rfl _ _ _) rfl ?_;exact⟨⟨_,rfl⟩,h⟩)
    ·obtain rfl:T=[]:=by rw[<-t];unfold BK;rw[if_neg x,if_neg V]
     gi_wp2
     first
      |(go_end0;exact⟨⟨_,rfl⟩,j⟩)
      |(refine bodyPost_ret (results_none rfl _ _ _) rfl ?_;exact⟨⟨_,rfl⟩,j⟩)
theorem IZ (k n s r:Int) (b7:0<k) (b8:k<7) (a0:twoB ⟨k,n,s,r⟩=true) (B:Nat) (hn:bnd n) (T:List (List UInt8)) (D:BK n=T):Ky prog 112 #[Vp B 0] (fun aq=>#[sV (atL ([yX k.toNat,[40],qy s,[44],qy r,[41]]++T) aq)]) (6+T.length)
  (fun W=>Holds W B 95 #[Vu k,Vi n,Vi s,Vi r]∧GP W) 3:=by
 intro ba a7 W N hF O M;obtain⟨i,hG⟩:=hF 0 W M;have b9:(k==0)=false:=by simp only[beq_eq_false_iff_ne];omega
 have Z:=(callsIn_wide (n:=0)).2 (GO ⟨k,n,s,r⟩ W);rw[JZ (by simp only;omega) a0]at Z;simp only[tmA]at Z;obtain⟨c0,c1,c2,c3⟩:Cq W B 0 (Vu k)∧Cq W B 1 (Vi n)∧Cq W B 2 (Vi s)∧Cq W B 3 (Vi r):=⟨i.cell 0,i.cell 1,i.cell 2,i.cell 3⟩;have hl:=i.size;have y:=hiD N;clear N;have u:=hiD O;clear O;have q:=hiD hF;clear hF a0;have CN:=hiD Z;clear Z hG;refine callsIn_of_wp func112 rfl trivial ?_ rfl;simp only[ntmps112,jW,jF,jO,Nat.reduceAdd,Nat.reduceSub,jR,jQ,jX,jU,jD,jE];gi_wp2;refine⟨trivial,rfl,CN.out.mono ?_⟩;rintro e V ⟨v,rfl,a1,ag⟩;have R:=(y.out 0).later M ag;obtain⟨g,aa,b1,rfl,a9,a,f⟩:=J0 a1 rfl (by simp);obtain⟨H,Q⟩:=q.out 0 V R;obtain⟨d0,J⟩:Cq V B 0 (Vu k)∧Cq V B 1 (Vi n):=⟨H.cell 0,H.cell 1⟩;obtain⟨m,rfl⟩:=jr (show 0<=k by omega);have aj:=Q.head m (by omega);obtain⟨fn,bb,ay,az,b,c⟩:=u.out 0 V (by omega) R;rw[show (#[sV (atL ([yX ((m:Nat):Int).toNat,[40],qy s,[44],qy r,[41]]++T) 0)]:Array Value)=#[.string (UJ m)]from rfl]at b;clear H Q a1 i c0 c1 c2 c3;gi_wp2;refine⟨rfl,c.mono ?_⟩;rintro e I ⟨rfl,ak,P⟩;replace a:=P _ _ a;obtain⟨b2,bc,ax,a',b,c⟩:=u.out 1 I (by omega) ak;rw[show (#[sV (atL ([yX ((m:Nat):Int).toNat,[40],qy s,[44],qy r,[41]]++T) 1)]:Array Value)=#[.string ⟨#[40]⟩]from rfl]at b;clear d0 J aj P;have K:Cq I g 0 (Vi s):=(a.cell 0).trans (f 0 s rfl);gi_wp2;refine⟨rfl,c.mono ?_⟩;rintro e A ⟨rfl,al,U⟩;replace a:=U _ _ a;have K:Cq A g 0 (Vi s):=(a.cell 0).trans (f 0 s rfl);have b4:=a.size;obtain⟨b3,bd,aw,b0,b,c⟩:=u.out 2 A (by omega) al;rw[show (#[sV (atL ([yX ((m:Nat):Int).toNat,[40],qy s,[44],qy r,[41]]++T) 2)]:Array Value)=#[sV (qy s)]from rfl]at b;have j:=(callsIn_wide (n:=0)).2 (vS s A);have CL:=hiD j;clear j U;gi_wp2;refine⟨trivial,rfl,CL.out.mono ?_⟩;rintro e w3 ⟨rfl,rfl⟩;gi_wp2;refine⟨rfl,c.mono ?_⟩;rintro e l ⟨rfl,z,am⟩;replace a:=am _ _ a;have K:Cq l g 0 (Vi s):=(a.cell 0).trans (f 0 s rfl);have f1:Cq l g 1 (Vi r):=(a.cell 1).trans (f 1 r rfl);have b5:¬aa=1:=by simp at a9;omega
 have b6:=a.size;gi_wp2;gi_loopw [40] (fun p wr=>(p=Vi 0∧l=wr)∨(p=Vi 1∧a7 5 wr)) (fun p _=>2-(intOf p).toNat);case atStart=>exact .inl ⟨rfl,rfl⟩
 case round=>
  rcases hrel with⟨rfl,rfl⟩|⟨rfl,z⟩
  ·obtain⟨ab,a4,av,a8,b,c⟩:=u.out 3 l (by omega) z;rw[show (#[sV (atL ([yX ((m:Nat):Int).toNat,[40],qy s,[44],qy r,[41]]++T) 3)]:Array Value)=#[.string ⟨#[44]⟩]from rfl]at b;have j:=fun w=>(callsIn_wide (n:=0)).2 (vS r w);have CL:=hiD j;clear j;gi_wp2;refine⟨rfl,c.mono ?_⟩;rintro e L ⟨rfl,d,an⟩;obtain⟨ac,a3,ar,a5,b,c⟩:=u.out 4 L (by omega) d;rw[show (#[sV (atL ([yX ((m:Nat):Int).toNat,[40],qy s,[44],qy r,[41]]++T) 4)]:Array Value)=#[sV (qy r)]from rfl]at b;gi_wp2;refine⟨trivial,rfl,(CL.out _).mono ?_⟩;rintro e w5 ⟨rfl,rfl⟩;gi_wp2;refine⟨rfl,c.mono ?_⟩;rintro e X ⟨rfl,x,ao⟩;gi_wp2;go_roundw;case rel=>exact .inr ⟨by go_num,x⟩
   case measure=>simp[intOf]
  ·obtain⟨ab,a4,av,a8,b,c⟩:=u.out 5 wr (by omega) z;rw[show (#[sV (atL ([yX ((m:Nat):Int).toNat,[40],qy s,[44],qy r,[41]]++T) 5)]:Array Value)=#[.string ⟨#[41]⟩]from rfl]at b;gi_wp2;refine⟨rfl,c.mono ?_⟩;rintro e L ⟨rfl,d,an⟩;obtain⟨ah,ae⟩:=q.out 6 L d;have J:Cq L B 1 (Vi n):=ah.cell 1;by_cases E:0<n
   ·obtain rfl:T=[[43],Lib.itoa n]:=by rw[<-D];unfold BK;rw[if_pos E]
    obtain⟨ac,a3,ar,a5,b,c⟩:=u.out 6 L (by simp) d;rw[show (#[sV (atL ([yX ((m:Nat):Int).toNat,[40],qy s,[44],qy r,[41]]++[[43],Lib.itoa n]) 6)]:Array Value)=#[.string ⟨#[43]⟩]from rfl]at b;gi_wp2;refine⟨rfl,c.mono ?_⟩;rintro e X ⟨rfl,x,ao⟩;obtain⟨ai,af⟩:=q.out 7 X x;have d2:Cq X B 1 (Vi n):=ai.cell 1;have S:=(callsIn_wide (n:=0)).2 (vI n hn X af);have o:=hiD S;clear S;gi_wp2;refine⟨trivial,rfl,o.out.mono ?_⟩;rintro e F ⟨rfl,C⟩;have h:=(y.out 7).later x C;obtain⟨ad,a2,au,a6,b,c⟩:=u.out 7 F (by simp) h;rw[show (#[sV (atL ([yX ((m:Nat):Int).toNat,[40],qy s,[44],qy r,[41]]++[[43],Lib.itoa n]) 7)]:Array Value)=#[sV (Lib.itoa n)]from rfl]at b;gi_wp2;refine⟨rfl,c.mono ?_⟩;rintro e W7 ⟨rfl,t,ap⟩;gi_wp2
    first
     |(go_end0;exact⟨⟨_,rfl⟩,t⟩)
     |(refine bodyPost_ret (results_none rfl _ _ _) rfl ?_;exact⟨⟨_,rfl⟩,t⟩)
   ·by_cases hm:n<0
    ·obtain rfl:T=[Lib.itoa n]:=by rw[<-D];unfold BK;rw[if_neg E,if_pos hm]
     have S:=(callsIn_wide (n:=0)).2 (vI n hn L ae);have o:=hiD S;clear S;gi_wp2;refine⟨trivial,rfl,o.out.mono ?_⟩;rintro e F ⟨rfl,C⟩;have h:=(y.out 6).later d C;obtain⟨ad,a2,au,a6,b,c⟩:=u.out 6 F (by simp) h;rw[show (#[sV (atL ([yX ((m:Nat):Int).toNat,[40],qy s,[44],qy r,[41]]++[Lib.itoa n]) 6)]:Array Value)=#[sV (Lib.itoa n)]from rfl]at b;gi_wp2;refine⟨rfl,c.mono ?_⟩;rintro e W7 ⟨rfl,t,ap⟩;gi_wp2
     first
      |(go_end0;exact⟨⟨_,rfl⟩,t⟩)
      |(refine bodyPost_ret (results_none rfl _ _ _) rfl ?_;exact⟨⟨_,rfl⟩,t⟩)
    ·obtain rfl:T=[]:=by rw[<-D];unfold BK;rw[if_neg E,if_neg hm]
     gi_wp2
     first
      |(go_end0;exact⟨⟨_,rfl⟩,d⟩)
      |(refine bodyPost_ret (results_none rfl _ _ _) rfl ?_;exact⟨⟨_,rfl⟩,d⟩)
theorem xt (n:Int) (h:bnd n):(Lib.itoa n).length<=21:=Lib.itoa_length_le n h.1 h.2
theorem kB (i:Int):(qy i).length<=1:=by unfold qy;split<;>simp
theorem Ti (k:Nat):(yX k).length<=1:=by unfold yX;split<;>simp
theorem QC (i:Int):(opT i).length<=2:=by
 unfold opT;split
 ·exact Bq _
 ·simp
theorem Ru (n:Int) (h:bnd n):(JJ n).length<=22:=by
 have:=xt n h;unfold JJ;split
 ·simp;omega
 ·split
  ·omega
  ·simp
theorem kV (t:Tm) (h:bnd t.n):(vl t).length<=30:=by
 have c:=xt t.n h;have a:=Ru t.n h;have d:=kB t.s;have b:=kB t.r;have e:=Ti t.kind.toNat;unfold vl;split
 ·omega
 ·split<;>simp only[jZ,jF,jO]<;>omega
theorem Rs (t:Tm) (f:0<=t.kind) (e:t.kind<7) (c:bnd t.n) (B:Nat):Ky prog 112 #[Vp B 0] (fun i=>#[sV (atL (vT t) i)]) (vT t).length
  (fun W=>Holds W B 95 (tmV t).toArray∧GP W) 3:=by
 obtain⟨k,n,s,r⟩:=t;simp only at f e c;by_cases a:k=0
 ·subst a;have:vT ⟨0,n,s,r⟩=[Lib.itoa n]:=by unfold vT;rw[if_pos rfl]
  rw[this];exact I1 n s r B c
 ·cases d:twoB ⟨k,n,s,r⟩
  ·have:vT ⟨k,n,s,r⟩=[yX k.toNat,[40],qy s,[41]]++BK n:=by
    unfold vT;rw[if_neg a,d];rfl
   rw[this,jZ];exact I0 k n s r (by omega) e d B c _ rfl
  ·have:vT ⟨k,n,s,r⟩=[yX k.toNat,[40],qy s,[44],qy r,[41]]++BK n:=by
    unfold vT;rw[if_neg a,d];rfl
   rw[this,jZ];exact IZ k n s r (by omega) e d B c _ rfl
theorem Gc (t:Tm) (f:0<=t.kind) (g:t.kind<7) (c:bnd t.n) (b:Nat) (w:World) (e:Holds w b 95 (tmV t).toArray) (d:GP w):
  Cs 65 #[.func (.func 112) #[] #[Vp b 0]] w (Rw w (sV (vl t))):=by
 have:=Lj 112 #[Vp b 0] NA (vT t) _ (Rs t f g c b) (by rw[Hj];have:=kV t c;omega) w (fun W a=>⟨e.later a,d.mono a⟩);rw[Hj]at this;exact this
theorem UY (w:World) (b:Nat) (e:w.1.size=b) (t:TypeId) (c:Cm):yQ (w.alloc (Oc (cmV c).toArray t)) (Sq (some ⟨b,0,none⟩) 1 1) [c]:=by
 subst e;refine⟨some (Ad w.1.size 0),1,rfl,Nat.le_refl _,by simp,(fun h=>nomatch h),.inr ⟨w.1.size,0,rfl,fun i a d j v g=>?_⟩⟩;have:i=0:=by have:=(jG.1 d).1;simp at this;omega
 subst this;simp only[jM,Option.some.injEq]at d;subst d;have f:=Holds.fresh w t (cmV c).toArray;rw[show 0+0*9+j=j from by omega,f.cell j];simpa using g
theorem Rv (w:World) (b:Nat) (d:w.1.size=b) (t:TypeId) (s:St) (v:Value) (g:yQ w v s.6):qN (w.alloc (Oc (stV s v).toArray t)) (Sq (some ⟨b,0,none⟩) 1 1) [s]:=by
 subst d;refine⟨some (Ad w.1.size 0),1,rfl,Nat.le_refl _,by simp,(fun h=>nomatch h),.inr ⟨w.1.size,0,rfl,fun i a c=>?_⟩⟩;have:i=0:=by have:=(jG.1 c).1;simp at this;omega
 subst this;simp only[jM,Option.some.injEq]at c;subst c;refine⟨v,g.mono bB nLe,fun j u f=>?_⟩;have e:=Holds.fresh w t (stV s v).toArray;rw[show 0+0*6+j=j from by omega,e.cell j];simpa using f
theorem pt_one (s:St):ptB ⟨[s],0⟩=stB s:=by simp[ptB,numB]
theorem st_zero (c:Cm):stB ⟨false,0,0,0,false,[c]⟩=cmB c:=by simp[stB,numB]
theorem Rz {c:Cm} (h:cmWf c):stWf ⟨false,0,0,0,false,[c]⟩:=⟨by simp[bnd],by simp[bnd],by simp[bnd],by simpa using h⟩
theorem RW (s:St) (d:stWf s) (v:Value) (w:World) (c:yQ w v s.6) (b:Nat) (a:w.1.size=b):Cs 15 #[.agg #[Sq (some ⟨b,0,none⟩) 1 1,Vi 0]] (w.alloc (Oc (stV s v).toArray 63)) fun e w'=>e=Rt (Vb (stB s))∧Below (w.1.size+1) (w.alloc (Oc (stV s v).toArray 63)) w':=by
 have:=Bk ⟨[s],0⟩ _ _ ⟨_,rfl,Rv w b a 63 s v c⟩ (by simpa using d);rw[pt_one]at this;exact this.mono fun _ _ h=>⟨h.1,by simpa using h.2⟩
theorem Ff (s:St) (j:stWf s) (v:Value) (w:World) (i:yQ w v s.6):Cs 42 #[stA s v] w (Rw w (Vb (stB s))):=by
 have b:=RW s j v (w.alloc (Oc (stV s v).toArray 63)) (i.mono bB nLe) (w.1.size+1) (by simp);generalize stB s=r at*;obtain⟨d,l,g,h,m,k⟩:=s;simp only[stA,stV]at*;have c:=hiD b;clear b i j;go_enter func42,ntmps42;go_wp2_with fail;refine c.out.mono ?_;rintro e f ⟨rfl,a⟩;go_wp2_with fail;go_ret;exact⟨rfl,(bB.alloc (by simp) _).trans (a.mono (by simp;omega))⟩
theorem Qs {t:Tm} (h:tmB t=true):t.kind<7:=((KR t).1 h).2.2.1
theorem kW (l:List UInt8) (n:Nat) (h:l.length<=n):∃A:ByteArray,sV l= .string A∧A.size<=n∧A=⟨l.toArray⟩:=
 ⟨⟨l.toArray⟩,rfl,by simpa[ByteArray.size]using h,rfl⟩
theorem U2 {c:Cm} (h:cmB c=true):cmpT c=vl c.l++opT c.op++vl c.r:=by unfold cmpT QV;rw[if_pos h]
theorem cmpT_no {c:Cm} (h:cmB c=false):cmpT c=[]:=by unfold cmpT;rw[h];rfl
theorem NZ (c:Cm) (h:cmWf c):(cmpT c).length<=62:=by
 have d:=kV c.l h.2.1.2.1;have a:=kV c.r h.2.2.2.1;have b:=QC c.op;unfold cmpT;split
 ·unfold QV;simp only[jZ];omega
 ·simp
theorem U3 {c:Cm} (h:cmB c=true):tmB c.l=true∧tmB c.r=true:=by
 simp only[cmB,jJ]at h;exact⟨h.1.2,h.2⟩
theorem keep9 {w W w':World} {b:Nat} {p q r s t u x y z:Value} (h:W.cell? ⟨b,0,none⟩=some p∧W.cell? ⟨b,1,none⟩=some q∧W.cell? ⟨b,2,none⟩=some r∧W.cell? ⟨b,3,none⟩=some s∧W.cell? ⟨b,4,none⟩=some t∧W.cell? ⟨b,5,none⟩=some u∧W.cell? ⟨b,6,none⟩=some x∧W.cell? ⟨b,7,none⟩=some y∧W.cell? ⟨b,8,none⟩=some z∧Bz w W) (n:Bz W w'):
  w'.cell? ⟨b,0,none⟩=some p∧w'.cell? ⟨b,1,none⟩=some q∧w'.cell? ⟨b,2,none⟩=some r∧w'.cell? ⟨b,3,none⟩=some s∧w'.cell? ⟨b,4,none⟩=some t∧w'.cell? ⟨b,5,none⟩=some u∧w'.cell? ⟨b,6,none⟩=some x∧w'.cell? ⟨b,7,none⟩=some y∧w'.cell? ⟨b,8,none⟩=some z∧Bz w w':=by
 obtain⟨f,g,d,j,e,k,m,o,l,a⟩:=h;have c:=fun {i:Nat} {v:Value} (h:Cq W b i v)=>qd n nLe h;exact⟨c f,c g,c d,c j,c e,c k,c m,c o,c l,a.trans (n.mono a.size)⟩
theorem QM {a c d e f g i j k q:Prop} (h:a∧c∧d∧e∧f∧g∧i∧j∧k∧q):q:=h.2.2.2.2.2.2.2.2.2
theorem R6 (c:Cm) (u:cmWf c) (w:World) (f:GP w):Cs 44 #[cmA c] w (Rw w (sV (cmpT c))):=by
 have h:=Ff ⟨false,0,0,0,false,[c]⟩ (Rz u) _ ((w.alloc (Oc (cmV c).toArray 97)).alloc (Oc (cmV c).toArray 97)) (UY _ (w.1.size+1) (by simp) _ _);rw[st_zero]at h;have X:=((Holds.fresh w 97 (cmV c).toArray).alloc (Oc (cmV c).toArray 97));have o:=(bA w (Oc (cmV c).toArray 97)).alloc (by simp) (Oc (cmV c).toArray 97);have j:=hiD o;clear o;have H:=hiD X;clear X;cases y:cmB c
 ·rw[cmpT_no y];rw[y]at h;clear y u;obtain⟨U,⟨k,n,s,r⟩,⟨v,C,D,E⟩⟩:=c;simp only[cmA,stA,cmV]at*;have q:=hiD h;clear h;go_enter func44,ntmps44;go_wp2_with fail;refine zE 0 rfl ?_;go_wp2_with fail;refine q.out.mono ?_;rintro e d ⟨rfl,a⟩;go_wp2_with fail;apply wp_goto;refine xS ?_;go_wp2_with fail;rw[dD];go_ret;exact⟨rfl,j.out.trans (a.mono (by simp;omega))⟩
 ·rw[y]at h;obtain⟨z,V⟩:=U3 y;obtain⟨A,I,a6,L⟩:=kW (vl c.l) 30 (kV _ u.2.1.2.1);obtain⟨O,M,a5,J⟩:=kW (opT c.op) 2 (QC _);obtain⟨B,F,a4,K⟩:=kW (vl c.r) 30 (kV _ u.2.2.2.1);have g:sV (cmpT c)= .string (A++O++B):=by
   rw[U2 y,L,J,K,AS,AS];rfl
  have m:=fun W=>He c.l W;have p:=fun W=>He c.r W;have i:=fun b W t f=>Gc c.l u.2.1.1.1 (Qs z) u.2.1.2.1 b W t f;have l:=fun b W t f=>Gc c.r u.2.2.1.1 (Qs V) u.2.2.2.1 b W t f;have x:=fun W f=>Ue c.op u.1 W f;rw[I]at i;rw[F]at l;rw[M]at x;clear y u z V I M F L J K;obtain⟨U,⟨k,n,s,r⟩,⟨v,C,D,E⟩⟩:=c;simp only[cmA,stA,cmV,tmA,tmV]at*;rw[g];have q:=hiD h;clear h g;have a0:=hiD m;clear m;have a2:=hiD p;clear p;have a3:=hiD i;clear i;have a1:=hiD l;clear l;have T:=hiD x;clear x;have g1:¬9223372036854775807<A.size+O.size:=by omega
  have g2:¬9223372036854775807<A.size+O.size+B.size:=by omega
  go_enter func44,ntmps44;go_wp2_with fail;refine zE 0 rfl ?_;go_wp2_with fail;refine q.out.mono ?_;rintro e d ⟨rfl,a⟩;have t:=H.out.later a;have z:=t.size;have N:=hiD (j.out.trans (a.mono (by simp;omega)));obtain⟨Z,P,c2,c3,c4⟩:Cq d w.1.size 0 (Vu U)∧Cq d w.1.size 1 (Vu k)∧Cq d w.1.size 2 (Vi n)∧Cq d w.1.size 3 (Vi s)∧Cq d w.1.size 4 (Vi r):=⟨t.cell 0,t.cell 1,t.cell 2,t.cell 3,t.cell 4⟩;obtain⟨c5,Q,R,S⟩:Cq d w.1.size 5 (Vu v)∧Cq d w.1.size 6 (Vi C)∧Cq d w.1.size 7 (Vi D)∧Cq d w.1.size 8 (Vi E):=⟨t.cell 5,t.cell 6,t.cell 7,t.cell 8⟩;clear a t H q j;go_wp2_with fail;go_region_held3 (fun w'=>Cq w' w.1.size 0 (Vu U)∧Cq w' w.1.size 1 (Vu k)∧Cq w' w.1.size 2 (Vi n)∧Cq w' w.1.size 3 (Vi s)∧Cq w' w.1.size 4 (Vi r)∧Cq w' w.1.size 5 (Vu v)∧Cq w' w.1.size 6 (Vi C)∧Cq w' w.1.size 7 (Vi D)∧Cq w' w.1.size 8 (Vi E)∧Bz w w')
   (first|exact⟨Z,P,c2,c3,c4,c5,Q,R,S,N.out.drew⟩|exact keep9 (by assumption) a|exact keep9 (by assumption) bB|assumption)
   (first
    |(go_at_call 66;refine(a0.out _).mono ?_;rintro e d ⟨rfl,rfl⟩)
    |(go_at_call 66;refine(a2.out _).mono ?_;rintro e d ⟨rfl,rfl⟩)
    |(go_at_call 65;refine(a3.out _ _ (Holds.fresh _ _ _).drew (f.mono (QM (by assumption)))).mono ?_;rintro e d ⟨rfl,a⟩)
    |(go_at_call 65;refine(a1.out _ _ (Holds.fresh _ _ _) (f.mono (QM (by assumption)))).mono ?_;rintro e d ⟨rfl,a⟩)
    |(go_at_call 67;refine(T.out _ (f.mono (QM (by assumption)))).mono ?_;rintro e d ⟨rfl,rfl⟩))
  go_wp2_with fail;rw[qU];go_ret;exact⟨rfl,QM (by assumption)⟩
end
theorem str_ne {l:List UInt8} (h:l≠[]):(⟨l.toArray⟩:ByteArray).toList.isEmpty=false∧¬(⟨l.toArray⟩:ByteArray).toList=[]:=by
 rw[ByteArray.toList_eq];exact⟨by simpa using h,by simpa using h⟩
section
attribute [local go_sem] Oper.semAt_some
def yC (n:Int):Nat->List Int
 |0=>[]
 |m+1=>List.replicate m 0++[n]
theorem AH (n:Int) (m:Nat) (h:1<=m):(yC n m).length=m:=by
 cases m with
 |zero=>omega
 |succ m=>simp[yC]
theorem OK (n:Int) (m i:Nat) (h:1<=m) (a:i<m):(yC n m)[i]'(by rw[AH _ _ h];exact a)=if m-1-i=0 then n else 0:=by
 cases m with
 |zero=>omega
 |succ m=>
   simp only[yC];by_cases e:i=m
   ·subst e;simp
   ·rw[List.getElem_append_left (by simp;omega)];simp;omega
theorem TI (n:Int) (a:0<=n) (c:n<=255):bits BinOp.and IntKind.i64 n 255%256=n:=by
 have h:∀k:Fin 256,bits BinOp.and IntKind.i64 (k.val:Int) 255%256=k.val:=by decide+kernel
 obtain⟨k,rfl⟩:=jr a;exact h ⟨k,by omega⟩
theorem ky (n k:Int) (h:0<=n∧n<=255∧k<=8∧1<=k) (w:World):
  Cs 26 #[Vi n,Vi k] w fun e w'=>∃v,e=Rt v∧w'.ownsRow w.1.size 5 1 v k.toNat ((yC n k.toNat).map (Value.int .u8))∧Bz w w':=by
 obtain⟨m,rfl⟩:∃m:Nat,k=m:=⟨k.toNat,by omega⟩;obtain⟨F,M,R,g⟩:=h;rw[Int.toNat_natCast];replace R:m<=8:=by omega
 replace g:1<=m:=by omega
 obtain⟨W,y,t,E,z⟩:=iP5;have Q:max (m:Int) 0=m:=by omega
 have L:min (m:Int) 8=m:=by omega
 go_enter func26,ntmps26;go_wp2_with fail;go_loopw [5,6] (fun o q wr=>∃(i:Nat),i<=m∧q=Vi ((m:Int)-1-i)∧wr.ownsRow w.1.size 5 1 o i (((yC n m).take i).map (Value.int .u8))∧Bz w wr) (fun _ q _=>(intOf q+1).toNat);case atStart=>exact⟨0,jg _,by simp,js _ _ _ _,Below.refl _ _⟩
 case round=>
  obtain⟨i,X,rfl,a,r⟩:=hrel;by_cases l:i<m
  ·obtain⟨e,u⟩:∃e:Nat,(m:Int)-1-i=e:=⟨m-1-i,by omega⟩;rw[u];obtain⟨H,K,p⟩:=qh a;subst p;have U:bits BinOp.and IntKind.i64 (n/2^(8*e)) 255%256=(if e=0 then n else 0):=by
    by_cases h:e=0
    ·subst h;simp only[Nat.mul_zero,Int.pow_zero,Int.ediv_one,if_true];exact TI n F M
    ·rw[if_neg h];have Z:(256:Int)<=2^(8*e):=by
      obtain⟨f,rfl⟩:∃f,e=f+1:=⟨e-1,by omega⟩;rw[Nat.mul_add,Nat.mul_one,Int.pow_add];have:(0:Int)<2^(8*f):=Int.pow_pos (by decide);omega
     rw[Int.ediv_eq_zero_of_lt F (by omega)];rfl
   have S:i<8:=by omega
   have j:(yC n m).take (i+1)=(yC n m).take i++[if e=0 then n else 0]:=by
    rw[ja (by rw[AH _ _ g];exact l),OK n m i g l];congr 3;simp;omega
   obtain⟨V,J⟩:=xR (if e=0 then n else 0);rw[J]at U j;clear J;have s:=r.alloc r.size (Oc #[Vu V] 5);have c:=hiD (a.alloc (Oc #[Vu V] 5));have x:=hiD j;have A:=hiD r.size;clear a j;go_wp2_with (at_builtin;rw[U];refine wpList_append_own _ rfl _ _ 33 rfl w.1.size 5 W (Vu 0) 1 1 underlying33 y t E z rfl (by decide) (Sq H i K) i _ rfl c.out (Ad wr.1.size 0) 1 1 [Vu V] rfl rfl ?c1 ?c2 ?c3 ?c4 ?c5 ?_);case c1=>exact qR wr [Vu V] 5
   case c2=>
    intro a0 I;simp only[jI,jH,or_false]at I;subst I;rfl
   case c3=>unfold maxLen;omega
   case c4=>omega
   case c5=>have:=A.out;simp;omega
   intro T O a d _;have C:=s.grown d s.size (fun b r=>qE c.out b r);obtain⟨N,P,D⟩:=qh a;subst D;have B:=hiD (show O.ownsRow w.1.size 5 1 (Sq N (i+1) P) (i+1) (((yC n m).take (i+1)).map (Value.int .u8)) by rw[x.out,dC,List.map_take];exact a);clear d a c;go_wp2_with fail;exact⟨⟨i+1,l,by congr 1;push_cast;omega,B.out,C⟩,by simp[intOf]⟩
  ·obtain rfl:i=m:=by omega
   obtain⟨H,K,p⟩:=qh a;subst p;have c:=hiD a;clear a;have u:(i:Int)-1-i=-1:=by omega
   rw[u];go_wp2_with fail;go_ret;refine⟨_,rfl,?_,r⟩;have:=c.out;rwa [jy (by rw[AH _ _ g];exact Nat.le_refl _)]at this
def rcOf (e:Ev):Rc:=⟨1,e,0,0⟩
def rcMk (a c:Int):Rc:=⟨2,ev0,a,c⟩
theorem Qy (e:Ev) (w:World):Cs 8 #[evA e] w fun r w'=>r=Rt (rcA (rcOf e))∧Bz w w':=by
 obtain⟨i,g,f,c,d,b⟩:=e;simp only[evA,evV,rcOf,rcA,rcV,jE,jD];have a:=hst1;go_enter func8,ntmps8;go_wp2_with fail;refine bodyPost_ret (zU rfl _ _ (w.1.size+1) 38 _ _ rfl (Holds.fresh' (by simp) _ _) underlying38 rfl rfl) rfl ⟨rfl,?_⟩;exact bB.alloc (by simp) _
theorem R5 (e:Ev) (w:World):Cs 101 #[evA e] w fun r w'=>r=Rt (rcA (rcOf e))∧Bz w w':=by
 obtain⟨i,g,f,c,d,b⟩:=e;simp only[evA,evV,rcOf,rcA,rcV,jE,jD];have a:=hst1;go_enter func101,ntmps101;go_wp2_with fail;refine bodyPost_ret (zU rfl _ _ (w.1.size+1) 38 _ _ rfl (Holds.fresh' (by simp) _ _) underlying38 rfl rfl) rfl ⟨rfl,?_⟩;exact bB.alloc (by simp) _
theorem R1 (c d:Int) (w:World):Cs 9 #[Vi c,Vi d] w fun r w'=>r=Rt (rcA (rcMk c d))∧Bz w w':=by
 simp only[rcMk,rcA,rcV,ev0,evV,jE,jD];have a:=hst1;go_enter func9,ntmps9;go_wp2_with fail;refine bodyPost_ret (zU rfl _ _ w.1.size 38 _ _ rfl (Holds.fresh _ 38 _) underlying38 rfl rfl) rfl ⟨rfl,?_⟩;exact bB
theorem MO (e:Ev) (f:e=l1∨e=l2) (w:World):Cs 25 #[rcA (rcOf e)] w fun r w'=>r=Rt (Vb true)∧Bz w w':=by
 have a:=hiD (OU e (f.imp id .inl));rcases f with rfl|rfl
 all_goals
  simp only[evA,evV,rcOf,rcA,rcV,l1,l2,jE,jD]at a⊢;have b:=hst1;go_enter func25,ntmps25;go_wp2_with fail;refine(a.out _).mono ?_;rintro r d ⟨rfl,c⟩;go_wp2_with fail;go_ret;exact⟨rfl,(bB.alloc (by simp) _).trans (c.mono (by simp;omega))⟩
theorem MN (w:World):Cs 25 #[rcA (rcMk 0 4)] w fun r w'=>r=Rt (Vb true)∧Bz w w':=by
 have b:=hiD R3;simp only[rcMk,evA,evV,ev0,rcA,rcV,jE,jD]at b⊢;have c:=hst1;go_enter func25,ntmps25;go_wp2_with fail;refine(b.out _).mono ?_;rintro r d ⟨rfl,a⟩;have g:=(Holds.fresh w 38 #[Vu 2,Vi 0,Vi 0,Vi 0,Vi 0,Vc 0 0,Vi 0,Vi 4]).later a;obtain⟨-,-,-,-,-,-,e,f,-⟩:=g.g8;go_wp2_with fail;go_ret;exact⟨rfl,bB.trans (a.mono (by simp))⟩
theorem yL {w:World} {t E n:Nat} {o:IntKind} {v:Value} {l:List Int} (h:w.ownsRow t E 1 v n (l.map (Value.int o))) (u:n<=1000):∃a c,v=Sq a n c∧l.length=n∧(a=none->c=0)∧zA w o a l:=by
 have s:l.length=n:=by have:=h.1;simpa using this
 subst s;rcases h.2 with⟨rfl,q⟩|⟨g,p,b,rfl,_,j,m,k,x,f⟩
 ·have:=jV q;subst this;exact⟨none,0,rfl,rfl,fun _=>rfl,zA.none _ _ _⟩
 ·refine⟨some (Ad g 0),p,rfl,rfl,(fun e=>nomatch e),by omega,.inr ⟨g,0,rfl,fun i r=>?_⟩⟩;have d:w.cell? (Ad g (0+i))=b[i]?:=by simp[World.cell?,j]
  rw[d];have e:(b.toList.take (l.length*1))[i]?=(l.map (Value.int o))[i]?:=by rw[f]
  rw[List.getElem?_take_of_lt (by omega)]at e;simp[r]at e⊢;exact e
theorem yb {w w':World} {b t E j k n:Nat} {d:Array Value} {v:Value} {l:List Value} (h:Holds w b t d) (g:w.ownsRow j E k v n l) (f:w.grownBy w' v.ownBlock) (i:t≠E):Holds w' b t d:=by
 refine h.grown f (fun e=>?_);obtain⟨c,q,a⟩:=qP g e.symm;have:=h.symm.trans a;simp at this;exact i this.2.1
theorem M6 {w:World} {n m E k c:Nat} {v:Value} {d:List Value} (h:w.ownsRow n E k v c d) (i:m<=n):w.ownsRow m E k v c d:=by
 refine⟨h.1,?_⟩;rcases h.2 with h|⟨g,e,a,f,b,h⟩
 ·exact .inl h
 ·exact .inr ⟨g,e,a,f,by omega,h⟩
def evB5 (e:Ev):List Int:=[1]++yC e.ts 6++yC 0 1++yC 0 3++yC e.kind 1++yC 0 4++yC 0 4
def mkB5:List Int:=[2]++yC 0 1++yC 4 6
theorem RZ (w:World):Cs 10 #[rcA (rcMk 0 4)] w fun r w'=>∃v,r=Rt (.tuple #[v,Vi 0])∧w'.ownsRow w.1.size 5 1 v 8 (mkB5.map (Value.int .u8))∧Bz w w':=by
 have B:=hst1;obtain⟨O,p,o,t,q⟩:=iP5;have s:=hiD MN;have C:=hiD ky;simp only[rcMk,evV,ev0,rcA,rcV,jE,jD]at s⊢;go_enter func10,ntmps10;go_wp2_with fail;have n:=(Holds.fresh w 38 #[Vu 2,Vi 0,Vi 0,Vi 0,Vi 0,Vc 0 0,Vi 0,Vi 4]);have d:=bA w (Oc #[Vu 2,Vi 0,Vi 0,Vi 0,Vi 0,Vc 0 0,Vi 0,Vi 4] 38);generalize w.alloc (Oc #[Vu 2,Vi 0,Vi 0,Vi 0,Vi 0,Vc 0 0,Vi 0,Vi 4] 38)=L at*;refine(s.out _).mono ?_;rintro r W ⟨rfl,e⟩;replace n:=n.later e;replace d:=d.trans (e.mono d.size);obtain⟨P,-,-,-,-,-,H,l,-⟩:=n.g8;have A:=l;have J:=n.size;clear e s;go_wp2_with fail;have h:=(Below.refl W.1.size W).alloc nLe (Oc #[Vu 2] 5);have a:=(show (W.alloc (Oc #[Vu 2] 5)).ownsRow W.1.size 5 1 (Vs W.1.size 0 1 1) 1 ([2].map (Value.int .u8))from World.ownsRow_lit W #[Vu 2] 1 nLe (by decide) rfl);generalize W.alloc (Oc #[Vu 2] 5)=M at*;have m:=hiD a;clear a
 iterate 2
  refine(C.out _ _ ?_ _).mono ?_
  ·omega
  rintro r D ⟨v,rfl,N,f⟩;simp only[Int.reduceToNat]at N;obtain⟨y,z,rfl,-,x,i⟩:=yL N (by decide);replace h:=h.trans (f.mono h.size);have g:=hiD (zD m.out f);have k:=hiD i;have j:=hiD x;have u:=hiD h.size;clear N i x f m;go_wp2_with (at_builtin;refine zK rfl _ _ 33 rfl W.1.size 5 O (Vu 0) 1 underlying33 p o t q rfl .u8 _ _ _ rfl g.out y _ z _ rfl rfl k.out j.out (by decide) (by decide) u.out ?_;intro F E a c;refine Hid.out ?_);apply hiD;replace h:=h.grown c h.size (fun b d=>qE g.out b d);rw[<-dC]at a;obtain⟨I,K,rfl⟩:=qh a;replace A:=qd h nLe l;have m:=hiD a;clear c a k j u g;go_wp2_with fail
 go_ret2;exact⟨_,rfl,M6 m.out d.size,d.trans (h.mono d.size)⟩
theorem JS (e:Ev) (W:e=l1∨e=l2) (w:World):Cs 10 #[rcA (rcOf e)] w fun r w'=>∃v,r=Rt (.tuple #[v,Vi 0])∧w'.ownsRow w.1.size 5 1 v 20 ((evB5 e).map (Value.int .u8))∧Bz w w':=by
 have I:=hst1;obtain⟨Z,s,q,y,u⟩:=iP5;have x:=hiD (MO e W);have C:=hiD ky;have E:=hiD ref2_X;have D:=hiD ref2_Y;obtain⟨U,n,rfl,h0,h1,h2,h3⟩:∃U n,e=⟨U,0,0,n,0,0⟩∧0<=U∧U<=255∧0<=n∧n<=255:=by rcases W with rfl|rfl<;>exact⟨_,_,rfl,by decide⟩
 clear W;simp only[rcOf,evV,evB5,rcA,rcV,jE,jD]at x⊢;go_enter func10,ntmps10;go_wp2_with fail;have V:=(Holds.fresh w 38 #[Vu 1,Vi U,Vi 0,Vi 0,Vi n,Vc 0 0,Vi 0,Vi 0]);have i:=bA w (Oc #[Vu 1,Vi U,Vi 0,Vi 0,Vi n,Vc 0 0,Vi 0,Vi 0] 38);generalize w.alloc (Oc #[Vu 1,Vi U,Vi 0,Vi 0,Vi n,Vc 0 0,Vi 0,Vi 0] 38)=T at*;refine(x.out _).mono ?_;rintro r d ⟨rfl,j⟩;replace V:=V.later j;replace i:=i.trans (j.mono i.size);clear j x;obtain⟨c0,L,c2,c3,c4,c5,-⟩:=V.g6;have Q:=V.size;have M:w.1.size≠d.1.size:=by omega
 go_wp2_with fail;have h:=((Below.refl d.1.size d).alloc nLe (Oc #[Vu 1] 5)).alloc (by simp) (Oc #[Vi U,Vi 0,Vi 0,Vi n,Vc 0 0] 36);have p:=hiD (show ((d.alloc (Oc #[Vu 1] 5)).alloc (Oc #[Vi U,Vi 0,Vi 0,Vi n,Vc 0 0] 36)).ownsRow d.1.size 5 1 (Vs d.1.size 0 1 1) 1 ([1].map (Value.int .u8))from(World.ownsRow_lit d #[Vu 1] 1 nLe (by decide) rfl).alloc _);have o:=hiD (show Holds ((d.alloc (Oc #[Vu 1] 5)).alloc (Oc #[Vi U,Vi 0,Vi 0,Vi n,Vc 0 0] 36)) (d.1.size+1) 36 #[Vi U,Vi 0,Vi 0,Vi n,Vc 0 0]from Holds.fresh' (by simp) _ _);generalize (d.alloc (Oc #[Vu 1] 5)).alloc (Oc #[Vi U,Vi 0,Vi 0,Vi n,Vc 0 0] 36)=a0 at*
 iterate 6
  try (refine(E.out _).mono ?_;rintro r t ⟨rfl,rfl⟩;go_wp2_with fail)
  try (refine(D.out _).mono ?_;rintro r t ⟨rfl,rfl⟩;go_wp2_with fail)
  refine(C.out _ _ ?_ _).mono ?_
  ·omega
  rintro r J ⟨v,rfl,X,f⟩;simp only[Int.reduceToNat]at X;obtain⟨F,H,rfl,-,A,k⟩:=yL X (by decide);replace h:=h.trans (f.mono h.size);have g:=hiD (zD p.out f);have m:=hiD k;have l:=hiD A;have z:=hiD h.size;have B:=hiD (o.out.later f);clear X k A f p o;go_wp2_with (at_builtin;refine zK rfl _ _ 33 rfl d.1.size 5 Z (Vu 0) 1 underlying33 s q y u rfl .u8 _ _ _ rfl g.out F _ H _ rfl rfl m.out l.out (by decide) (by decide) z.out ?_;intro N K c a;refine Hid.out ?_);apply hiD;replace h:=h.grown a h.size (fun b i=>qE g.out b i);rw[<-dC]at c;obtain⟨P,R,rfl⟩:=qh c;have o:=hiD (yb B.out g.out a (by decide));obtain⟨-,d1,d2,S,O,-⟩:=o.out.g5;have p:=hiD c;clear B a c m l z g;go_wp2_with fail
 go_ret2;exact⟨_,rfl,M6 p.out i.size,i.trans (h.mono i.size)⟩
end
end Go.Proofs.YtnmpcdnbklmhkaaGreatDoor
