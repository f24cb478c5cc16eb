import Derived.Test.YtnmpcdnbklmhkaaGreatDoorQAx
import Derived.Deep.RegionHeld3
import Derived.Deep.DeepCutAuto
import Derived.Test.YtnmpcdnbklmhkaaGreatDoorQAh
import Derived.Test.YtnmpcdnbklmhkaaGreatDoorQAm
namespace Go.Proofs.YtnmpcdnbklmhkaaGreatDoor
open Go.Proofs.Tryz Go.RowKit
set_option maxRecDepth 100000
set_option linter.all false
set_option maxHeartbeats 8000000
section
attribute [local go_sem] Oper.semAt_some
attribute [local go_sem ↓] Go.wp_at_zero Go.wp_at_succ
def R9P (l:List UInt8) (w:World) (e:Ending) (w':World):Prop:=
 ∃v,e=Rt (.tuple #[v,Vi (zg l).2.1,Vi (zg l).2.2])∧PatV w' v (zg l).1∧Bz w w'
end
theorem Bld.grown_row {B b:Nat} {l:List UInt8} {w w':World} {F:Nat} {E:TypeId} {H n:Nat} {v:Value} {I:List Value} (h:Bld B b l w) (C:w.ownsRow F E H v n I) (z:E≠5) (A:E≠58) (s:w.grownBy w' v.ownBlock):Bld B b l w':=by
 have c:∀r,v.ownBlock=some r->∃a,w.1[r]?=some (.cells a E (0,0)):=fun r e=>by
  rcases C.2 with⟨rfl,_⟩|⟨g,y,a,rfl,_,d,_⟩
  ·simp[Value.ownBlock]at e
  ·obtain rfl:g=r:=by simpa[Value.ownBlock]using e
   exact⟨_,d⟩
 have key:∀p,Lib.BuilderAtF 58 5 B b p (Lib.byteCells l) w->Lib.BuilderAtF 58 5 B b p (Lib.byteCells l) w':=by
  rintro p ⟨D,u,i,j,o⟩;refine⟨D,u,?_,?_,o⟩
  ·refine(s.block b (jA.1 i).1 fun e=>?_).trans i;obtain⟨a,f⟩:=c b e.symm;rw[i]at f;cases f;exact A rfl
  ·refine j.kept s ?_;cases t:u.ownBlock with
   |none=>exact .inl rfl
   |some g=>
     refine .inr fun e=>?_;obtain⟨a,f⟩:=c g e.symm;rcases j.2 with⟨rfl,_⟩|⟨m,y,k,q,rfl,_,d,_⟩
     ·simp[Value.ownBlock]at t
     ·obtain rfl:m=g:=by simpa[Value.ownBlock]using t
      rw[d]at f;cases f;exact z rfl
 exact h.elim (fun x=>.inl (key _ x)) (fun x=>.inr (key _ x))
theorem RT {w w':World} {a:Nat} {e:TypeId} {c:Nat} {v:Value} {n:Nat} {d:List Value} (h:w.ownsRow a e c v n d) (f:Bz w w'):w'.ownsRow a e c v n d:=
 h.kept (Ab f) (by cases v.ownBlock<;>simp)
structure SI (w:World) (b B:Nat) (cs:Array Value) (l:List UInt8) (wc:World):Prop where
 bld:Bld B B l wc
 step:Holds wc b 63 cs
 below:Bz w wc
theorem SI.write {w:World} {b B:Nat} {a:Array Value} {l d:List UInt8} {wc w':World} (h:SI w b B a l wc) (g:b<B) (f:w.1.size<=B) (e:Bld B B d w') (c:Below B wc w'):SI w b B a d w':=
 ⟨e,h.step.below c g,h.below.trans (c.mono f)⟩
theorem SI.later {w:World} {b B:Nat} {c:Array Value} {l:List UInt8} {wc w':World} (h:SI w b B c l wc) (a:Bz wc w'):SI w b B c l w':=
 ⟨h.bld.later a,h.step.later a,h.below.trans (a.mono h.below.size)⟩
theorem SI.size {w:World} {b B:Nat} {c:Array Value} {l:List UInt8} {wc:World} (h:SI w b B c l wc):B<wc.1.size:=by
 rcases h.bld with⟨_,v,a,_⟩|⟨_,v,a,_⟩<;>exact(jA.1 a).1
theorem SI.row {w:World} {b B:Nat} {f:Array Value} {l:List UInt8} {W d:World} {n:Nat} {v:Value} {i:List Value} (h:SI w b B f l W) (k:b<B) (j:w.1.size<=B) (g:W.ownsRow (B+1) 9 1 v n i) (c:W.grownBy d v.ownBlock):SI w b B f l d:=by
 have a:∀r,v.ownBlock=some r->B+1<=r:=fun r e=>(g.lt r e).1;refine⟨h.bld.grown_row g (by decide) (by decide) c,h.step.grown c (fun e=>?_),h.below.grown c h.below.size (fun r e=>by have:=a r e;omega)⟩;have:=a b e.symm;omega
theorem II (B b:Nat) (l r:List UInt8) (A:ByteArray) (a:A=⟨r.toArray⟩) (w:World) (h:Bld B b l w) (d:l.length+r.length<=10000000) (c:B<=w.1.size):
  Cs 19 #[Vp b 0,.string A] w fun e w'=>e=Rt (.tuple #[Vi r.length,.nilIface])∧Bld B b (l++r) w'∧Below B w w'∧Lib.OthersKept 5 (some b) w w':=by
 subst a;exact DG B b l r w h d c
theorem SI.put {w:World} {b B:Nat} {d:Array Value} {l:List UInt8} (r:List UInt8) (A:ByteArray) (f:A=⟨r.toArray⟩) (i:b<B) (g:w.1.size<=B) (j:l.length+r.length<=10000000) (W:World) (h:SI w b B d l W):
  Cs 19 #[Vp B 0,.string A] W fun e w'=>e=Rt (.tuple #[Vi r.length,.nilIface])∧SI w b B d (l++r) w':=by
 refine(II B B l r A f W h.bld j (Nat.le_of_lt h.size)).mono ?_;rintro e w' ⟨rfl,c,a,_⟩;exact⟨rfl,h.write i g c a⟩
theorem SI.num {w:World} {b B:Nat} {c:Array Value} {l:List UInt8} (n:Int) (g:bnd n) (A:ByteArray) (d:sV (Lib.itoa n)= .string A) (f:GP w) (W:World) (h:SI w b B c l W):
  Cs 21 #[Vi n] W fun e w'=>e=Rt (.string A)∧SI w b B c l w':=by
 refine(vI n g W (f.mono h.below)).mono ?_;rintro e w' ⟨rfl,a⟩;exact⟨by rw[d],h.later a⟩
def BZ (a c:Int):Bool:=(a !=1)||(c !=1)
theorem Rp {a c:Int} (h:BZ a c=false):AE a c=[]:=by
 simp only[BZ,Bool.or_eq_false_iff,bne_eq_false_iff_eq]at h;unfold AE;rw[if_pos h]
theorem OA {a c:Int} (h:BZ a c=true):AE a c=[123]++Lib.itoa a++[44]++Lib.itoa c++[125]:=by
 simp only[BZ,Bool.or_eq_true,bne_iff_ne,ne_eq]at h;unfold AE;rw[if_neg (by omega)];simp
theorem Kg (b:UInt8) (n:Nat):∀(l:List (List UInt8)),(∀w∈l,w.length<=n)->(jz b l).length<=l.length*(n+1)
 |[],_=>by simp[jz]
 |[w],h=>by have:=h w (by simp);simp[jz];omega
 |w::v::ws,h=>by
   have d:=h w (by simp);have a:=Kg b n (v::ws) (fun x c=>h x (by simp[c]));simp only[jz,jZ,jF]at a⊢;rw[Nat.add_mul,Nat.one_mul];omega
theorem Cz (d:List Cm) (h:∀c∈d,cmWf c) (e:d.length<=2001):(jz 38 (d.map cmpT)).length<=126063:=by
 have:=Kg 38 62 (d.map cmpT) (fun w b=>by
  obtain⟨c,a,rfl⟩:=List.mem_map.1 b;exact NZ c (h c a))
 rw[List.length_map]at this;omega
theorem Tz (n:List Cm) (s:∀c∈n,cmWf c) (u:n.length<=2001) (B m:Nat) (t:n.length=m) (z:0<m) (v:Value) (w:World) (h:w.ownsRow B 9 1 v m (n.map fun c=>sV (cmpT c))):
  Cs 45 #[v,.string ⟨#[38]⟩] w (Rw w (sV (jz 38 (n.map cmpT)))):=by
 rcases h.2 with⟨_,i⟩|⟨g,r,k,rfl,i,f,l,q,o,p⟩
 ·omega
 ·have key:=Tryz.strings_Join g 0 r (n.map fun c=>(⟨(cmpT c).toArray⟩:ByteArray)) ⟨#[38]⟩ w (fun j x b=>by
   rw[List.getElem?_map]at b;obtain⟨c,a,rfl⟩:=Option.map_eq_some_iff.1 b;have y:=(jG.1 a).1;rw[dG,h.cellAt j (by omega),List.getElem?_map,a];rfl) (jA.1 f).1 (by simp;omega) (by simp;omega) (by
    have:=Cz n s u;rw[Fl]at this;simp only[List.map_map]at*;exact jS this (by omega))
  rw[List.length_map,t]at key;refine key.mono ?_;rintro e w' ⟨rfl,d⟩;refine⟨?_,d⟩;rw[Fl];simp only[List.map_map];rfl
theorem T3 {s:St} {i:Int} (h:¬(stB s=true∧0<=i∧i<26)):Ao s i=[]:=by unfold Ao;rw[if_neg h]
theorem Rx {s:St} {i:Int} (h:stB s=true) (a:0<=i) (c:i<26):Ao s i=stepT0 s i:=by unfold Ao;rw[if_pos ⟨h,a,c⟩]
theorem PD {i:Int} (a:0<=i) (c:i<26):qy i≠[]:=by unfold qy;rw[if_pos ⟨a,c⟩];simp
theorem PC {i:Int} (h:¬(0<=i∧i<26)):qy i=[]:=by unfold qy;rw[if_neg h]
theorem I8 (s:St) (i:Int) (p:stWf s) (h:¬(stB s=true∧0<=i∧i<26)) (v:Value) (w:World) (o:yQ w v s.6):
  Cs 20 #[stA s v,Vi i] w (Rw w (sV [])):=by
 have b:=Ff s p v (w.alloc (Oc (stV s v).toArray 63)) (o.mono bB nLe);have m:=fun W=>vS i W;have n:stB s=true->qy i=[]:=fun e=>PC (fun g=>h ⟨e,g⟩);generalize stB s=r at*;obtain⟨f,t,l,j,u,q⟩:=s;simp only[stA,stV]at*;clear o p h;have c:=hiD b;clear b;cases r
 ·clear m n;go_enter func20,ntmps20;go_wp2_with fail;refine c.out.mono ?_;rintro e d ⟨rfl,a⟩;go_wp2_with fail;go_ret;exact⟨rfl,bB.trans (a.mono (by simp))⟩
 ·rw[n rfl]at m;replace m:∀W,Cs 43 #[Vi i] W fun e w'=>e=Rt (.string ⟨#[]⟩)∧W=w':=m;have CL:=hiD m;clear m n;go_enter func20,ntmps20;go_wp2_with fail;refine c.out.mono ?_;rintro e d ⟨rfl,a⟩;go_wp2_with fail;refine(CL.out _).mono ?_;rintro e k ⟨rfl,rfl⟩;go_wp2_with fail;go_ret;exact⟨rfl,bB.trans (a.mono (by simp))⟩
def JN (a:Bool):List UInt8:=if a=true then [33]else []
def BM (c:Bool) (a i:Int):List UInt8:=JN c++(Lib.itoa a++qy i)
def AX (e:Bool) (a c d i:Int):List UInt8:=BM e a i++AE c d
theorem G4 (s:St) (i:Int):AX s.neg s.kind s.min s.max i++Gi s.6=stepT0 s i:=by
 unfold AX BM JN stepT0;simp
theorem JM (f:Bool) (c d e i:Int) (j:bnd c) (k:bnd d) (l:bnd e):(JN f).length<=1∧(BM f c i).length<=30∧(AX f c d e i).length<=100:=by
 have a:=xt c j;have m:=xt d k;have n:=xt e l;have o:=kB i;have g:(JN f).length<=1:=by unfold JN;split<;>simp
 have p:(AE d e).length<=50:=by
  unfold AE;split
  ·simp
  ·simp only[jZ,jF,jO];omega
 refine⟨g,?_,?_⟩
 ·unfold BM;simp only[jZ];omega
 ·unfold AX BM;simp only[jZ];omega
theorem Hf (s:St) (i:Int) (F:stWf s) (hb:stB s=true) (h0:0<=i) (h1:i<26) (hn:s.6.length<=2001) (v:Value) (w:World) (hv:yQ w v s.6) (N:GP w):
  Cs 20 #[stA s v,Vi i] w (Rw w (sV (stepT0 s i))):=by
 have cm:=Ff s F v (w.alloc (Oc (stV s v).toArray 63)) (hv.mono bB nLe);rw[hb]at cm;obtain⟨Lt,eL,sL,rL⟩:=kW (qy i) 1 (kB i);have cl:=fun W=>vS i W;rw[eL]at cl;obtain⟨b8,b9⟩:=str_ne (PD h0 h1);rw[<-rL]at b8 b9;have aw:=G4 s i;obtain⟨bp,bq,br⟩:=JM s.neg s.kind s.min s.max i F.1 F.2.1 F.2.2.1;have J:=fun W N=>vI s.kind F.1 W N;obtain⟨b6,eK,sK,rK⟩:=kW (Lib.itoa s.kind) 21 (xt _ F.1);rw[eK]at J;obtain⟨r,x,rfl,ba,bb,bo,ap⟩:=hv;have au:=F.2.2.2;have z0:=Holds.fresh w 63 (stV s (Sq r s.6.length x)).toArray;obtain⟨a,n,f,d,E,p⟩:=s;simp only[stA,stV]at*;generalize stepT0 ⟨a,n,f,d,E,p⟩ i=TX at*;obtain⟨m,hm⟩:=xR p.length;rw[hm]at cm hn ba bb z0⊢;have Z:=hiD cm;clear cm;have CL:=hiD cl;clear cl;have X:=hiD J;clear J;have Z0:=hiD z0;clear z0;have a2:=hiD aw;clear aw;have RL:=hiD rL;clear rL;have RK:=hiD rK;clear rK;have P:=hiD hm;clear hm;have a8:=hiD ap;clear ap;have y:=hiD au;clear au;have H:=hiD F;clear F;clear eL eK hb;go_enter func20,ntmps20;go_wp2_with fail;refine Z.out.mono ?_;rintro e R ⟨rfl,a0⟩;have hh:=Z0.out.later a0;have t:=hh.size;have HB:=hiD ((bA w (Oc #[Vb a,Vi n,Vi f,Vi d,Vb E,Sq r m x] 63)).trans (a0.mono (by simp)));clear a0;go_wp2_with fail;refine(CL.out _).mono ?_;rintro e w2 ⟨rfl,rfl⟩;have HH:=hiD hh;have j:=HB.out.size;have ax:SI w w.1.size R.1.size #[Vb a,Vi n,Vi f,Vi d,Vb E,Sq r m x] [] (R.alloc (Oc #[.pointer none,Vn] 58)):=
  ⟨Bld.fresh nLe,HH.out.alloc _,HB.out.alloc j _⟩
 have C:=hiD ax;clear ax;obtain⟨B,hB⟩:=xR R.1.size;rw[hB]at C t j;have c0:Cq R w.1.size 0 (Vb a):=HH.out.cell 0;clear hh
 go_upto_if 18 with(fail)
 go_cut [] (fun wc=>SI w w.1.size B #[Vb a,Vi n,Vi f,Vi d,Vb E,Sq r m x] (JN a) wc);case first=>
  cases a
  ·go_wp2_with fail;go_meet;exact C.out
  ·have S:=Gl B B [] 33 _ C.out.bld (by simp) (Nat.le_of_lt C.out.size);have CW:=hiD S;clear S;go_wp2_with fail;refine CW.out.mono ?_;rintro e w3 ⟨rfl,q1,V,q3⟩;go_wp2_with fail;go_meet;exact C.out.write t j q1 V
 case rest=>
  clear c0 C;have bm:Cq wc w.1.size 1 (Vi n):=hcut.step.cell 1;have J:=X.out wc (N.mono hcut.below);have ag:=hiD J;clear J;have am:=hiD hcut;clear hcut;go_wp2_with fail;refine ag.out.mono ?_;rintro e w3 ⟨rfl,ao⟩;have ay:=am.out.later ao;have S:=ay.put (Lib.itoa n++qy i) (b6++Lt) (by rw[RK.out,RL.out,AS]) t j (by simp only[jZ];have:=kB i;have:=xt n H.out.1;omega);have CW:=hiD S;clear S ay;go_wp2_with fail;refine(CL.out _).mono ?_;rintro e O ⟨rfl,rfl⟩;go_wp2_with fail;refine CW.out.mono ?_;rintro e O ⟨rfl,aa⟩;obtain⟨-,-,c2,c3,-⟩:=aa.step.g4;have a3:Hid (SI w w.1.size B #[Vb a,Vi n,Vi f,Vi d,Vb E,Sq r m x] (BM a n i) O):=hiD aa;clear aa ao am ag;go_upto_region 7 with(fail);go_cut [34] (fun bl wc=>bl=Vb (BZ f d)∧O=wc);case first=>
   clear Z CL X a2 a8 y;by_cases e1:f=1
   ·subst e1;by_cases e2:d=1
    ·subst e2;go_wp2_with fail;go_meet;exact⟨rfl,rfl⟩
    ·have t2:(d !=1)=true:=by simpa using e2
     go_wp2_with fail;go_meet;exact⟨by unfold BZ;rw[t2];rfl,rfl⟩
   ·have t1:(f !=1)=true:=by simpa using e1
    go_wp2_with fail;go_meet;exact⟨by unfold BZ;rw[t1];rfl,rfl⟩
  case rest=>
   obtain⟨bh,rfl⟩:=hcut;subst bh
   go_upto_if 34 with(fail)
   go_cut [] (fun wc=>SI w w.1.size B #[Vb a,Vi n,Vi f,Vi d,Vb E,Sq r m x] (AX a n f d i) wc);case first=>
    cases ht:BZ f d
    ·have T:AX a n f d i=BM a n i:=by unfold AX;rw[Rp ht];simp
     have E3:=hiD T;clear T ht;go_wp2_with fail;go_meet;rw[E3.out];exact a3.out
    ·have T:AX a n f d i=BM a n i++([123]++Lib.itoa f++[44]++Lib.itoa d++[125]):=by unfold AX;rw[OA ht]
     have E3:=hiD T;obtain⟨M,eM,sM,rM⟩:=kW (Lib.itoa f) 21 (xt _ H.out.2.1);obtain⟨a5,eX,sX,rX⟩:=kW (Lib.itoa d) 21 (xt _ H.out.2.2.1);have cn:=fun W h=>SI.num (w:=w) (b:=w.1.size) (B:=B) (c:=#[Vb a,Vi n,Vi f,Vi d,Vb E,Sq r m x]) (l:=BM a n i) f H.out.2.1 M eM N W h;have cx:=fun W h=>SI.num (w:=w) (b:=w.1.size) (B:=B) (c:=#[Vb a,Vi n,Vi f,Vi d,Vb E,Sq r m x]) (l:=BM a n i) d H.out.2.2.1 a5 eX N W h;have K:=fun W h=>SI.put (w:=w) (b:=w.1.size) (B:=B) (d:=#[Vb a,Vi n,Vi f,Vi d,Vb E,Sq r m x]) (l:=BM a n i) ([123]++Lib.itoa f++[44]++Lib.itoa d++[125]) (⟨#[123]⟩++M++⟨#[44]⟩++a5++⟨#[125]⟩)
      (by rw[rM,rX,show (⟨#[123]⟩:ByteArray)=⟨([123]:List UInt8).toArray⟩from rfl,show (⟨#[44]⟩:ByteArray)=⟨([44]:List UInt8).toArray⟩from rfl,show (⟨#[125]⟩:ByteArray)=⟨([125]:List UInt8).toArray⟩from rfl,AS,AS,AS,AS]) t j
      (by have:=xt f H.out.2.1;have:=xt d H.out.2.2.1;simp only[jZ,jF,jO];omega) W h
     have az:=a3.out.later (qp O.1.size O 1);replace az:SI w w.1.size B #[Vb a,Vi n,Vi f,Vi d,Vb E,Sq r m x] (BM a n i) O.drew:=az;have g1:¬9223372036854775807<1+M.size:=by omega
     have g2:¬9223372036854775807<1+M.size+1:=by omega
     have g3:¬9223372036854775807<1+M.size+1+a5.size:=by omega
     have g4:¬9223372036854775807<1+M.size+1+a5.size+1:=by omega
     have CN:=hiD cn;clear cn;have CX:=hiD cx;clear cx;have CP:=hiD K;clear K;clear T eM eX rM rX a3 ht Z CL X a2 a8 y HB HH;go_wp2_with fail;go_region_held3 (fun w'=>Cq w' w.1.size 2 (Vi f)∧Cq w' w.1.size 3 (Vi d))
      (first|exact⟨c2,c3⟩|exact⟨g.step.cell 2,g.step.cell 3⟩|assumption)
      (first
       |(go_at_call 21;(with_reducible refine(CN.out _ (by assumption)).mono ?_);rintro e R ⟨rfl,g⟩)
       |(go_at_call 21;(with_reducible refine(CX.out _ (by assumption)).mono ?_);rintro e R ⟨rfl,g⟩)
       |(go_at_call 19;(with_reducible refine(CP.out _ (by assumption)).mono ?_);rintro e R ⟨rfl,g⟩))
     all_goals
      go_wp2_with fail;go_meet;rw[E3.out];exact g
   case rest=>
    have bn:Cq wc w.1.size 5 (Sq r m x):=hcut.step.cell 5;have a4:=hiD hcut;clear hcut a3 c2 c3;obtain⟨i0,hi,bi,bj,bk⟩:=info_parts (by kernel_rfl:(prog.info? 9).map (fun i=>(i.zero,i.size,i.bytes))=some (some (.string ⟨#[]⟩),1,16));by_cases be:m=0
    ·subst be;have ar:p=[]:=jV P.out;have k:AX a n f d i=TX:=by rw[<-a2.out];unfold Gi;rw[if_pos ar];simp
     have HF:=hiD k;have D:=EV B B _ _ a4.out.bld (Nat.le_of_lt a4.out.size);have I:=hiD D;clear D k ar;go_wp2_with fail;refine I.out.mono ?_;rintro e w5 ⟨rfl,q1,V,q3⟩;go_wp2_with fail;go_ret;exact⟨by rw[HF.out];rfl,a4.out.below.trans (V.mono j)⟩
    ·have al:∀(wr:World) (q:Nat),Bz w wr->q<m->∃b u c,r=some (Ad b u)∧p[q]?=some c∧cmWf c∧
       (Cq wr b (u+q*9) (Vu c.op)∧Cq wr b (u+q*9+1) (Vu c.l.kind)∧Cq wr b (u+q*9+2) (Vi c.l.n)∧
       Cq wr b (u+q*9+3) (Vi c.l.s)∧Cq wr b (u+q*9+4) (Vi c.l.r)∧Cq wr b (u+q*9+5) (Vu c.r.kind)∧
       Cq wr b (u+q*9+6) (Vi c.r.n)∧Cq wr b (u+q*9+7) (Vi c.r.s)∧Cq wr b (u+q*9+8) (Vi c.r.r)):=fun wr q hb hq=>by
      have a7:q<p.length:=by rw[P.out];exact hq
      obtain⟨b,u,e,hc⟩:=(a8.out.mono hb nLe).get q a7;exact⟨b,u,p[q],e,jB a7,y.out _ (dI a7),hc⟩
     have b1:=hiD al;clear al;obtain⟨L,ab⟩:=xR (p.map (fun c=>sV (cmpT c)));have ai:=hiD ab;have an:∀q c,p[q]?=some c->L[q]?=some (sV (cmpT c)):=fun q c h=>by rw[<-ab,List.getElem?_map,h];rfl
     have b0:=hiD an;clear an ab;have bf:0<m:=by omega
     clear Z CL X;go_wp2_with fail;go_loopw [6,53] (fun v ix wr=>∃q:Nat,q<=m∧ix=Vi q∧wr.ownsRow (B+1) 9 1 v q (L.take q)∧SI w w.1.size B #[Vb a,Vi n,Vi f,Vi d,Vb E,Sq r m x] (AX a n f d i) wr) (fun _ i _=>m-(intOf i).toNat);case atStart=>exact⟨0,jg _,rfl,js _ _ _ _,a4.out⟩
     case round=>
      obtain⟨q,hq,rfl,U,g⟩:=hrel;by_cases bd:q<m
      ·obtain⟨b2,bs,c,rfl,aq,a6,r0,r1,r2,r3,r4,r5,r6,r7,r8⟩:=b1.out wr q g.below bd;have a1:L.take (q+1)=L.take q++[sV (cmpT c)]:=Ej (b0.out q c aq);have af:=g.later ((Below.refl wr.1.size wr).alloc nLe (Oc (cmV c).toArray 97));have ac:=R6 c a6 (wr.alloc (Oc (cmV c).toArray 97)) (N.mono af.below);have av:=U.alloc (Oc (cmV c).toArray 97);obtain⟨I,eS,sS,rS⟩:=kW (cmpT c) 62 (NZ c a6);rw[eS]at a1 ac;clear eS rS;obtain⟨op,⟨k1,n1,s1,p1⟩,⟨k2,n2,s2,p2⟩⟩:=c;simp only[cmA,cmV]at*;have b4:=hiD a1;clear a1 aq a6;have CC:=hiD ac;clear ac;have b7:=hiD af;clear af;have b3:=hiD av;clear av;have aj:=hiD g;clear g U;go_wp2_with fail;refine CC.out.mono ?_;rintro e Q ⟨rfl,z⟩;have A:=b7.out.later z;have ad:=RT b3.out z;have bg:B+1<=(Q.alloc (Oc #[.string I] 9)).1.size:=by have:=A.size;simp;omega
       go_wp2_with (at_builtin;refine wpList_append_own _ rfl (.tmp 57) (.tmp 60) 100 rfl (B+1) 9 i0 (.string ⟨#[]⟩) 1 16 underlying100 hi bi bj bk rfl (by decide) _ q (L.take q) rfl (ad.alloc _) (Ad Q.1.size 0) 1 1 [.string I] rfl rfl ?c1 ?c2 ?c3 ?c4 bg ?_);case c1=>exact A8 Q [.string I] 9
       case c2=>
        intro bt hu;obtain rfl:=List.mem_singleton.1 hu;rfl
       case c3=>unfold maxLen;omega
       case c4=>omega
       intro v' w7 ae ah _;have o:=(A.later ((Below.refl Q.1.size Q).alloc nLe (Oc #[.string I] 9))).row t j (ad.alloc _) ah;rw[<-b4.out]at ae;have HO:=hiD ae;clear ae ah A ad z;have a9:=hiD o;clear o;go_wp2_with fail;go_roundw;case rel=>exact⟨q+1,by omega,by go_num,HO.out,a9.out⟩
       case measure=>simp[intOf];omega
      ·obtain rfl:q=m:=by omega
       have bc:L.length=q:=by rw[<-ai.out,List.length_map,P.out]
       rw[jy (by omega),<-ai.out]at U;have cj:=Tz p y.out (by rw[P.out];exact hn) (B+1) q P.out bf _ wr U;obtain⟨b5,eJ,sJ,rJ⟩:=kW (jz 38 (p.map cmpT)) 126063 (Cz p y.out (by rw[P.out];exact hn));rw[eJ]at cj;have ak:p≠[]:=fun e=>by have:=P.out;rw[e]at this;simp at this;omega
       have k:AX a n f d i++(91::(jz 38 (p.map cmpT)++[93]))=TX:=by rw[<-a2.out];unfold Gi;rw[if_neg ak]
       have K:=fun W h=>SI.put (w:=w) (b:=w.1.size) (B:=B) (d:=#[Vb a,Vi n,Vi f,Vi d,Vb E,Sq r q x]) (l:=AX a n f d i) (91::(jz 38 (p.map cmpT)++[93])) (⟨#[91]⟩++b5++⟨#[93]⟩)
        (by rw[rJ,show (⟨#[91]⟩:ByteArray)=⟨([91]:List UInt8).toArray⟩from rfl,show (⟨#[93]⟩:ByteArray)=⟨([93]:List UInt8).toArray⟩from rfl,AS,AS];simp) t j
        (by have:=Cz p y.out (by rw[P.out];exact hn);simp only[jZ,jF,jO];omega) W h
       rw[k]at K;have CJ:=hiD cj;clear cj;have CP:=hiD K;clear K;have aj:=hiD g;clear g U eJ rJ k ak bc;go_wp2_with fail;refine CJ.out.mono ?_;rintro e Q ⟨rfl,z⟩;have A:=aj.out.later z;go_wp2_with fail;refine(CP.out _ A).mono ?_;rintro e w7 ⟨rfl,o⟩;have D:=EV B B _ _ o.bld (Nat.le_of_lt o.size);have a':=hiD D;clear D;have a9:=hiD o;clear o A z;go_wp2_with fail;refine a'.out.mono ?_;rintro e w8 ⟨rfl,q1,V,q3⟩;go_wp2_with fail;go_ret;exact⟨rfl,a9.out.below.trans (V.mono j)⟩
theorem NY (a:List Cm) (h:∀c∈a,cmWf c) (d:a.length<=2001):(GI a).length<=126064:=by
 have:=Cz a h d;unfold GI;split
 ·simp
 ·simp only[jF];omega
section
attribute [local go_sem] Oper.semAt_some
section
variable {P : Program} {ops : Array Oper} {Q : Exit -> Act -> World -> Prop} {S : World -> Prop}
theorem I2 {I J:Oper} {a:Act} {W:World} {B n k m c T E t L g:Nat} {O M pb:Operand} {K:Addr} {v:Value} {R D:List Value} {y:TypeInfo} {z:Value}
  (h2:I.op= .call {callee:= .builtin .append,args:=#[M,O],argTypes:=#[T,T]}) (h3:J.op= .store T pb (.tmp g))
  (g2:I.guard=none) (g3:J.guard=none) (a9:I.dst=some g) (au:J.dst=none)
  (av:∀w,Sem.run P (sizeOf T) w= .ok 1 w) (hT:P.underlying T=some (.slice E)) (hi:P.info? E=some y) (ak:y.zero=some z) (al:y.size=t) (am:y.bytes=L) (an:z.cells.size=t) (ai:0<t) (V:T≠E)
  (hx:a.eval O= .slice (some K) m c) (af:D.length=m*t) (ad:∀j u,D[j]?=some u->W.cell? (K.add j)=some u) (aj:∀u∈D,u.oneCell'=true)
  (ae:g<a.tmps.size)
  (ah:a.eval M=v)
  (ag:∀u,(a.put (some g) u).eval pb=Vp B 0)
  (X:Boxed W B T v) (H:W.ownsRow n E t v k R) (hn:n<=W.1.size) (hB:n<=B) (ab:k+m<=maxLen) (ac:(k+m)*L<=140737488355328)
  (hS:∀w',Boxed w' B T v->KeepsOthers W w'->(∀r o,r≠B->W.1[r]?=some o->v.ownBlock≠some r->w'.1[r]?=some o)->S w')
  (hK:∀x w',Boxed w' B T x->w'.ownsRow n E t x (k+m) (R++D)->KeepsOthers W w'->Below n W w'->(∀r o,r≠B->W.1[r]?=some o->v.ownBlock≠some r->w'.1[r]?=some o)->(∀b,x.ownBlock=some b->v.ownBlock=some b∨W.1.size<=b)->
   Q .normal (a.put (some g) x) w'):
  Ek P ops Q S [I,J] a W:=by
 have a4:some B≠v.ownBlock:=X.not_row V H;refine vV g2 ?_;refine AU _ M O T h2 n E y z t L hT hi ak al am an ai v k R ah H K m c D hx af ad aj ab ac hn ?_;intro x l f d _ a6;obtain⟨q,s,rfl⟩:=qh f;have h:Boxed l B T v:=Holds.grown X d a4;have U:∀r o,r≠B->W.1[r]?=some o->v.ownBlock≠some r->l.1[r]?=some o:=fun r o _ F i=>
  (d.block r (jA.1 F).1 (fun e=>i e.symm)).trans F
 have A:KeepsOthers W l:=KeepsOthers.of_grownBy d fun j o N Z=>by
  rcases H.2 with⟨rfl,_⟩|⟨aa,ar,ap,rfl,_,a2,_⟩
  ·simp[Value.ownBlock]at N
  ·obtain rfl:aa=j:=by simpa[Value.ownBlock]using N
   rw[a2]at Z;cases Z;rfl
 rw[a9];refine⟨hS _ h A U,?_⟩;refine vV g3 ?_;have aq:=h.cell;have hf:=h.frozen;have a5:=h.set (.slice q (k+m) s);have a1:=f.kept (grownBy_setCell' l B (.slice q (k+m) s)) (.inr (h.not_row V f).symm);have a3:=A.trans (KeepsOthers.setCell l (Ad B 0) (.slice q (k+m) s));have a7:=((Below.refl n W).grown d hn (fun b C=>qE H b C)).setCell (p:=Ad B 0) hB (.slice q (k+m) s);have a8:=hK _ _ a5 a1 a3 a7 (fun r o a0 F i=>(Below.heap_setCell l (Ad B 0) _ r a0).trans (U r o a0 F i)) (fun b C=>a6.elim (fun e=>.inl (e▸C)) (fun e=>.inr (by rw[e]at C;cases C;exact Nat.le_refl _)));have ao:(a.put (some g) (.slice q (k+m) s)).eval (.tmp g)= .slice q (k+m) s:=by
  show (a.tmps.setIfInBounds g _).getD g undef=_;simp[ae]
 unfold Oper.wp execOp;simp only[h3,ag,ao];go_simp;exact a8
end
def FE:List Int:=[6,1,3,1,4,4]
def JA (L:List Int) (j:Nat):List Int:=1::(List.range j).flatMap (fun i=>jq (L.getD i 0) (FE.getD i 0))
def evB6 (e:Ev):List Int:=JA (Fk e) 6
def Ag (b:Nat) (w W:World):Prop:=W.1[b]?=w.1[b]?
theorem Ag.cell {b i:Nat} {w W:World} {v:Value} (h:Ag b w W) (a:w.cell? ⟨b,i,none⟩=some v):W.cell? ⟨b,i,none⟩=some v:=by
 unfold World.cell? at*;unfold Ag at h;rw[h];exact a
theorem qe.sameAt {b:Nat} {w:World} (i:b<w.1.size):qe w.1.size (fun W=>w.1.size<=W.1.size∧Ag b w W):=by
 intro W f j ⟨d,c⟩ a g;exact⟨jS d a.size,(a.block b (by omega) (fun e=>by have:=(g b e.symm).1;omega)).trans c⟩
def PutI (w a:World) (L:List Int) (e d k c i f:Nat) (j:Nat) (X:World):Prop:=
 ∃v n g,Boxed X (w.1.size+1) 33 v∧X.ownsRow w.1.size 5 1 v n ((JA L j).map (Value.int .u8))∧(n<=1+8*j∧v.ownBlock≠some d∧v.ownBlock≠some c∧v.ownBlock≠some e∧v.ownBlock≠some f)∧
   Holds X e 125 #[Sq (some ⟨d,g,none⟩) (6-j) (6-j)]∧(j<6->g=k+j)∧(a.1.size<=X.1.size∧Ag d a X)∧(a.1.size<=X.1.size∧Ag c a X)∧Holds X f 125 #[Sq (some ⟨c,i,none⟩) L.length L.length]∧Bz w X
theorem qe.own {B:Nat} (l e m:Nat) (v:Value) (k:Nat) (n:List Value):qe B (fun W=>W.ownsRow l e m v k n):=by
 intro W g r h a j;rcases hv:v.ownBlock with _|b
 ·exact h.kept a (.inl hv)
 ·refine h.kept a (.inr (fun d=>?_));obtain⟨_,o,c,f⟩:=j b (d.symm.trans hv);obtain⟨p,q,i⟩:=qP h hv;rw[c]at i;cases i;cases f
theorem xI {W:World} {b c i t:Nat} {u x:Value} (h:Holds W b t #[u]) (a:W.cell? ⟨c,i,none⟩=some x) (d:u≠x):b≠c:=fun e=>by
 subst e;have q:=h.cell i;rw[a]at q;rcases i with _|k
 ·simp at q;exact d q.symm
 ·simp at q
theorem TM (e:Ev) (he:e=l1∨e=l2) (w:World):
  Cs 100 #[rcA (rcOf e)] w fun a7 w'=>∃v n,a7=Rt (.tuple #[v,Vi 0])∧w'.ownsRow w.1.size 5 1 v n ((evB6 e).map (Value.int .u8))∧Bz w w':=by
 obtain⟨i0,bp,ca,cb,cc⟩:=iP5;have cj:=hst1;have C1:=hiD (kG (rcOf e) (by rcases he with rfl|rfl;exact .inl rfl;exact .inr (.inl rfl)));have C2:=hiD (fun al=>BW 1 (by decide) (by decide) al);have C3:=hiD (fun al=>KI e.ts e.src e.seq e.kind al);rw[show qT 1=FE from rfl]at C2;obtain⟨L,hL⟩:=xR (Fk e);have a1:L.length=6:=by rw[<-hL];rfl
 unfold evB6;rw[show [e.ts,e.src,e.seq,e.kind,0,0]=L from hL]at C3;rw[hL];clear hL;obtain⟨P,O,N,M,re,im⟩:=e;obtain⟨rfl,rfl⟩:re=0∧im=0:=by rcases he with h|h<;>cases h<;>exact⟨rfl,rfl⟩
 clear he;simp only[rcOf,evV,rcA,rcV,jE,jD]at C1 C3⊢;refine qH func100 rfl ?_;simp only[ntmps100,jW,jF,jO,Nat.reduceAdd,Nat.reduceSub,jR,jQ,jX,jU,jD,jE];go_wp2_with fail;have z0:=(Holds.fresh w 38 #[Vu 1,Vi P,Vi O,Vi N,Vi M,Vc 0 0,Vi 0,Vi 0]).alloc (Oc #[Vn] 33);have Q:=Holds.fresh' (w:=w.alloc (Oc #[Vu 1,Vi P,Vi O,Vi N,Vi M,Vc 0 0,Vi 0,Vi 0] 38)) (b:=w.1.size+1) (by simp) 33 #[Vn];have K:=(bA w (Oc #[Vu 1,Vi P,Vi O,Vi N,Vi M,Vc 0 0,Vi 0,Vi 0] 38)).alloc (by simp) (Oc #[Vn] 33);generalize (w.alloc (Oc #[Vu 1,Vi P,Vi O,Vi N,Vi M,Vc 0 0,Vi 0,Vi 0] 38)).alloc (Oc #[Vn] 33)=w0 at*;refine(C1.out _).mono ?_;rintro a7 F ⟨rfl,ae⟩;replace z0:=z0.later ae;replace Q:=Q.later ae;replace K:=K.trans (ae.mono K.size);clear ae C1;have c0:=z0.cell 0;have d0:=Q.cell 0;simp at c0 d0;have f0:=Boxed.frozen Q;have zs:=Q.size;have cd:=z0.size;go_wp2_with fail;have zS:=World.size_setCell F (Ad (w.1.size+1) 0) (Vs F.1.size 0 1 1);obtain⟨W2,ao⟩:=xR ((F.setCell (Ad (w.1.size+1) 0) (Vs F.1.size 0 1 1)).alloc (Oc #[Vu 1] 5));have z2:=(z0.far (p:=Ad (w.1.size+1) 0) (by simp) (Vs F.1.size 0 1 1)).alloc (Oc #[Vu 1] 5);have R:=(Q.set 0 (Vs F.1.size 0 1 1)).alloc (Oc #[Vu 1] 5);have af:=(K.setCell (p:=Ad (w.1.size+1) 0) (by simp) (Vs F.1.size 0 1 1)).alloc (by rw[zS];exact K.size) (Oc #[Vu 1] 5);have Z:=World.ownsRow_lit (base:=w.1.size) (e:=5) (size:=1) (F.setCell (Ad (w.1.size+1) 0) (Vs F.1.size 0 1 1)) #[Vu 1] 1 (by rw[zS];exact K.size) (by decide) rfl;rw[zS]at Z;rw[ao]at z2 R af Z⊢;simp only[jC,jK]at R;clear z0 Q c0 d0 f0;have az:=R.size;have x2:=Holds.fresh (F.setCell (Ad (w.1.size+1) 0) (Vs F.1.size 0 1 1)) 5 #[Vu 1];rw[zS,ao]at x2;refine(C2.out _).mono ?_;rintro a7 r ⟨wa,rfl,bc,C⟩;rw[show FE.length=6 from rfl];replace z2:=z2.later C;replace R:=R.later C;replace x2:=x2.later C;clear ao;replace Z:=zD Z C;have ag:=af.trans (C.mono af.size);clear af C C2 az zS;obtain⟨a,q,rfl,ay⟩:∃u D,wa=some (Ad u D)∧∀i,i<6->Cq r u (D+i) (Vi (FE.getD i 0)):=by
  rcases bc.2 with h|h
  ·cases h
  ·exact h
 have bh:=hiD ay;have c9:a<r.1.size:=vz (ay 0 (by omega));clear bc ay;obtain⟨c0,c1,c2,c3,c4,c5,c6,c7,-⟩:=z2.g8;have az:=z2.size;go_wp2_with fail;have I:=Holds.fresh r 125 #[Vs a q 6 6];have S:=R.alloc (Oc #[Vs a q 6 6] 125);have r4:=Z.alloc (Oc #[Vs a q 6 6] 125);have ap:=ag.alloc ag.size (Oc #[Vs a q 6 6] 125);have bd:∀i,i<6->Cq (r.alloc (Oc #[Vs a q 6 6] 125)) a (q+i) (Vi (FE.getD i 0)):=fun i hi=>qd ((Below.refl r.1.size r).alloc nLe _) nLe (bh.out i hi);have b1:a<(r.alloc (Oc #[Vs a q 6 6] 125)).1.size:=by simp;omega
 have bq:=ag.size;have x3:=x2.alloc (Oc #[Vs a q 6 6] 125);generalize r.1.size=t at*;generalize r.alloc (Oc #[Vs a q 6 6] 125)=w4 at*;refine(C3.out _).mono ?_;rintro a7 z ⟨U,rfl,⟨na,aw,b6⟩,bw,y⟩;have bs:t≠U:=by have:=I.size;omega
 have b':w.1.size+1≠U:=by have:=S.size;omega
 clear bw;replace I:=I.later y;replace S:=S.later y;have x4:=x3.later y;clear x3 x2;replace r4:=zD r4 y;have aq:=ap.trans (y.mono ap.size);have a8:∀i,i<6->Cq z a (q+i) (Vi (FE.getD i 0)):=fun i hi=>qd y nLe (bd i hi);have ai:a<z.1.size:=jf b1 y.size;clear bd b1 ap y C3 c0 c1 c2 c3 c4 c5 c6 c7 z2 R Z ag az zs cd c9;go_wp2_with fail;obtain⟨f,a2,rfl,a4⟩:∃u D,na=some (Ad u D)∧∀i,i<L.length->Cq z u (D+i) (Vi (L.getD i 0)):=by
  rcases b6.2 with h|h
  ·rw[h]at a1;cases a1
  ·exact h
 have ah:f<z.1.size:=vz (a4 0 (by omega));have cg:=I.size;have ci:=S.size;have aj:=hiD a8;have a':=hiD a4;have bt:t≠a:=xI I (a8 0 (by omega)) (by simp);have br:t≠f:=xI I (a4 0 (by omega)) (by simp);have ba:w.1.size+1≠a:=xI S (a8 0 (by omega)) (by simp);have bz:w.1.size+1≠f:=xI S (a4 0 (by omega)) (by simp);obtain⟨cl,a0⟩:∃o,z.1[a]?=some o:=⟨_,jw ai⟩;obtain⟨ck,b7⟩:∃o,z.1[f]?=some o:=⟨_,jw ah⟩;clear a8 a4 b6;refine kT rfl Ir (Lz U (some (Ad f a2)) L) (fun _=>rfl)
  (PutI w z L t a q f a2 U)
  (fun _ _ _=>False) ?_ (fun _ _=>qe.pure _) ?_ ?_ (fun j=>{tmps:=#[.agg #[Vu 1,Vi P,Vi O,Vi N,Vi M,Vc 0 0,Vi 0,Vi 0],Vp w.1.size 0,Vp (w.1.size+1) 0,Vi 0,Vp t 0,Vi (L.getD j 0),.agg #[Vu 1,Vi P,Vi O,Vi N,Vi M,Vc 0 0,Vi 0,Vi 0],Vb true,Vb false,Vp w.1.size 0,Vu 1,Vs F.1.size 0 1 1,Vp w.1.size 0,Vu 1,Vs a q 6 6,.agg #[Vu 1,Vi P,Vi O,Vi N,Vi M,Vc 0 0,Vi 0,Vi 0],.func (.func 168) #[] #[Vp U 0],Vi (L.getD j 0),undef,undef,undef,undef,undef,undef,undef,undef,undef,undef],defers:=[]}) ?_ ?_ ?_ (fun _ _ _ _ _ _ h _=>h.elim)
 ·intro j;exact qe.ex fun v=>qe.ex fun n=>qe.ex fun o=>(qe.boxed _ _ _).and ((qe.own _ _ _ _ _ _).and ((qe.pure _).and ((qe.boxed _ _ _).and ((qe.pure _).and ((qe.sameAt ai).and ((qe.sameAt ah).and ((qe.boxed _ _ _).and (qe.below aq.size nLe))))))))
 ·rintro j X ⟨v,n,o,d,A,h3,h4,h5,J,V,h8,h9⟩;exact⟨h8,by rw[a1];decide,.inr ⟨f,a2,rfl,fun i hi=>V.2.cell (a'.out i hi)⟩⟩
 ·have e1:=xI x4 (aj.out 0 (by omega)) (by simp);have e2:=xI x4 (a'.out 0 (by omega)) (by simp);have e3:=xD x4 I (by decide);have e4:=xD x4 aw (by decide);exact⟨_,1,q,S,r4,⟨by omega,by simpa[Value.ownBlock]using e1,by simpa[Value.ownBlock]using e2,by simpa[Value.ownBlock]using e3,by simpa[Value.ownBlock]using e4⟩,I,fun _=>rfl,⟨Nat.le_refl _,rfl⟩,⟨Nat.le_refl _,rfl⟩,aw,aq⟩
 ·intro bf j X ce hj hK;gi_wp2;exact hK
 ·rintro bf j X hl hj ⟨v,n,o,d,A,⟨h3,ab,am,a5,an⟩,h4,h5,J,V,h8,h9⟩;rw[a1]at hj;obtain rfl:=h5 hj;have aa:=J.2.cell (aj.out j hj);obtain⟨H,a3⟩:∃x,FE.getD j 0=x:=⟨_,rfl⟩;have hN:1<=putN H∧putN H<=8∧-9223372036854775808<=H∧H<=9223372036854775807:=by
   subst a3;rcases(show j=0∨j=1∨j=2∨j=3∨j=4∨j=5 by omega)with rfl|rfl|rfl|rfl|rfl|rfl<;>decide
  rw[a3]at aa;have b2:JA L (j+1)=JA L j++jq (L.getD j 0) H:=by
   rw[<-a3];unfold JA;rw[List.range_succ,dH];simp
  have b0:=hiD b2;obtain⟨x,hx⟩:=xR (L.getD j 0);rw[hx]at b0⊢;have ar:=h4.cell 0;have bb:=d.cell;simp at ar;have ch:0<6-j:=by omega
  clear b2 hx;have bi:=hiD a3;clear a3;gi_wp2;refine vx bf 5 (by kernel_rfl) (by kernel_rfl) (fun ⟨_,_,h⟩=>h) (by kernel_rfl) (fun W'=>Cq W' (w.1.size+1) 0 v∧Cq W' t 0 (Vs a (q+j) (6-j) (6-j))∧Cq W' a (q+j) (Vi H)) ⟨bb,ar,aa⟩ (fun _ _ bj _ _ h=>by cases bj<;>exact h) ?_;simp only[jm,dF,dE,ju]
  repeat (refine qA rfl (fun w' hS=>by obtain⟨s1,s2,s3⟩:=hS;(go_simp<;>rfl)) ?_)
  simp only[Act.put,jC,jL,jK];refine CU ?_;refine vV rfl ?_;go_simp;refine(LA x H hN.2.2.1 hN.2.2.2 X.drew).mono ?_;rintro a7 w6 ⟨pv,rfl,hp,bn⟩;have g:Bz X w6:=bRf.drew.trans bn;have g1:=Holds.later d g;have g2:=zD A g;have g4:=h4.later g;have g8:=h8.later g;have g0:=qd g nLe aa;have g6:Ag a z w6:=(g.block a (jf ai J.1)).trans J.2;have g7:Ag f z w6:=(g.block f (jf ah V.1)).trans V.2;have bk:=jS J.1 g.size;have g9:=h9.trans (g.mono h9.size);obtain⟨pa,pc,rfl,ax,-,b8⟩:=yL hp (by omega);obtain⟨pb,po,rfl,-⟩:∃u D,pa=some (Ad u D)∧∀i,i<(jq x H).length->Cq w6 u (D+i) (Vu ((jq x H).getD i 0)):=by
   rcases b8.2 with h|h
   ·rw[h]at ax;simp at ax;omega
   ·exact h
  have au:t≠w.1.size+1:=xD g4 g1 (by decide);refine⟨⟨Boxed.cell g1,g4.cell 0,g0⟩,?_⟩;refine I2 (B:=w.1.size+1) (n:=w.1.size) (k:=n) (m:=putN H) (c:=pc) (T:=33) (E:=5) (t:=1) (L:=1) (g:=24) (v:=v) (K:=Ad pb po) (D:=(jq x H).map (Value.int .u8))
   rfl rfl rfl rfl rfl rfl (fun w=>by kernel_rfl) underlying33 bp ca cb cc rfl (by decide) (by decide) rfl (by simp[ax]) b8.news (by simp[Value.oneCell']) (by simp) rfl (fun _=>rfl)
   g1 g2 g9.size (by omega) (by unfold maxLen;omega) (by omega) ?_ ?_
  ·intro w' ac b5 l;have q1:=l t _ au g4 a5;refine⟨ac.cell,Holds.cell (cs:=#[Vs a (q+j) (6-j) (6-j)]) q1 0,?_⟩;exact Ag.cell ((l a _ ba.symm (g6.trans a0) ab).trans a0.symm) (aj.out j hj) |>.trans (by rw[bi.out])
  ·intro v' w' ac b9 b5 b4 l b3;have k4:Holds w' t 125 #[Vs a (q+j) (6-j) (6-j)]:=l t _ au g4 a5;have k8:Holds w' U 125 #[Vs f a2 L.length L.length]:=l U _ b'.symm g8 an;have k6:Ag a z w':=(l a _ ba.symm (g6.trans a0) ab).trans a0.symm;have k7:Ag f z w':=(l f _ bz.symm (g7.trans b7) am).trans b7.symm;have kc:=k4.cell 0;simp at kc;have kf:=Boxed.frozen k4;have cf:1<=6-j:=by omega
   have be:=jS bk b4.size;have s:∀b,b<z.1.size->v.ownBlock≠some b->v'.ownBlock≠some b:=fun b K bv e=>(b3 b e).elim bv (fun h=>by omega);have bu:U<z.1.size:=aw.size;have ak:=hiD (fun (W:Nat) (ho:j+1<6->W=q+(j+1))=>(show KeepsFrom z.1.size X (w'.setCell (Ad t 0) (Vs a W (6-j-1) (6-j-1)))∧PutI w z L t a q f a2 U (j+1) (w'.setCell (Ad t 0) (Vs a W (6-j-1) (6-j-1)))from
    ⟨(((Kqb g).trans b5).trans (KeepsOthers.setCell w' (Ad t 0) _)).from _,v',n+putN H,W,Holds.far ac (p:=Ad t 0) au.symm _,by
      rw[b0.out,dC];exact b9.kept (grownBy_setCell' w' t _) (.inr (s t (by omega) a5)),⟨by omega,s a ai ab,s f ah am,s t (by omega) a5,s U bu an⟩,
      by rw[show 6-(j+1)=6-j-1 by omega];exact k4.set 0 (Vs a W (6-j-1) (6-j-1)),ho,
      ⟨by rw[World.size_setCell];exact be,(Below.heap_setCell w' (Ad t 0) _ a bt.symm).trans k6⟩,⟨by rw[World.size_setCell];exact be,(Below.heap_setCell w' (Ad t 0) _ f br.symm).trans k7⟩,k8.far bs.symm _,(g9.trans b4).setCell bq _⟩))
   simp only[Act.put,jC,jL,jK];clear k4 k8 k6 k7 s ac b9 l b3 g0 g1 g2 g4 g6 g7 g8 ar bb aa d A h4 J V h8;gi_wp2
   ·have bl:6-j-1=0:=by omega
    rw[bl]at ak;exact ak.out (q+j) (fun h=>by omega)
   ·exact ak.out (q+j+1) (fun _=>by omega)
 ·rintro bg X hD ⟨v,n,o,d,A,⟨h3,ab,am,a5,an⟩,h4,h5,J,V,h8,h9⟩ hK;rw[a1]at A;obtain⟨av,a6,rfl⟩:=qh A;have hc:=d.cell;have l:=d.frozen;go_wp2_with fail;have c8:=d.set (Sq av n a6);have a9:=(KeepsOthers.setCell X (Ad (w.1.size+1) 0) (Sq av n a6)).same bg _ hK rfl;have bx:=A.kept (grownBy_setCell' X (w.1.size+1) (Sq av n a6)) (.inr (d.not_row (by decide) A).symm);have bm:=h9.setCell (p:=Ad (w.1.size+1) 0) (by simp) (Sq av n a6);have bo:=qW (c:= .deferred none) a9 rfl c8.cell;refine qZ (v:= .tuple #[Sq av n a6,Vi 0]) a9 (by simp[results,results100,go_sem,bo]) ⟨_,n,rfl,ownsRow_putObj bx _ a9 rfl,qB bm a9 (jS aq.size hD)⟩
end
end Go.Proofs.YtnmpcdnbklmhkaaGreatDoor
