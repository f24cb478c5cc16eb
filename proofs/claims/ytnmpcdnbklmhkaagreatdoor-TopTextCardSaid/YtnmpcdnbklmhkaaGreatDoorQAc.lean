import Derived.Test.YtnmpcdnbklmhkaaGreatDoorQAa
import Derived.Laws.AppendOwnNone
import Derived.Laws.StructEq
import Derived.Deep.Quiet
namespace Go.Proofs.YtnmpcdnbklmhkaaGreatDoor
open Go.Proofs.Tryz Go.RowKit
set_option maxRecDepth 100000
set_option maxHeartbeats 8000000
section
variable {α : Type}
def RowV (k:Nat) (e:α->List Value) (W:World) (v:Value) (l:List α):Prop:=
 ∃a c,v=Sq a l.length c∧l.length<=c∧l.length<=9223372036854775807∧(a=none->c=0)∧
  (l=[]∨∃b d,a=some ⟨b,d,none⟩∧∀(i:Nat) (x:α),l[i]?=some x->∀(j:Nat) (u:Value),(e x)[j]?=some u->W.cell? ⟨b,d+i*k+j,none⟩=some u)
theorem xU {k:Nat} {a:α->List Value} (c:∀x,(a x).length=k):∀l:List α,(l.flatMap a).length=l.length*k
 |[]=>by simp
 |x::l=>by rw[List.flatMap_cons,jZ,xU c l,c,jF,Nat.succ_mul,Nat.add_comm]
theorem EO {k:Nat} {d:α->List Value} (c:∀x,(d x).length=k):∀(l:List α) (i:Nat) (x:α),l[i]?=some x->∀j,j<k->(l.flatMap d)[i*k+j]?=(d x)[j]?
 |[],i,x,h,_,_=>by simp at h
 |y::l,0,x,h,j,hj=>by
   obtain rfl:y=x:=by simpa using h
   rw[List.flatMap_cons,List.getElem?_append_left (by rw[c];omega)];simp
 |y::l,i+1,x,h,j,hj=>by
   have a:(i+1)*k+j=i*k+j+k:=by rw[Nat.succ_mul];omega
   rw[List.flatMap_cons,List.getElem?_append_right (by rw[c,a];omega),c,a,Nat.add_sub_cancel];exact EO c l i x (by simpa using h) j hj
theorem Ip {c:α->List Value} (d:∀x,∀u∈c x,u.oneCell'=true) (l:List α):∀u∈l.flatMap c,u.oneCell'=true:=fun u a=>by
 obtain⟨x,_,b⟩:=List.mem_flatMap.1 a;exact d x u b
section
variable {k : Nat} {enc : α -> List Value} {w w' : World} {v : Value} {l : List α} {B : Nat}
theorem RowV.nil (k:Nat) (a:α->List Value) (w:World):RowV k a w Vn []:=⟨none,0,rfl,Nat.le_refl _,by simp,fun _=>rfl,.inl rfl⟩
theorem RowV.form (h:RowV k enc w v l):∃a c,v=Sq a l.length c∧l.length<=c:=by
 obtain⟨a,c,e,b,_⟩:=h;exact⟨a,c,e,b⟩
theorem RowV.small (h:RowV k enc w v l):l.length<=9223372036854775807:=by obtain⟨a,c,_,_,h,_⟩:=h;exact h
theorem RowV.mono (y:Below B w w') (t:w.1.size<=B) (h:RowV k enc w v l):RowV k enc w' v l:=by
 obtain⟨a,c,e,r,g,s,d⟩:=h;refine⟨a,c,e,r,g,s,?_⟩;rcases d with d|⟨b,n,o,d⟩
 ·exact .inl d
 ·exact .inr ⟨b,n,o,fun i x q j u m=>by
   have f:=d i x q j u m;rw[y.cell (p:=Ad b (n+i*k+j)) (jf (World.block_lt_of_cell? w _ f) t)];exact f⟩
theorem RowV.later (h:RowV k enc w v l) (a:Bz w w'):RowV k enc w' v l:=h.mono a nLe
theorem RowV.grown {n:Option Nat} (h:RowV k enc w v l) (s:w.grownBy w' n) (t:∀b,n=some b->v.ownBlock≠some b):RowV k enc w' v l:=by
 obtain⟨a,c,rfl,q,g,r,d⟩:=h;refine⟨a,c,rfl,q,g,r,?_⟩;rcases d with d|⟨b,y,o,d⟩
 ·exact .inl d
 ·subst o;exact .inr ⟨b,y,rfl,fun i x p j u m=>by
   have f:=d i x p j u m;rw[World.cell?_of_block (w:=w) (s.block b (World.block_lt_of_cell? w _ f) (fun e=>t b e.symm rfl))];exact f⟩
theorem RowV.get (h:RowV k enc w v l) {i:Nat} {x:α} (o:l[i]?=some x):
  ∃b n c,v=Sq (some ⟨b,n,none⟩) l.length c∧l.length<=c∧∀(j:Nat) (u:Value),(enc x)[j]?=some u->w.cell? ⟨b,n+i*k+j,none⟩=some u:=by
 obtain⟨a,c,rfl,f,g,m,d⟩:=h;rcases d with rfl|⟨b,n,rfl,d⟩
 ·simp at o
 ·exact⟨b,n,c,rfl,f,fun j u e=>d i x o j u e⟩
theorem RowV.of_own (s:∀x,(enc x).length=k) {z E n:Nat} (h:w.ownsRow z E k v n (l.flatMap enc)) (y:l.length=n):RowV k enc w v l:=by
 subst y;rcases h.2 with⟨rfl,p⟩|⟨g,t,f,rfl,_,o,d,m,_⟩
 ·exact⟨none,0,by rw[p],by omega,by omega,fun _=>rfl,.inl (jV p)⟩
 ·refine⟨some (Ad g 0),t,rfl,d,by unfold maxLen at*;omega,(fun e=>nomatch e),.inr ⟨g,0,rfl,fun i x q j u r=>?_⟩⟩;have c:=(jG.1 q).1;have b:j<k:=by have:=(jG.1 r).1;rw[s]at this;exact this
  have a:i*k+j<l.length*k:=by
   have:(i+1)*k<=l.length*k:=Nat.mul_le_mul_right k c;rw[Nat.succ_mul]at this;omega
  rw[dG,h.cellAt (i*k+j) a,EO s l i x q j b,r]
theorem RowV.sub {b A n c:Nat} (h:RowV k enc w (Sq (some ⟨b,A,none⟩) n c) l) (i j:Nat) (B:i<=j) (C:j<=l.length):
  RowV k enc w (Sq (some ⟨b,A+i*k,none⟩) (j-i) (c-i)) ((l.take j).drop i):=by
 obtain⟨a,v,e,y,t,z,g⟩:=h;injection e with e1 e2 e3;subst e1 e2 e3;have d:((l.take j).drop i).length=j-i:=by rw[jj,jb];omega
 refine⟨some (Ad b (A+i*k)),c-i,by rw[d],by rw[d];omega,by rw[d];omega,(fun e=>nomatch e),?_⟩;rcases g with rfl|⟨s,o,e,g⟩
 ·exact .inl (by simp)
 ·cases e;refine .inr ⟨b,A+i*k,rfl,fun q x f m u p=>?_⟩;rw[List.getElem?_drop]at f;have r:i+q<j:=by have:=(jG.1 f).1;rw[jb]at this;omega
  rw[List.getElem?_take_of_lt r]at f;have:=g (i+q) x f m u p;rw[show A+i*k+q*k+m=A+(i+q)*k+m by rw[Nat.add_mul];omega];exact this
end
theorem zT {P:Program} {w:World} {U:Array Oper} {V:List Oper} {o:Oper} {a:Act} {Q:Exit->Act->World->Prop} (M:o.guard=none) (s x:Operand) (t:TypeId) (O:o.op= .call {callee:= .builtin .append,args:=#[s,x],argTypes:=#[t,t]})
  (r:Nat) (e:TypeId) (i:TypeInfo) (z:Value) (S:P.underlying t=some (.slice e)) (N:P.info? e=some i) (hz:i.zero=some z) (k F:Nat) (a1:i.size=k) (a0:i.bytes=F) (a2:z.cells.size=k) (J:0<k)
  (D:α->List Value) (I:∀x,(D x).length=k) (q:∀x,∀u∈D x,u.oneCell'=true)
  (v:Value) (n:Nat) (E:List Value) (R:a.eval s=v) (K:w.ownsRow r e k v n E) (y:Value) (T:a.eval x=y) (l:List α) (hy:RowV k D w y l) (hl:n+l.length<=maxLen) (Z:(n+l.length)*F<=140737488355328) (X:r<=w.1.size)
  (h:∀m w',w'.ownsRow r e k m (n+l.length) (E++l.flatMap D)->w.grownBy w' v.ownBlock->wpList P U Q V (a.put o.dst m) w'):wpList P U Q (o::V) a w:=by
 obtain⟨a4,c,rfl,a5,_,g,d⟩:=hy;cases a4 with
 |none=>
   have a3:l=[]:=by
    rcases d with h|⟨b,L,W,_⟩
    ·exact h
    ·cases W
   subst a3;obtain rfl:=g rfl;refine wpList_append_own_none M s x t O r e i k S N v n E R K T (h v w ?_ ⟨rfl,rfl,rfl,Nat.le_refl _,fun _ _ _=>rfl⟩);simpa using K
 |some ad=>
   refine wpList_append_own _ M s x t O r e i z k F S N hz a1 a0 a2 J v n E R K ad l.length c (l.flatMap D) T (xU I l) (fun j u H=>?_) (Ip q l) hl Z X (fun m w' q p _=>h m w' q p);rcases d with rfl|⟨b,L,e,d⟩
   ·simp at H
   ·cases e;have f:=(jG.1 H).1;rw[xU I]at f;have A:j/k<l.length:=(Nat.div_lt_iff_lt_mul J).2 f;have B:j/k*k+j%k=j:=by rw[Nat.mul_comm];exact Nat.div_add_mod j k
    have p:=EO I l (j/k) l[j/k] (jB A) (j%k) (Nat.mod_lt _ J);rw[B,H]at p;have C:=d (j/k) _ (jB A) (j%k) u p.symm;rw[show ((Ad b L):Addr).add j=(Ad b (L+j)) by unfold Addr.add;split<;>simp_all,<-B,<-Nat.add_assoc];exact C
theorem _root_.Go.Calls.same {P:Program} {f:FuncId} {a:Array Value} {w:World} {v:Value} (h:Calls P f a w fun e w'=>e=Rt v∧w=w'):Calls P f a w fun e w'=>e=Rt v∧w'=w:=
 h.mono fun _ _ ⟨c,d⟩=>⟨c,d.symm⟩
theorem _root_.Go.Calls.rel {P:Program} {f:FuncId} {c:Array Value} {v:Value} (h:∀w,Calls P f c w fun e w'=>e=Rt v∧Bz w w') (W:World):
  ∀a,Bz W a->Calls P f c a fun e w'=>e=Rt v∧Bz W w':=fun a b=>
 (h a).mono fun _ _ h=>⟨h.1,b.trans (h.2.mono b.size)⟩
theorem _root_.Go.Calls.relSame {P:Program} {f:FuncId} {c:Array Value} {v:Value} (h:∀w,Calls P f c w fun e w'=>e=Rt v∧w=w') (W:World):
  ∀a,Bz W a->Calls P f c a fun e w'=>e=Rt v∧Bz W w':=fun a b=>
 (h a).mono fun _ _ h=>⟨h.1,h.2▸b⟩
theorem zU {P:Program} {g:Func} {p:Tmp} {e:TypeId} (h:g.results=#[.cell p e]) (f:Array Value) (w:World) (b:Nat) (t:TypeId) (c:Array Value) (d:TypeDesc)
  (l:f.getD p undef=Vp b 0) (i:Holds w b t c) (m:P.underlying e=some d) (j:(match d with|.struct _|.array _ _=>true|_=>false)=true) (k:(P.info? e).map (·.size)=some c.size):
  (results g f).run P w= .ok (.agg c) w:=by
 have a:f[p]?.getD undef=Vp b 0:=by simpa using l
 simp[results,h,a,asAddr,run_loadVar_row w b t e c (0,0) d i m j k]
theorem vU {P:Program} {E:TypeId} (c:∀w,(isAgg E).run P w= .ok false w) (a:Array Value) (i:Nat) (v:Value) (h:a[i]?=some v) (w:World):(part E a i).run P w= .ok v w:=by
 unfold part;simp[Sem.run_bind,c,h,Result.andThen]
theorem xZ {P:Program} (d:Nat) (t E:TypeId) (r:P.underlying t=some (.array 3 E)) (p:P.underlying E=some (.int .i64)) (q:∀w,(Go.sizeOf E).run P w= .ok 1 w) (i:∀w,(isAgg E).run P w= .ok false w) (j k l m n o:Int) (w:World):
  (Op.equalIn (d+2) t (.agg #[Vi j,Vi k,Vi l]) (.agg #[Vi m,Vi n,Vi o])).run P w= .ok (j==m&&(k==n&&(l==o))) w:=by
 have e:=fun a b w=>run_equalIn_int (P:=P) w d E .i64 .i64 a b p;rw[Op.equalIn];simp only[Sem.run_bind,run_underlying r,Result.andThen_ok,q];simp only[Std.Legacy.Range.forIn_eq_forIn_range',Std.Legacy.Range.size];by_cases c:j=m;case neg=>simp[List.range',vU i,e,Sem.run_bind,Result.andThen,c]
 by_cases f:k=n;case neg=>simp[List.range',vU i,e,Sem.run_bind,Result.andThen,c,f]
 by_cases g:l=o
 ·simp[List.range',vU i,e,Sem.run_bind,Result.andThen,c,f,g]
 ·simp[List.range',vU i,e,Sem.run_bind,Result.andThen,c,f,g]
theorem Fd {P:Program} (d:Nat) (t E:TypeId) (u:P.underlying t=some (.array 4 E)) (r:P.underlying E=some (.int .i64)) (s:∀w,(Go.sizeOf E).run P w= .ok 1 w) (i:∀w,(isAgg E).run P w= .ok false w) (j k l m n o p q:Int) (w:World):
  (Op.equalIn (d+2) t (.agg #[Vi j,Vi k,Vi l,Vi m]) (.agg #[Vi n,Vi o,Vi p,Vi q])).run P w= .ok (j==n&&(k==o&&(l==p&&(m==q)))) w:=by
 have e:=fun a b w=>run_equalIn_int (P:=P) w d E .i64 .i64 a b r;rw[Op.equalIn];simp only[Sem.run_bind,run_underlying u,Result.andThen_ok,s];simp only[Std.Legacy.Range.forIn_eq_forIn_range',Std.Legacy.Range.size];by_cases c:j=n;case neg=>simp[List.range',vU i,e,Sem.run_bind,Result.andThen,c]
 by_cases f:k=o;case neg=>simp[List.range',vU i,e,Sem.run_bind,Result.andThen,c,f]
 by_cases g:l=p;case neg=>simp[List.range',vU i,e,Sem.run_bind,Result.andThen,c,f,g]
 by_cases h:m=q
 ·simp[List.range',vU i,e,Sem.run_bind,Result.andThen,c,f,g,h]
 ·simp[List.range',vU i,e,Sem.run_bind,Result.andThen,c,f,g,h]
structure Lat (W:World) where
 v:World
 h:Bz W v
instance (W:World):Nonempty (Lat W):=⟨⟨W,Below.refl _ _⟩⟩
theorem Lat.cell {W:World} (u:Lat W) {b o:Nat} {v:Value} (h:W.cell? ⟨b,o,none⟩=some v):u.v.cell? ⟨b,o,none⟩=some v:=
 (u.h.cell (p:=Ad b o) (World.block_lt_of_cell? W _ h)).trans h
theorem Holds.l1 {w:World} {b:Nat} {t:TypeId} {a:Value} {r:List Value} (h:Holds w b t (List.toArray (a::r))):(∀u:Lat w,u.v.cell? ⟨b,0,none⟩=some a)∧True:=⟨fun u=>u.cell (h.cell 0),trivial⟩
theorem Holds.l2 {w:World} {b:Nat} {t:TypeId} {a c:Value} {r:List Value} (h:Holds w b t (List.toArray (a::c::r))):(∀u:Lat w,u.v.cell? ⟨b,0,none⟩=some a)∧(∀u:Lat w,u.v.cell? ⟨b,1,none⟩=some c)∧True:=⟨fun u=>u.cell (h.cell 0),fun u=>u.cell (h.cell 1),trivial⟩
theorem Holds.l3 {w:World} {b:Nat} {t:TypeId} {a c d:Value} {r:List Value} (h:Holds w b t (List.toArray (a::c::d::r))):(∀u:Lat w,u.v.cell? ⟨b,0,none⟩=some a)∧(∀u:Lat w,u.v.cell? ⟨b,1,none⟩=some c)∧(∀u:Lat w,u.v.cell? ⟨b,2,none⟩=some d)∧True:=⟨fun u=>u.cell (h.cell 0),fun u=>u.cell (h.cell 1),fun u=>u.cell (h.cell 2),trivial⟩
theorem Holds.l4 {w:World} {b:Nat} {t:TypeId} {a c d e:Value} {r:List Value} (h:Holds w b t (List.toArray (a::c::d::e::r))):(∀u:Lat w,u.v.cell? ⟨b,0,none⟩=some a)∧(∀u:Lat w,u.v.cell? ⟨b,1,none⟩=some c)∧(∀u:Lat w,u.v.cell? ⟨b,2,none⟩=some d)∧(∀u:Lat w,u.v.cell? ⟨b,3,none⟩=some e)∧True:=⟨fun u=>u.cell (h.cell 0),fun u=>u.cell (h.cell 1),fun u=>u.cell (h.cell 2),fun u=>u.cell (h.cell 3),trivial⟩
theorem Holds.l5 {w:World} {b:Nat} {t:TypeId} {a c d e f:Value} {r:List Value} (h:Holds w b t (List.toArray (a::c::d::e::f::r))):(∀u:Lat w,u.v.cell? ⟨b,0,none⟩=some a)∧(∀u:Lat w,u.v.cell? ⟨b,1,none⟩=some c)∧(∀u:Lat w,u.v.cell? ⟨b,2,none⟩=some d)∧(∀u:Lat w,u.v.cell? ⟨b,3,none⟩=some e)∧(∀u:Lat w,u.v.cell? ⟨b,4,none⟩=some f)∧True:=⟨fun u=>u.cell (h.cell 0),fun u=>u.cell (h.cell 1),fun u=>u.cell (h.cell 2),fun u=>u.cell (h.cell 3),fun u=>u.cell (h.cell 4),trivial⟩
theorem Holds.l6 {w:World} {b:Nat} {t:TypeId} {a c d e f g:Value} {r:List Value} (h:Holds w b t (List.toArray (a::c::d::e::f::g::r))):(∀u:Lat w,u.v.cell? ⟨b,0,none⟩=some a)∧(∀u:Lat w,u.v.cell? ⟨b,1,none⟩=some c)∧(∀u:Lat w,u.v.cell? ⟨b,2,none⟩=some d)∧(∀u:Lat w,u.v.cell? ⟨b,3,none⟩=some e)∧(∀u:Lat w,u.v.cell? ⟨b,4,none⟩=some f)∧(∀u:Lat w,u.v.cell? ⟨b,5,none⟩=some g)∧True:=⟨fun u=>u.cell (h.cell 0),fun u=>u.cell (h.cell 1),fun u=>u.cell (h.cell 2),fun u=>u.cell (h.cell 3),fun u=>u.cell (h.cell 4),fun u=>u.cell (h.cell 5),trivial⟩
theorem Holds.l7 {w:World} {b:Nat} {t:TypeId} {a c d e f g i:Value} {r:List Value} (h:Holds w b t (List.toArray (a::c::d::e::f::g::i::r))):(∀u:Lat w,u.v.cell? ⟨b,0,none⟩=some a)∧(∀u:Lat w,u.v.cell? ⟨b,1,none⟩=some c)∧(∀u:Lat w,u.v.cell? ⟨b,2,none⟩=some d)∧(∀u:Lat w,u.v.cell? ⟨b,3,none⟩=some e)∧(∀u:Lat w,u.v.cell? ⟨b,4,none⟩=some f)∧(∀u:Lat w,u.v.cell? ⟨b,5,none⟩=some g)∧(∀u:Lat w,u.v.cell? ⟨b,6,none⟩=some i)∧True:=⟨fun u=>u.cell (h.cell 0),fun u=>u.cell (h.cell 1),fun u=>u.cell (h.cell 2),fun u=>u.cell (h.cell 3),fun u=>u.cell (h.cell 4),fun u=>u.cell (h.cell 5),fun u=>u.cell (h.cell 6),trivial⟩
theorem Holds.l8 {w:World} {b:Nat} {t:TypeId} {a c d e f g i j:Value} {r:List Value} (h:Holds w b t (List.toArray (a::c::d::e::f::g::i::j::r))):(∀u:Lat w,u.v.cell? ⟨b,0,none⟩=some a)∧(∀u:Lat w,u.v.cell? ⟨b,1,none⟩=some c)∧(∀u:Lat w,u.v.cell? ⟨b,2,none⟩=some d)∧(∀u:Lat w,u.v.cell? ⟨b,3,none⟩=some e)∧(∀u:Lat w,u.v.cell? ⟨b,4,none⟩=some f)∧(∀u:Lat w,u.v.cell? ⟨b,5,none⟩=some g)∧(∀u:Lat w,u.v.cell? ⟨b,6,none⟩=some i)∧(∀u:Lat w,u.v.cell? ⟨b,7,none⟩=some j)∧True:=⟨fun u=>u.cell (h.cell 0),fun u=>u.cell (h.cell 1),fun u=>u.cell (h.cell 2),fun u=>u.cell (h.cell 3),fun u=>u.cell (h.cell 4),fun u=>u.cell (h.cell 5),fun u=>u.cell (h.cell 6),fun u=>u.cell (h.cell 7),trivial⟩
theorem Lat.call {P:Program} {W:World} {f:FuncId} {d:Array Value} {v:Value} (c:∀a,Bz W a->Calls P f d a fun e w'=>e=Rt v∧Bz W w') (u:Lat W):
  Calls P f d u.v fun e w'=>e=Rt v∧∃g:Lat W,w'=g.v:=(c u.v u.h).mono fun _ _ h=>⟨h.1,⟨_,h.2⟩,rfl⟩
theorem qz {P:Program} {id:Nat} {Q:Exit->Act->World->Prop} {a:Act} {w:World} {l:List Oper} (W:World) (d:P.follows .mixedOrders=true) (c:Region.lexB .any l.toArray=true) (e:Bz W w)
  (h:wpQuiet P l.toArray (fun w'=>∃u:Lat W,w'=u.v) (fun b=>∀w',(∃u:Lat W,w'=u.v)->Q .normal b w') l a):(Code.region id l.toArray true).wp P Q a w:=
 wp_region_quiet (C:=fun w'=>∃u:Lat W,w'=u.v) d c ⟨⟨_,e.drew⟩,rfl⟩ (by simpa using h)
end
end Go.Proofs.YtnmpcdnbklmhkaaGreatDoor
