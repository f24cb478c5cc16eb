import Derived.Test.YtnmpcdnbklmhkaaGreatDoorQAh
import Derived.Test.YtnmpcdnbklmhkaaGreatDoorQAq
import Derived.Test.YtnmpcdnbklmhkaaGreatDoorQAr
namespace Go.Proofs.YtnmpcdnbklmhkaaGreatDoor
open Go.Proofs.Tryz Go.RowKit
set_option maxRecDepth 100000
set_option linter.all false
set_option maxHeartbeats 8000000
section
attribute [local go_sem] Oper.semAt_some
attribute [local go_sem ↓] Go.wp_at_zero Go.wp_at_succ
theorem KG {P:Program} (w:World) {o:Oper} {a:Act} {K:Act->World->Prop} {Q:Exit->Act->World->Prop} (d s:Operand) (t c:TypeId)
  (g:o.op= .call {callee:= .builtin .copy,args:=#[d,s],argTypes:=#[t,c]}) (v u:Value) (f:a.eval d=v) (j:a.eval s=u) {e:Value} {w':World}
  (i:(Builtin.copy_ #[t,c] o.type #[v,u]).run P w= .ok e w') (h:K (a.put o.dst e) w'):o.wp P a w K Q:=by
 unfold Oper.wp execOp;simp only[g,resolve,invoke,builtin,Sem.run_bind,Sem.run_pure,Result.andThen_ok,List.map_toArray,List.map_cons,List.map_nil,f,j,i];exact h
theorem OB {W:World} {e E f n:Nat} {v:Value} {i:List Value} (h:W.ownsRow e E f v n i) (b:Nat) (d:v.ownBlock=some b):e<=b:=by
 rcases h.2 with⟨rfl,_⟩|⟨g,j,c,rfl,a,_⟩
 ·cases d
 ·cases d;exact a
theorem Lc {w:World} {g n:Nat} {k:Array Value} {x:Int} (h:Holds w g 3 k) (o:n<=1000000) (m:∀q,q<n->k[q]?=some (Vi x)):RowT 1 3 intV w (Sq (some ⟨g,0,none⟩) n n) (List.replicate n x):=by
 refine⟨⟨some (Ad g 0),n,by simp,by simp,by simp;omega,(fun e=>nomatch e),.inr ⟨g,0,rfl,fun i y a j u c=>?_⟩⟩,fun b d=>?_⟩
 ·have f:=(jG.1 a).1;simp at f;rw[List.getElem?_replicate]at a;rw[if_pos f]at a;cases a;have l:j=0:=by
   have:=(jG.1 c).1;simp[intV]at this;exact this
  subst l;simp[intV]at c;rw[<-c];rw[show 0+i*1+0=i by omega,h.cell i];exact m i f
 ·cases d;exact⟨_,_,h⟩
theorem OT (x:Int) (n:Nat) (Q:1<=n) (hn:n<=1000000) (J K c:Nat) (w:World) (M:w.cell? ⟨J,K,none⟩=some (Vi x)):
  Cs 310 #[.slice (some ⟨J,K,none⟩) 1 c,Vi n] w fun e w'=>∃V,e= .returned V∧RowT 1 3 intV w' V (List.replicate n x)∧Bz w w':=by
 have X:Hid (∀w,Cs 336 #[.int .u64 1,.int .u64 n] w fun e w'=>e= .returned (.tuple #[.int .u64 0,.int .u64 n])∧w'=w):=hiD fun w=>by
  have h:=Tryz.bits_Mul 1 n (by omega) (by omega) w;rw[show (1*n/18446744073709551616:Nat)=0 by omega,show (1*n%18446744073709551616:Nat)=n by omega]at h;exact h
 have ab:decide ((n:Int)<0)=false:=decide_eq_false (by omega);have aa:decide ((9223372036854775807:Int)<n)=false:=decide_eq_false (by omega);have aj:IntKind.u64.wrap (n:Int)=n:=by simp[IntKind.wrap,IntKind.bits,IntKind.signed];omega
 have ak:IntKind.i64.wrap (n:Int)=n:=by rw[IntKind.wrap_i64];omega
 have al:IntKind.u64.wrap (1:Int)=1:=by decide
 obtain⟨T,d,a1,H,a4⟩:=iP3;obtain⟨Z,hZ,af⟩:∃Z:Array Value,Z.size=n∧∀w,(Instr.makeSlice 125 (Vi n) (Vi n)).run prog w= .ok (Vs w.1.size 0 n n) (w.alloc (.cells Z 3)):=by
  refine⟨madeCells (Value.int .i64 0).cells (n*T.size),by rw[size_madeCells,H,Nat.mul_one],fun w=>?_⟩;have:=run_makeSlice (P:=prog) (w:=w) 125 3 T _ underlying125 d a1 .i64 .i64 n n (by omega) (Int.le_refl _) (by rw[H];simp;omega) (by rw[a4];omega) (by omega);simpa using this
 have a7:=World.block_lt_of_cell? w _ M;simp only at a7;go_enter func310,ntmps310;go_wp2_with fail;refine(X.out _).mono ?_;rintro am b ⟨rfl,rfl⟩;have O:=Holds.fresh b 3 Z;have s:Bz b (b.alloc (.cells Z 3)):=bB;obtain⟨a,l⟩:=xL (Z.toList.take 0++[Value.int .i64 x]++Z.toList.drop (0+1)).toArray;have o:∀p,(Builtin.copy_ #[125,125] p #[Vs b.1.size 0 n n,Vs J K 1 c]).run prog (b.alloc (.cells Z 3))= .ok (goInt (1:Nat)) ((b.alloc (.cells Z 3)).setRow b.1.size a):=fun p=>by
  rw[l];exact xG (b.alloc (.cells Z 3)) _ _ p 3 1 b.1.size 0 n n (Ad J K) 1 c Z 3 [Vi x] 1 underlying125 (by kernel_rfl) O (by simp only[Nat.min_def];split<;>omega) rfl
   (fun j a9 L=>by
    have a0:j=0:=by have:=(jG.1 L).1;simpa using this
    subst a0;simp at L;rw[Addr.add_lit,Nat.add_zero,<-L];exact qd s nLe M) (by rw[hZ];simp;exact Q) (by intro v u;simp at u;rw[u];rfl)
 have F:a.size=n:=by rw[l];simp;omega
 have E:a[0]?=some (Vi x):=by rw[l];simp
 have U:Holds ((b.alloc (.cells Z 3)).setRow b.1.size a) b.1.size 3 a:=O.setRow a;have A:=Be (g:=b.1.size) s nLe a;clear l;go_wp2_with (at_builtin;refine wpList_copy_runI _ rfl (.tmp 31) (.tmp 32) 125 125 rfl _ _ rfl rfl (o _) ?_);generalize (b.alloc (.cells Z 3)).setRow b.1.size a=W1 at*;clear o O s M;have ah:n<=9223372036854775807:=by omega
 go_loopw [8] (fun q wr=>∃(j:Nat) (a:Array Value),1<=j∧j<=n∧q=Vi j∧Holds wr b.1.size 3 a∧a.size=n∧Hid (∀i,i<j->a[i]?=some (Vi x))∧Bz b wr) (fun q _=>n-(intOf q).toNat);case atStart=>exact⟨1,a,Nat.le_refl _,Q,rfl,U,F,hiD (fun i d=>by
  have h0:i=0:=by omega
  rw[h0];exact E),A⟩
 case round=>
  clear U F E A;obtain⟨j,N,ac,ad,rfl,z,a2,I,C⟩:=hrel;by_cases ae:j<n
  ·obtain⟨m,S⟩:=xR (Nat.min j (n-j));have ag:m<=j∧m<=n-j∧0<m:=by rw[<-S];simp only[Nat.min_def];split<;>omega
   obtain⟨f,k⟩:=xL (N.toList.take j++List.replicate m (Value.int .i64 x)++N.toList.drop (j+(List.replicate m (Value.int .i64 x)).length)).toArray;have o:∀W,W.1=wr.1->∀p y r,(Builtin.copy_ #[125,125] p #[Vs b.1.size j (n-j) y,Vs b.1.size 0 j r]).run prog W= .ok (goInt m) (W.setRow b.1.size f):=fun W R p y r=>by
    rw[k];exact xG W _ _ p 3 1 b.1.size j (n-j) y (Ad b.1.size 0) j r N 3 (List.replicate m (Value.int .i64 x)) m underlying125 (by kernel_rfl) (by rw[R];exact z) S.symm (by simp)
     (fun i a9 d=>by
      rw[List.getElem?_replicate]at d;split at d
      ·cases d;rw[Addr.add_lit,dG];rw[World.cell?_of_block (w:=wr) (w':=W) (by rw[R])];rw[z.cell i];exact I.out i (by omega)
      ·cases d) (by rw[a2];simp;omega) (by intro v u;rw[(List.mem_replicate.1 u).2];rfl)
   have D:f.size=n:=by rw[k];simp;omega
   have B:∀i,i<j+m->f[i]?=some (Vi x):=fun i d=>by
    rw[k];simp only[List.getElem?_toArray,jk];rcases Nat.lt_or_ge i j with h|h
    ·rw[List.getElem?_append_left (by simp;omega),List.getElem?_take_of_lt h];have:=I.out i h;simpa using this
    ·rw[List.getElem?_append_right (by simp;omega),List.getElem?_append_left (by simp;omega),List.getElem?_replicate,if_pos (by simp;omega)]
   have a5:=hiD B;clear B k I;have hw:IntKind.i64.wrap ((j:Int)+m)=((j+m:Nat):Int):=by rw[IntKind.wrap_i64];omega
   have a3:=hiD o;have ai:¬n=j:=by omega
   clear o S;go_wp2_with fail;refine xN [0,1,2,3,4,5,6] 9 2 (by kernel_rfl) (by kernel_rfl) (fun _=>True) trivial (fun _ _ a8 _ _ h=>by cases a8<;>exact h) ?_;simp only[qI,jM,jN]
   repeat (refine qA rfl (fun w' hS=>by (go_simp<;>rfl)) ?_)
   show zL _ _ _ _ _ _ _ _ _ _ _ _;simp only[Act.put,jC,jL,jK];refine qC [7] (by kernel_rfl) (by simp) (by simp) ?_;intro q t;simp only[jI,jH,or_false]at t;subst t;refine qq rfl rfl ?_;have a6:=fun p y r=>a3.out wr.drew rfl p y r;refine KG wr.drew (.tmp 41) (.tmp 44) 125 125 rfl (Vs b.1.size j (n-j) (n-j)) (Vs b.1.size 0 j n) rfl rfl (a6 _ _ _) ?_;refine⟨trivial,?_⟩;refine qC [8] (by kernel_rfl) (by simp) (by simp) ?_;intro q t;simp only[jI,jH,or_false]at t;subst t;refine qq rfl rfl ?_;go_simp;refine vj (by kernel_rfl) (by kernel_rfl) ?_;refine qq rfl rfl ?_;go_simp;rw[show ((j:Int)+m)=((j+m:Nat):Int) by push_cast;rfl];go_roundw;case rel=>exact⟨_,_,_,_,_,_,_,_,_,_,_,_,_,_,⟨j+m,f,by omega,by omega,rfl,z.drew.setRow f,D,a5,Be (C.trans bRf.drew) nLe f⟩,rfl⟩
   case measure=>simp[intOf];omega
  ·obtain rfl:j=n:=by omega
   go_wp2_with fail;go_ret;exact⟨_,rfl,Lc z hn (fun q t=>I.out q t),C⟩
theorem UM (n:Nat) (q:1<=n) (t:n<=1000000) (w:World):
  Cs 335 #[.slice none 0 0,Vi n] w fun e w'=>∃g p,e= .returned (.slice (some ⟨g,0,none⟩) 0 p)∧w'.ownsRow w.1.size 3 1 (.slice (some ⟨g,0,none⟩) 0 p) 0 []∧Bz w w':=by
 obtain⟨s,r,b,o,d⟩:=iP3;have f:decide ((n:Int)<0)=false:=decide_eq_false (by omega);have h:decide ((0:Int)<n)=true:=decide_eq_true (by omega);obtain⟨G,c⟩:=xR (grownCap w n 0 3);obtain⟨R,i⟩:=xR (Builtin.zeroCells (Value.int .i64 0).cells n++Builtin.zeroCells (Value.int .i64 0).cells (grownCap w n 0 3-n));have a:=fun m=>Lib.run_append_nil_zeros w 125 3 m 3 s _ .i64 .i64 underlying125 underlying3 r b n q (by omega) (by omega) (by rw[d];omega);rw[i,c]at a;have k:IntKind.i64.wrap (n:Int)=n:=by rw[IntKind.wrap_i64];omega
 go_enter func335,ntmps335;go_wp2_with (at_builtin;refine Lib.wpList_append_run _ rfl _ _ _ _ rfl _ _ rfl rfl _ _ (a _) ?_);go_ret;have j:G<=maxLen:=by
  rw[<-c];exact grownCap_le_maxLen w n 0 _ (by unfold maxLen;omega)
 have l:R.size=G*1:=by
  rw[<-i,<-c];have:=grownCap_ge w n 0 3;rw[Array.size_append,size_zeroCells,size_zeroCells,show (Value.int .i64 0).cells.size=1 from rfl];omega
 exact⟨_,_,rfl,World.ownsRow_made w.drew R G nLe j l,bRf.drew.alloc nLe _⟩
theorem P9 (l m:List Int) (v u:Value) (c:World) (r:RowT 1 3 intV c v l) (n:RowT 1 3 intV c u m) (h1:1<=l.length+m.length) (hn:l.length+m.length<=1000000)
  (Z a0:Nat) (R:Holds c Z 125 #[v,u]):
  Cs 309 #[Sq (some ⟨Z,0,none⟩) 2 a0] c fun e w'=>∃A,e=Rt A∧RowT 1 3 intV w' A (l++m)∧Bz c w'∧∀b,A.ownBlock=some b->c.1.size<=b:=by
 obtain⟨U,S,z,C,B⟩:=iP3;obtain⟨a1,c1,rfl,a5⟩:=r.form;obtain⟨a2,c2,rfl,a6⟩:=n.form;obtain⟨V,x1,-⟩:=R.g2;have T:=hiD fun w=>UM (l.length+m.length) h1 hn w;go_enter func309,ntmps309;go_wp2_with fail;obtain⟨F,h⟩:=xL (fun j=>(if 0<j then l.length else 0)+(if 1<j then m.length else 0));have P:F 0=0:=by rw[h];rfl
 have Q:F 1=l.length:=by rw[h];simp
 have O:F 2=l.length+m.length:=by rw[h];simp
 clear h;have K:=hiD P;have N:=hiD Q;have L:=hiD O;clear P Q O;have a3:l.length<=1000000:=by omega
 have a4:m.length<=1000000:=by omega
 go_loopw [3,5,11] (fun s e q wr=>∃j:Nat,j<=2∧q=Vi j∧(∃g:Nat,s=Vi g∧Hid (g=F j))∧wr=c) (fun _ _ q _=>2-(intOf q).toNat);case atStart=>exact⟨0,by omega,rfl,⟨0,rfl,hiD K.out.symm⟩,rfl⟩
 case round=>
  obtain⟨j,hj,rfl,⟨g,rfl,D⟩,p⟩:=hrel;have p:=p.symm;subst p;rcases Nat.lt_or_ge j 2 with J|I
  ·rcases(by omega:j=0∨j=1)with rfl|rfl
   ·have W:g=0:=D.out.trans K.out;subst W;go_wp2_with fail;exact⟨⟨1,by omega,rfl,⟨l.length,rfl,hiD N.out.symm⟩,trivial⟩,by simp[intOf]⟩
   ·obtain rfl:g=l.length:=D.out.trans N.out;go_wp2_with fail;exact⟨⟨2,by omega,rfl,⟨l.length+m.length,by push_cast;rfl,hiD L.out.symm⟩,trivial⟩,by simp[intOf]⟩
  ·obtain rfl:j=2:=by omega
   obtain rfl:g=l.length+m.length:=D.out.trans L.out;go_wp2_with fail;rw[show ((l.length:Int)+m.length)=((l.length+m.length:Nat):Int) by push_cast;rfl];refine(T.out _).mono ?_;rintro a8 w1 ⟨g,a7,rfl,E,i⟩;have E:=hiD E;clear D K N L T;have x:=r.later i;have t:=n.later i;have o:=R.later i;go_wp2_with fail;go_loopw [6,8,27] (fun s e q wr=>∃(j:Nat) (k:List Int),j<=2∧q=Vi j∧Hid (k=if j=0 then []else if j=1 then l else l++m)∧Hid (wr.ownsRow c.1.size 3 1 s k.length (k.flatMap intV))∧Bz c wr) (fun _ _ q _=>2-(intOf q).toNat);case atStart=>exact⟨0,[],by omega,rfl,hiD rfl,E,i⟩
   case round=>
    clear E x t o;obtain⟨j,k,hj,rfl,M,y,a⟩:=hrel;have x:=hiD (r.later a);have t:=hiD (n.later a);have o:=R.later a;obtain⟨V,x1,-⟩:=o.g2;rcases Nat.lt_or_ge j 2 with J|I
    ·rcases(by omega:j=0∨j=1)with rfl|rfl
     ·have H:k=[]:=M.out;subst H;go_wp2_with (at_builtin;refine zT rfl _ _ 125 rfl c.1.size 3 U (Vi 0) underlying125 S z 1 8 C B rfl (by decide) intV (fun _=>rfl) Cc _ _ _ rfl y.out _ rfl l x.out.1 ?c1 ?c2 ?c3 ?_);case c1=>unfold maxLen;omega
      case c2=>omega
      case c3=>exact a.size
      intro A X f d;go_wp2_with fail;refine⟨⟨1,l,by omega,rfl,hiD rfl,hiD (by simpa using f),a.grown d a.size (fun b i=>OB y.out b i)⟩,by simp[intOf]⟩
     ·obtain rfl:l=k:=M.out.symm;go_wp2_with (at_builtin;refine zT rfl _ _ 125 rfl c.1.size 3 U (Vi 0) underlying125 S z 1 8 C B rfl (by decide) intV (fun _=>rfl) Cc _ _ _ rfl y.out _ rfl m t.out.1 ?d1 ?d2 ?d3 ?_);case d1=>unfold maxLen;omega
      case d2=>omega
      case d3=>exact a.size
      intro A X f d;go_wp2_with fail;refine⟨⟨2,l++m,by omega,rfl,hiD rfl,hiD (by simpa using f),a.grown d a.size (fun b i=>OB y.out b i)⟩,by simp[intOf]⟩
    ·obtain rfl:j=2:=by omega
     have H:k=l++m:=M.out;subst H;go_wp2_with fail;go_ret;exact⟨_,rfl,RowT.of_own (fun _=>rfl) y.out rfl,a,OB y.out⟩
end
end Go.Proofs.YtnmpcdnbklmhkaaGreatDoor
