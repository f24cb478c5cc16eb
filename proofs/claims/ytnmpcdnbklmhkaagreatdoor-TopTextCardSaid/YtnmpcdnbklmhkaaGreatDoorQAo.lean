import Derived.Test.YtnmpcdnbklmhkaaGreatDoorQAn
import Derived.Test.YtnmpcdnbklmhkaaGreatDoorQAm
namespace Go.Proofs.YtnmpcdnbklmhkaaGreatDoor
open Go.Proofs.Tryz Go.RowKit
set_option maxRecDepth 100000
set_option linter.all false
set_option maxHeartbeats 8000000
section
attribute [local go_sem] Oper.semAt_some
attribute [local go_sem ↓] Go.wp_at_zero Go.wp_at_succ
def mkA (a c d e:Int):Value:= .agg #[Vi a,Vi c,Vi d,Vi e]
theorem DC:En0 307:=enters_of func307 rfl rfl
theorem I5 (a:Option Addr) (n c:Nat) (w:World):Cs 278 #[Sq a n c] w fun e w'=>e=Rt (.func (.func 307) #[] #[Vp w.1.size 0])∧w'=w.alloc (Oc #[Sq a n c] 125):=by
 have b:=hmf1;go_enter func278,ntmps278;go_wp2_with fail;go_ret;exact⟨rfl,rfl⟩
theorem FH (B:Nat) (a:Option Addr) (c:Nat) (L:List Int) (C:L.length<=c):Iter prog 307 #[Vp B 0] (fun i=>#[Vi (L.getD i 0)]) L.length
  (fun W=>Holds W B 125 #[Sq a L.length c]∧zA W .i64 a L):=by
 intro l J v W u o hF q j;have s:Cq W B 0 (Sq a L.length c):=(hF 0 W j).1.cell 0;have r:=hiD hF;have z:=(hF 0 W j).2.1;clear hF;refine callsIn_of_wp func307 rfl trivial ?_ rfl;simp only[ntmps307,jW,jF,jO,Nat.reduceAdd,Nat.reduceSub,jR,jQ,jX,jU,jD,jE];gi_wp2;clear s;gi_loopw [4,7] (fun x p wr=>∃i:Nat,i<=L.length∧p=Vi i∧J i wr) (fun x p wr=>L.length-(intOf p).toNat);case atStart=>exact⟨0,by omega,rfl,j⟩
 case round=>
  obtain⟨i,H,rfl,n⟩:=hrel;by_cases d:i<L.length
  ·obtain⟨F,I,D,E,w,t⟩:=q i wr d n;obtain⟨b,A,rfl,f⟩:∃b A,a=some (Ad b A)∧∀i,i<L.length->Cq wr b (A+i) (Vi (L.getD i 0)):=by
    rcases(r.out i wr n).2.2 with m|m
    ·rw[m]at d;simp at d
    ·exact m
   have k:=f i d;clear f;generalize L.getD i 0=x at*;gi_wp2;refine⟨rfl,t.mono ?_⟩;rintro e y (⟨rfl,h⟩|⟨rfl,g⟩)
   ·gi_wp2;go_roundw;case rel=>exact⟨i+1,by omega,by go_num,h⟩
    case measure=>simp[intOf];omega
   ·gi_wp2;refine bodyPost_ret (results_none rfl _ _ _) rfl ?_;exact⟨⟨_,rfl⟩,.inr ⟨i,d,g⟩⟩
  ·gi_wp2;go_end0;have e:i=L.length:=by omega
   subst e;exact⟨⟨_,rfl⟩,.inl n⟩
def FS (s:Int):Nat:=(max 1 (min s 4)).toNat
theorem Hy (i j k l s:Int) (w:World):Cs 248 #[mkA i j k l,Vi s] w fun e w'=>e=Rt (.func (.func 307) #[] #[Vp (w.1.size+1) 0])∧
  w'=(w.alloc (Oc #[Vi i,Vi j,Vi k,Vi l] 111)).alloc (Oc #[Sq (some ⟨w.1.size,0,none⟩) (FS s) 4] 125):=by
 have b:=hiD (fun a n c w=>I5 a n c w);have g:0<=max 1 (min s 4):=by omega
 have f:max 1 (min s 4)<=4:=by omega
 simp only[mkA];go_enter func248,ntmps248;go_wp2_with fail;refine(b.out _ _ _ _).mono ?_;rintro r d ⟨rfl,rfl⟩;go_wp2_with fail;go_ret;exact⟨by simp,rfl⟩
theorem Ik {w:World} {b t:Nat} {c d e f:Int} (h:Holds w b t #[Vi c,Vi d,Vi e,Vi f]) (k:Nat):zA w .i64 (some ⟨b,0,none⟩) ([c,d,e,f].take k):=by
 have j:([c,d,e,f].take k).length<=4:=by simp;omega
 refine⟨by omega,.inr ⟨b,0,rfl,fun i g=>?_⟩⟩;have a:([c,d,e,f].take k).getD i 0=[c,d,e,f].getD i 0:=by
  have:i<k:=by simp at g;omega
  simp[List.getD,this]
 rw[a,dG,h.cell i];rcases(show i=0∨i=1∨i=2∨i=3 by omega)with rfl|rfl|rfl|rfl<;>rfl
theorem FR {B:Nat} (k:IntKind) (a:Option Addr) (l:List Int):qe B (fun W=>zA W k a l):=fun W f n h d j=>by
 refine⟨h.1,?_⟩;rcases h.2 with c|⟨b,m,e,c⟩
 ·exact .inl c
 ·exact .inr ⟨b,m,e,fun i g=>cell_kept (c i g) d (fun r e=>(j r e).2)⟩
theorem G5 {w:World} {j:IntKind} {b g:Nat} {l:List Int} (h:zA w j (some ⟨b,g,none⟩) l) {p:Addr} {v:Value} (m:b≠p.block):zA (w.setCell p v) j (some ⟨b,g,none⟩) l:=by
 refine⟨h.1,?_⟩;rcases h.2 with c|⟨f,d,e,c⟩
 ·exact .inl c
 ·cases e;exact .inr ⟨b,g,rfl,fun i k=>(Af (a:=Ad b (g+i)) m v).trans (c i k)⟩
theorem RB (a c d e s:Int):(JO [a,c,d,e] s).length=FS s:=by unfold JO FS;simp;omega
theorem F5 (c d f g s:Int) (w:World):Cs 229 #[mkA c d f g,Vi s] w fun e w'=>e=Rt (Vi (leastM [c,d,f,g] s))∧Bz w w':=by
 have K:=hiD (fun c d f g s w=>Hy c d f g s w);have t:=RB c d f g s;have a3:FS s<=4:=by unfold FS;omega
 have Q:leastM [c,d,f,g] s=(JO [c,d,f,g] s).foldl min c:=rfl;have P:JO [c,d,f,g] s=[c,d,f,g].take (FS s):=rfl;generalize J:FS s=k at*;generalize E:JO [c,d,f,g] s=L at*;rw[Q];have R:=hiD P;have Z:=hiD J;clear P J Q E;have C:=hiD (fun B a=>FH B a 4 L (by omega));simp only[mkA]at*;refine qH func229 rfl ?_;simp only[ntmps229,jW,jF,jO,Nat.reduceAdd,Nat.reduceSub,jR,jQ,jX,jU,jD,jE];go_wp2_with fail;refine(K.out _ _ _ _ _ _).mono ?_;rintro a4 w1 ⟨rfl,rfl⟩;rw[Z.out];go_wp2_with fail;have I:=(Holds.fresh' (w:=w.alloc (Oc #[Vi c,Vi d,Vi f,Vi g] 111)) (b:=w.1.size+1) (by simp) 3 #[Vi c]);have m:=(bA w (Oc #[Vi c,Vi d,Vi f,Vi g] 111)).alloc (by simp) (Oc #[Vi c] 3);have j:((w.alloc (Oc #[Vi c,Vi d,Vi f,Vi g] 111)).alloc (Oc #[Vi c] 3)).1.size=w.1.size+1+1:=by simp
 generalize (w.alloc (Oc #[Vi c,Vi d,Vi f,Vi g] 111)).alloc (Oc #[Vi c] 3)=F at*;have T:=((Holds.fresh' j 111 #[Vi c,Vi d,Vi f,Vi g])).alloc (Oc #[Vs (w.1.size+1+1) 0 k 4] 125);have O:=Holds.fresh' (w:=F.alloc (Oc #[Vi c,Vi d,Vi f,Vi g] 111)) (b:=w.1.size+1+1+1) (by simp[j]) 125 #[Vs (w.1.size+1+1) 0 k 4];have S:=(I.alloc (Oc #[Vi c,Vi d,Vi f,Vi g] 111)).alloc (Oc #[Vs (w.1.size+1+1) 0 k 4] 125);have A:=(m.alloc m.size (Oc #[Vi c,Vi d,Vi f,Vi g] 111)).alloc (by simp[j];omega) (Oc #[Vs (w.1.size+1+1) 0 k 4] 125);have a2:((F.alloc (Oc #[Vi c,Vi d,Vi f,Vi g] 111)).alloc (Oc #[Vs (w.1.size+1+1) 0 k 4] 125)).1.size=w.1.size+4:=by simp[j]
 have q:=Ik T k;rw[<-R.out]at q;generalize (F.alloc (Oc #[Vi c,Vi d,Vi f,Vi g] 111)).alloc (Oc #[Vs (w.1.size+1+1) 0 k 4] 125)=W1 at*;rw[<-t]at O;refine kT rfl DC (C.out (w.1.size+1+1+1) (some (Ad (w.1.size+1+1) 0))) (fun _=>rfl)
  (fun i W=>(Holds W (w.1.size+1+1+1) 125 #[Vs (w.1.size+1+1) 0 L.length 4]∧zA W .i64 (some (Ad (w.1.size+1+1) 0)) L)∧Holds W (w.1.size+1) 3 #[Vi ((L.take i).foldl min c)]∧Bz w W)
  (fun _ _ _=>False)
  (fun i=>((qi _ _ _).and (FR _ _ _)).and ((qi _ _ _).and (qe.below (by omega) nLe))) (fun _ _=>qe.pure _)
  (fun i W h=>h.1) ⟨⟨O,q⟩,by simpa using S,A⟩
  (fun i=>{tmps:=#[.agg #[Vi c,Vi d,Vi f,Vi g],Vi s,Vp w.1.size 0,undef,Vi 0,Vp (w.1.size+1) 0,Vi (L.getD i 0),Vp w.1.size 0,Vi c,
   .agg #[Vi c,Vi d,Vi f,Vi g],Vi s,.func (.func 307) #[] #[Vp (w.1.size+1+1+1) 0],Vi (L.getD i 0),undef,undef,undef,undef],defers:=[]}) ?_ ?_ ?_ (fun _ _ _ _ _ _ h _=>h.elim)
 ·intro l i W a1 hi z;generalize L.getD i 0=x at*;gi_wp2;exact z
 ·rintro l i W hl o ⟨⟨N,D⟩,n,r⟩;have u:(L.take (i+1)).foldl min c=min ((L.take i).foldl min c) (L.getD i 0):=by
   rw[ja o,List.foldl_append];simp[List.getD,o]
  have H:=hiD u;clear u;generalize L.getD i 0=x at*;generalize (L.take i).foldl min c=y at*;obtain⟨V,U,-⟩:=n.g1;gi_wp2;refine⟨(KeepsOthers.setCell W (Ad (w.1.size+1) 0) _).from _,⟨N.far (by show w.1.size+1+1+1≠w.1.size+1;omega) _,(G5 D (by show w.1.size+1+1≠w.1.size+1;omega))⟩,by rw[H.out];exact n.set 0 (Vi (min y x)),r.setCell (p:=Ad (w.1.size+1) 0) (by simp) _⟩
 ·rintro a0 W hD ⟨⟨N,D⟩,n,r⟩ z;rw[jn]at n;generalize M:L.foldl min c=y at*;have X:=hiD M;clear M;obtain⟨V,U,-⟩:=n.g1;show Exit.inBlock 0 _ _ _ _;go_wp2_with fail;exact qZ (v:=Vi y) z (by simp[results,results229,go_sem]) ⟨by rw[X.out],qB r z (by omega)⟩
end
end Go.Proofs.YtnmpcdnbklmhkaaGreatDoor
