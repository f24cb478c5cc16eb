import Derived.Test.YtnmpcdnbklmhkaaGreatDoorQAi
import Derived.Test.YtnmpcdnbklmhkaaGreatDoorQAj
import Derived.Test.YtnmpcdnbklmhkaaGreatDoorQAa
import Derived.StillTailTactics
import Derived.BigQuiet
import Derived.Deep.QuietTactic
import Derived.Deep.AppendLies
import Derived.WalkLawsBesides
import Derived.Test.YtnmpcdnbklmhkaaGreatDoorQAf
import Derived.Test.YtnmpcdnbklmhkaaGreatDoorQAk
namespace Go.Proofs.YtnmpcdnbklmhkaaGreatDoor
open Go.Proofs.Tryz Go.RowKit
set_option maxRecDepth 100000
set_option linter.all false
set_option maxHeartbeats 8000000
section
variable {α β : Type} {ts : List Tok} {at0 at1 at2 : Nat} {bad bad1 bad2 : Bool}
end
def QR (a:List Tok):Prop:=∀(i:Nat) (t:Tok),a[i]?=some t->(t.kind=0↔i+1=a.length)
theorem Bzq {a:List Tok} {i:Nat} {t:Tok} (h:a[i]?=some t):a.drop i=t::a.drop (i+1):=by
 obtain⟨c,rfl⟩:=jG.1 h;exact je c
theorem QR.next {a:List Tok} (h:QR a) {i:Nat} {t:Tok} (c:a[i]?=some t) (e:t.kind≠0):i+1<a.length:=by
 have d:=(jG.1 c).1;have:=h i t c;omega
section
attribute [local go_sem] Oper.semAt_some
def tokOk (t:Tok):Prop:=(0<=t.kind∧t.kind<=5)∧(0<=t.n∧t.n<=1099511627776)∧(0<=t.at'∧t.at'<=140737488351232)∧(t.kind=4->t.n<7)∧(t.kind=2->t.n<26)
theorem kt.grown {w w':World} {c d:Nat} {l:List Tok} {k:Option Nat} (h:kt w (some ⟨c,d,none⟩) l) (f:w.grownBy w' k) (j:some c≠k):kt w' (some ⟨c,d,none⟩) l:=by
 rcases h with rfl|⟨b,o,e,a⟩
 ·exact .inl rfl
 ·obtain⟨rfl,rfl⟩:c=b∧d=o:=by simpa using e
  exact .inr ⟨c,d,rfl,fun i g=>⟨f.cell (a i g).1 j,f.cell (a i g).2.1 j,f.cell (a i g).2.2 j⟩⟩
theorem BR {w w':World} (a:Bz w w') (d:Option Nat):w.grownBy w' d:=⟨a.os,a.tape,a.output,a.size,fun i c _=>a.block i c⟩
theorem Ge (w:World) (k:Nat) (a:Option Nat):w.grownBy (w.drewN k) a:=BR (qp _ _ _) a
section
variable {ts : List Tok} {b blk off cap at0 : Nat} {bad : Bool} {w w' : World}
end
theorem xB {P:Program} {g:Func} {p:Tmp} {e:TypeId} (h:g.results=#[.cell p e]) (f:Array Value) (w:World) (b:Nat) (t:TypeId) (c:Array Value) (d:TypeDesc)
  (l:f.getD p undef=Vp b 0) (i:Holds w b t c) (m:P.underlying e=some d) (j:(match d with|.struct _|.array _ _=>true|_=>false)=true) (k:(P.info? e).map (·.size)=some c.size):
  (results g f).run P w= .ok (.agg c) w:=by
 have a:f[p]?.getD undef=Vp b 0:=by simpa using l
 simp[results,h,a,asAddr,run_loadVar_row w b t e c (0,0) d i m j k]
theorem Hn {l:List Tok} {t:Tok} {r:List Tok} (h:l=t::r) (a:t.kind=2):yP l=if yt t.n=0 then .error t.at' else xq (yt t.n) r:=by
 subst h;unfold yP;simp only[if_pos a]
theorem Jg {w W:World} {c:Option Nat} (h:w.grownBy W c) {p:Addr} (e:w.1.size<=p.block) (v:Value):w.grownBy (W.setCell p v) c:=
 ⟨h.os,h.tape,h.output,by simpa[World.setCell]using h.size,fun i d a=>(Below.heap_setCell W p v i (by omega)).trans (h.block i d a)⟩
section
variable {w W W' : World} {ts : List Tok} {b blk off cap rb tb at0 at1 : Nat} {rt tt : TypeId} {rc tc : Array Value} {bad bad1 : Bool}
end
end
section
variable {ts : List Tok} {a0 a1 a2 : Nat} {b0 b1 b2 : Bool}
end
section
variable {w W W' : World} {ts : List Tok} {b blk off cap sb at0 at1 : Nat} {nt : Bool} {k mn mx : Int} {strict : Bool} {v v' : Value} {cs : List Cm} {bad bad1 : Bool}
end
theorem Nx (d:List Cm) (i:Nat) (c:Cm) (h:d[i]?=some c) (j:Nat) (v:Value) (e:(cmV c)[j]?=some v):(d.flatMap cmV)[i*9+j]?=some v:=by
 induction d generalizing i with
 |nil=>simp at h
 |cons x r ih=>
   have a:(cmV x).length=9:=rfl;cases i with
   |zero=>
     obtain rfl:x=c:=by simpa using h
     have b:j<9:=by have:=(jG.1 e).1;omega
     rw[List.flatMap_cons,List.getElem?_append_left (by omega)];simpa using e
   |succ i=>
     rw[List.flatMap_cons,List.getElem?_append_right (by omega),a,show (i+1)*9+j-9=i*9+j by omega];exact ih i (by simpa using h)
theorem Cg {w:World} {r:Nat} {v:Value} {m:List Cm} (h:w.ownsRow r 97 9 v m.length (m.flatMap cmV)):yQ w v m:=by
 rcases h.2 with⟨rfl,n⟩|⟨g,q,b,rfl,_,l,k,f,_⟩
 ·refine⟨none,0,by rw[n],by omega,by omega,fun _=>rfl,.inl (jV n)⟩
 ·refine⟨some (Ad g 0),q,rfl,by omega,by unfold maxLen at*;omega,(fun e=>nomatch e),.inr ⟨g,0,rfl,fun i c o j u p=>?_⟩⟩;have a:=(jG.1 o).1;have d:j<9:=(jG.1 p).1;rw[dG,h.cellAt (i*9+j) (by omega),Nx m i c o j u p]
section
variable {ts : List Tok} {at0 a2 : Nat} {bad b2 : Bool}
theorem Cb {t:Tok} (a:ts[at0]?=some t) (c:Int):isS c (ts.drop at0)=((t.kind==5)&&(t.n==c)):=by rw[Bzq a];rfl
theorem Bo {l:List UInt8} (h:(zZ l).2.2≠0):zg l=(⟨[],0⟩,(zZ l).2.1,(zZ l).2.2):=by
 unfold zg;rw[if_neg h]
end
/-! the tokens of a text -/
theorem T1 (l:List UInt8) (h:(tokOf l).2.2≠0):(1<=(tokOf l).1∧(tokOf l).1<=5)∧(0<=(tokOf l).2.1∧(tokOf l).2.1<=1099511627776)∧((tokOf l).1=4->(tokOf l).2.1<7)∧((tokOf l).1=2->(tokOf l).2.1<26):=by
 unfold tokOf at h⊢;split at h
 ·rename_i e;rw[if_pos e];split at h
  ·rename_i a;rw[if_pos a];refine⟨⟨by simp,by simp⟩,⟨?_,a.2⟩,by simp,by simp⟩;exact Dt _ (by rw[(Cy digB l).1,(Cy digB l).2]) a.1
  ·simp at h
 ·rename_i e;rw[if_neg e];split at h
  ·rename_i a;rw[if_pos a];split at h
   ·rename_i b;rw[if_pos b];have:letB (l.headD 0)=true:=by
     rcases l with _|⟨c,r⟩
     ·simp[vu]at a
     ·rw[zP]at a;by_cases f:letB c=true
      ·exact f
      ·rw[if_neg f]at a;omega
    have g:97<=(l.headD 0).toNat∧(l.headD 0).toNat<=122:=by
     simpa[letB]using this
    refine⟨⟨by simp,by simp⟩,⟨by simp only;omega,by simp only;omega⟩,by simp,fun _=>by simp only;omega⟩
   ·split at h
    ·rename_i b d;rw[if_neg b,if_pos d];simp
    ·simp at h
  ·rename_i a;rw[if_neg a];split at h
   ·rename_i b;rw[if_pos b];have:opOf l<=6:=by
     rcases l with _|⟨c,r⟩
     ·simp[opOf]
     ·unfold opOf;repeat' split
      all_goals omega
    refine⟨⟨by simp,by simp⟩,⟨by simp only;omega,by simp only;omega⟩,fun _=>by simp only;omega,by simp⟩
   ·rename_i b;rw[if_neg b];split at h
    ·rename_i d;rw[if_pos d];have:=(l.headD 0).toNat_lt;refine⟨⟨by simp,by simp⟩,⟨by simp only;omega,by simp only;omega⟩,by simp,by simp⟩
    ·simp at h
theorem kS:∀(f a:Nat) (l:List UInt8),∀y∈yT f a l,y.m≠0->(1<=y.t.kind∧y.t.kind<=5)∧(0<=y.t.n∧y.t.n<=1099511627776)∧(y.t.kind=4->y.t.n<7)∧(y.t.kind=2->y.t.n<26)
 |0,_,_=>fun y h=>by simp[yT]at h
 |f+1,a,l=>fun y h b=>by
   unfold yT at h;split at h
   ·simp at h
   ·rcases jI.1 h with rfl|h
    ·exact T1 _ b
    ·split at h
     ·simp at h
     ·exact kS f _ _ y h b
theorem IS {l:List UInt8} {q:List Tok} {p:Int} (h:zZ l=(q,p,0)):p=0∧(∀t∈q,tokOk t)∧QR q∧0<q.length:=by
 unfold zZ at h;split at h
 ·simp at h
 ·rename_i u;split at h
  ·simp at h
  ·rename_i r;simp only[Prod.mk.injEq]at h;obtain⟨rfl,rfl,_⟩:=h;have g:∀y∈qk 0 l,y.m≠0:=fun y a e=>by
    have:=List.find?_eq_none.1 r y a;simp[e]at this
   refine⟨rfl,fun t o=>?_,fun i t n=>?_,by simp⟩
   ·rcases List.mem_append.1 o with o|o
    ·obtain⟨y,a,rfl⟩:=List.mem_map.1 o;obtain⟨d,k,j,m⟩:=kS _ _ _ y a (g y a);have x:=kE l.length 0 l nLe y a;exact⟨⟨by omega,d.2⟩,k,⟨by omega,by omega⟩,j,m⟩
    ·obtain rfl:=List.mem_singleton.1 o;exact⟨by simp,by simp,⟨by simp,by simp only;omega⟩,by simp,by simp⟩
   ·rw[jZ,List.length_map,List.length_singleton];rcases Nat.lt_or_ge i (qk 0 l).length with b|c
    ·rw[List.getElem?_append_left (by simpa using b),List.getElem?_map]at n;obtain⟨y,a,rfl⟩:=Option.map_eq_some_iff.1 n;have f:=jY a;obtain⟨d,_⟩:=kS _ _ _ y f (g y f);constructor<;>intro e<;>omega
    ·rw[List.getElem?_append_right (by simpa using c),List.length_map]at n;have s:i-(qk 0 l).length=0:=by
      have:=(jG.1 n).1;simp at this;omega
     rw[s]at n;obtain rfl:(⟨0,0,l.length⟩:Tok)=t:=by simpa using n
     constructor
     ·intro _;omega
     ·intro _;rfl
section
attribute [local go_sem] Oper.semAt_some
structure Q9 (ts:List Tok) (pb blk off cap at0:Nat) (w:World):Prop where
 hold:Holds w pb 54 #[Sq (some ⟨blk,off+at0*3,none⟩) (ts.length-at0) (cap-at0)]
 ne:blk≠pb
 toks:kt w (some ⟨blk,off,none⟩) ts
 lt:at0<ts.length
 cap:ts.length<=cap
 len:ts.length<=4000
 ok:∀t∈ts,tokOk t
 ends:QR ts
section
variable {ts : List Tok} {pb blk off cap at0 : Nat} {w w' : World}
theorem Q9.later (h:Q9 ts pb blk off cap at0 w) (a:Bz w w'):Q9 ts pb blk off cap at0 w':=
 {h with hold:=h.hold.later a,toks:=h.toks.mono a nLe}
theorem Q9.grown {a:Option Nat} (h:Q9 ts pb blk off cap at0 w) (c:w.grownBy w' a) (d:some pb≠a) (e:some blk≠a):Q9 ts pb blk off cap at0 w':=
 {h with hold:=h.hold.grown c d,toks:=h.toks.grown c e}
theorem Q9.alloc (h:Q9 ts pb blk off cap at0 w) (o:Obj):Q9 ts pb blk off cap at0 (w.alloc o):=h.later (bRf.alloc nLe o)
theorem Q9.tok (h:Q9 ts pb blk off cap at0 w) {t:Tok} (f:ts[at0]?=some t):w.cell? ⟨blk,off+at0*3,none⟩=some (Vu t.kind)∧w.cell? ⟨blk,off+at0*3+1,none⟩=some (Vi t.n)∧w.cell? ⟨blk,off+at0*3+2,none⟩=some (Vi t.at'):=by
 obtain⟨d,rfl⟩:=jG.1 f;obtain⟨b,a,e,c⟩:=h.toks.get at0 d;obtain⟨rfl,rfl⟩:blk=b∧off=a:=by simpa using e
 exact c
theorem Q9.next (h:Q9 ts pb blk off cap at0 w) (a:at0+1<ts.length):Q9 ts pb blk off cap (at0+1) (w.setCell ⟨pb,0,none⟩ (Sq (some ⟨blk,off+at0*3+3,none⟩) (ts.length-at0-1) (cap-at0-1))):=
 {h with
  hold:=by
   have:=h.hold.set 0 (Vs blk (off+at0*3+3) (ts.length-at0-1) (cap-at0-1));rw[show off+(at0+1)*3=off+at0*3+3 by omega,show ts.length-(at0+1)=ts.length-at0-1 by omega,show cap-(at0+1)=cap-at0-1 by omega];exact this
  toks:=h.toks.grown (jh w pb 0 _) (fun e=>h.ne (Option.some.inj e))
  lt:=a}
end
def qF (p:Int):Ending:= .panicked [{v:= .iface 51 (Vi p),recovered:=false}]
def RQ {α:Type} (d:List Tok) (c g k i f:Nat) (r:Res α) (w:World) (j:α->Value) (e:Ending) (w':World):Prop:=
 w.grownBy w' (some c)∧match r with
  |.ok (v,l)=>e=Rt (j v)∧∃a,f<=a∧d.drop a=l∧Q9 d c g k i a w'
  |.error p=>e=qF p
theorem ke (j:List Tok) (m p l q i:Nat) (k:Bool) (t:Tok) (s:j[i]?=some t) (w:World) (h:Q9 j m p l q i w):
  Cs 59 #[Vp m 0,Vb k] w fun e w'=>w'=w∧if k=true then e=Rt (.tuple #[])else e=qF t.at':=by
 have u:Cq w m 0 (Vs p (l+i*3) (j.length-i) (q-i)):=h.hold.cell 0;obtain⟨x,d,y⟩:=h.tok s;have f:=h.lt;have c:=h.cap;have b:=h.len;obtain⟨n,r⟩:=xR (j.length-i);obtain⟨o,a⟩:=xR (l+i*3);have g:0<n:=by omega
 rw[r,a]at u;rw[a]at x d y;clear h s r a;cases k
 ·go_enter func59,ntmps59;go_wp2_with fail;exact⟨rfl,rfl,rfl⟩
 ·go_enter func59,ntmps59;go_wp2_with fail;go_end0;exact⟨rfl,rfl⟩
theorem A5 {c:List Tok} {a:Nat} {t:Tok} (d:c[a]?=some t) (k:Int):qX k (c.drop a)=if t.kind=k then .ok (t.n,if k=0 then c.drop a else c.drop (a+1))else .error t.at':=by
 rw[Bzq d];rfl
theorem yi (y:List Tok) (K P T O n:Nat) (k:Int) (a5:0<=k) (a6:k<=5) (w:World) (h:Q9 y K P T O n w):
  Cs 35 #[Vp K 0,Vu k] w (RQ y K P T O n (qX k (y.drop n)) w (Value.int .i64)):=by
 have p:=h.lt;have a7:=h.cap;have B:=h.len;have a:=h.ends;have C:=h.hold.size;have S:y[n]?=some y[n]:=jB p;generalize y[n]=t at*;have d:=A5 S k;obtain⟨Z,a4,t2⟩:=h.tok S;have f:=vz Z;simp only at f;have c0:Cq w K 0 (Vs P (T+n*3) (y.length-n) (O-n)):=h.hold.cell 0;have b:=bA w (Oc #[Vu t.kind,Vi t.n,Vi t.at'] 88);have j:=h.later b;have V:=Holds.fresh w 88 #[Vu t.kind,Vi t.n,Vi t.at'];have u:=fun H W N=>ke y K P T O n H t S W N;have v:=fun U=>j.next U;have g:=fun I=>a.next S I;obtain⟨a2,hf,J⟩:=j.hold.g1;obtain⟨a3,d1,d2,-⟩:=V.g3;have z:=BR b (some K);have D:=hiD v;have m:=hiD j;have r:=hiD u;have o:=hiD g;have x:=hiD d;have q:=hiD z;obtain⟨c,A,l⟩:=t;simp only at*;clear v j u g d z h S a V b;by_cases e:c=k
 ·subst e;have d:=x.out;rw[if_pos rfl]at d;have i:=hiD d;clear d;by_cases Q:c=0
  ·subst Q;go_enter func35,ntmps35;go_wp2_with fail;refine(r.out true _ m.out).mono ?_;rintro e s ⟨rfl,R⟩;obtain rfl:e=Rt (.tuple #[]):=by simpa using R
   go_wp2_with fail;go_ret;exact⟨q.out,by rw[i.out];exact⟨rfl,n,Nat.le_refl _,by simp,m.out⟩⟩
  ·have L:(c !=0)=true:=by simpa using Q
   have U:=o.out Q;have E:1<=y.length-n:=by omega
   have a0:y.length-n<=O-n:=by omega
   have F:=hiD Q;clear Q;go_enter func35,ntmps35;go_wp2_with fail;refine(r.out true _ m.out).mono ?_;rintro e s ⟨rfl,R⟩;obtain rfl:e=Rt (.tuple #[]):=by simpa using R
   generalize w.alloc (Oc #[Vu c,Vi A,Vi l] 88)=a1 at*;go_wp2_with fail;go_ret;exact⟨q.out.trans (jh _ K 0 _),by rw[i.out];exact⟨rfl,n+1,Nat.le_succ _,by simp[F.out],D.out U⟩⟩
 ·have L:(c==k)=false:=by simpa using e
  have M:=hiD e;clear e;go_enter func35,ntmps35;go_wp2_with fail;refine(r.out false _ m.out).mono ?_;rintro e s ⟨rfl,R⟩;obtain rfl:e=qF l:=by simpa using R
  have X:RQ y K P T O n (qX k (y.drop n)) w (Value.int .i64) (qF l) (w.alloc (Oc #[Vu c,Vi A,Vi l] 88)):=⟨q.out,by rw[x.out,if_neg M.out]⟩;unfold qF;exact⟨rfl,X⟩
def anyOf (a:List UInt8) (t:Tok):Int:=if t.kind=5∧(∃c∈a,t.n=c.toNat)then t.n else 0
open Classical in
def LB (a:List UInt8) (t:Tok):Prop:=∀c∈a,¬(t.kind=5∧t.n=c.toNat)
theorem vG (y:List Tok) (x A z K o:Nat) (s:ByteArray) (hs:s.size<=2) (W:∀c∈s.data.toList,c.toNat≠0) (t:Tok) (L:y[o]?=some t) (w:World) (h:Q9 y x A z K o w):
  Cs 34 #[Vp x 0,.string s] w fun e w'=>e=Rt (Vu (anyOf s.data.toList t))∧w.grownBy w' (some x)∧
   Q9 y x A z K (if anyOf s.data.toList t=0 then o else o+1) w':=by
 have c0:Cq w x 0 (Vs A (z+o*3) (y.length-o) (K-o)):=h.hold.cell 0;obtain⟨t0,t1,t2⟩:=h.tok L;have ae:=h.lt;have a5:0<y.length-o:=by omega
 have P:=fun ab hW=>yi y x A z K o 5 (by omega) (by omega) ab hW;have u:t.kind=5->∀c∈s.data.toList,t.n=c.toNat->anyOf s.data.toList t=t.n:=fun h c f e=>if_pos ⟨h,c,f,e⟩;have d:LB s.data.toList t->anyOf s.data.toList t=0:=fun h=>if_neg (fun g=>by obtain⟨g1,c,g2,g3⟩:=g;exact h c g2 ⟨g1,g3⟩);have I:∀k (v:k<s.size),LB (s.data.toList.take k) t->¬(t.kind=5∧t.n=(s[k]).toNat)->LB (s.data.toList.take (k+1)) t:=fun k v S J c f=>by
  rw[ja (by simpa using v)]at f;rcases List.mem_append.1 f with f|f
  ·exact S c f
  ·obtain rfl:=List.mem_singleton.1 f;exact J
 have j:∀k (v:k<s.size),s[k]∈s.data.toList:=fun k v=>by
  show s.data[k]∈s.data.toList;simp
 have a0:s.data.toList.take s.size=s.data.toList:=jy (show s.data.toList.length<=s.size from Nat.le_refl _);have a2:=A5 L 5;obtain⟨r,N⟩:=xR (anyOf s.data.toList t);obtain⟨a1,p⟩:=xR (if r=0 then o else o+1);simp only[N]at u d;simp only[N,p];obtain⟨n1,b⟩:=xR (y.length-o);obtain⟨o1,q⟩:=xR (z+o*3);rw[b,q]at c0;rw[b]at a5;rw[q]at t0 t1 t2;clear b q;have H:=hiD h;have CT:=hiD P;have HT:=hiD L;have a6:=hiD u;have aa:=hiD d;have a3:=hiD I;have l:=hiD j;have a4:=hiD a0;have a9:=hiD a2;have F:=hiD p;have a8:=hiD W;have HE:=hiD h.ends;clear W h P L u d I j a0 a2 N p;obtain⟨Z,m,ac⟩:=t;simp only at*;go_enter func34,ntmps34;go_wp2_with fail;go_loopw [8] (fun i wr=>∃(k n:Nat),k<=s.size∧i=Vi k∧Hid (LB (s.data.toList.take k) ⟨Z,m,ac⟩)∧wr=w.drewN n) (fun i _=>s.size-(intOf i).toNat);case atStart=>exact⟨0,0,jg _,rfl,hiD (fun c f=>by simp at f),rfl⟩
 case round=>
  obtain⟨k,n,v,rfl,T,rfl⟩:=hrel;by_cases a:k<s.size
  ·have ad:=(s[k]).toNat_lt;have hw:IntKind.i64.wrap ((s[k].toNat:Nat):Int)=s[k].toNat:=IntWalk.i64_in _ (by omega);by_cases Q:Z=5
   ·subst Q;by_cases R:m=(s[k].toNat:Int)
    ·subst R;have D:((s[k].toNat:Nat):Int)=r:=(a6.out rfl _ (l.out k a) rfl).symm;have B:=hiD D;clear D;go_wp2_with fail;go_quiet (fail);go_wp2_with fail;have U:r≠0:=by rw[<-B.out];have:=a8.out _ (l.out k a);omega
     have af:IntKind.u8.wrap ((s[k].toNat:Nat):Int)=s[k].toNat:=IntWalk.u8_in _ (by omega);have H0:=hiD U;clear U;refine(CT.out _ (H.out.later (qp _ _ _))).mono ?_;rintro e w1 ⟨V,O⟩;rw[a9.out]at O;simp only[if_true,(by decide:¬((5:Int)=0)),if_false]at O;obtain⟨rfl,a7,S,J,M⟩:=O;have X:=congrArg List.length J;rw[jj,jj]at X;have h5:=M.lt;obtain rfl:a7=o+1:=by omega
     have E:=(Ge w (n+nq) (some x)).trans V;have H3:=hiD M;have HG:=hiD E;clear S J M X h5 V E;go_wp2_with fail;go_ret;exact⟨by rw[<-B.out];rfl,HG.out,by rw[<-F.out,if_neg H0.out];exact H3.out⟩
    ·go_wp2_with fail;go_quiet (fail);go_wp2_with fail;go_roundw;case rel=>exact⟨k+1,_,by omega,by go_num,hiD (a3.out k a T.out (fun g=>R g.2)),rfl⟩
     case measure=>simp[intOf];omega
   ·go_wp2_with fail;go_quiet (fail);go_wp2_with fail;go_roundw;case rel=>exact⟨k+1,_,by omega,by go_num,hiD (a3.out k a T.out (fun g=>Q g.1)),rfl⟩
    case measure=>simp[intOf];omega
  ·obtain rfl:k=s.size:=by omega
   have C:r=0:=aa.out (by have:=T.out;rwa [a4.out]at this);have ha:a1=o:=by rw[<-F.out,if_pos C]
   subst C ha;go_wp2_with fail;go_ret;exact⟨rfl,Ge _ _ _,H.out.later (qp _ _ _)⟩
end
theorem Dd (c:UInt8) (t:Tok):anyOf [c] t=if ((t.kind==5)&&(t.n==(c.toNat:Int)))=true then (c.toNat:Int)else 0:=by
 unfold anyOf;by_cases h:t.kind=5∧t.n=c.toNat
 ·rw[if_pos ⟨h.1,c,by simp,h.2⟩,if_pos (by simp[h.1,h.2]),h.2]
 ·rw[if_neg (fun g=>h ⟨g.1,by obtain⟨_,d,a,b⟩:=g;simp at a;rw[b,a]⟩),if_neg (by simpa using h)]
theorem j9 (B:List Tok) (D E I F n:Nat) (c:UInt8) (M:c.toNat≠0) (s:ByteArray) (J:s.data.toList=[c]) (w:World) (h:Q9 B D E I F n w):
  Cs 60 #[Vp D 0,.string s] w (RQ B D E I F n (zH c.toNat (B.drop n)) w fun _=>.tuple #[]):=by
 have k:=h.lt;have H:B[n]?=some B[n]:=jB k;generalize B[n]=t at*;have y:s.size=1:=by show s.data.size=1;rw[<-Array.length_toList,J];rfl
 have a:=vG B D E I F n s (by omega) (by rw[J];intro d z;obtain rfl:=List.mem_singleton.1 z;exact M) t H w h;rw[J,Dd]at a;have C:zH c.toNat (B.drop n)=if ((t.kind==5)&&(t.n==(c.toNat:Int)))=true then .ok ((),B.drop (n+1))else .error t.at':=by
  unfold zH;rw[Cb H,List.tail_drop,Bzq H];rfl
 cases K:((t.kind==5)&&(t.n==(c.toNat:Int)))
 ·rw[K]at a C;simp only[ji,if_false,if_true]at a C;have g:=fun W A=>ke B D E I F n false t H W A;have q:=hiD a;have p:=hiD g;have o:=hiD C;clear a g C K H h J M;go_enter func60,ntmps60;go_wp2_with fail;refine q.out.mono ?_;rintro e u ⟨rfl,i,f⟩;have l:=hiD i;have L:=hiD f;clear i f;go_wp2_with fail;refine(p.out _ L.out).mono ?_;rintro e v ⟨r,N⟩;subst r;obtain rfl:e=qF t.at':=by simpa using N
  have O:RQ B D E I F n (zH c.toNat (B.drop n)) w (fun _=>.tuple #[]) (qF t.at') v:=⟨l.out,by rw[o.out]⟩;unfold qF;exact⟨rfl,O⟩
 ·rw[K]at a C;have b:¬((c.toNat:Int)=0):=by omega
  have x:((c.toNat:Int)!=0)=true:=by simpa using b
  simp only[if_true,if_neg b]at a C;have q:=hiD a;have o:=hiD C;clear a C K H h J M b;go_enter func60,ntmps60;go_wp2_with fail;refine q.out.mono ?_;rintro e u ⟨rfl,i,f⟩;have m:=f.lt;have j:B[n+1]?=some B[n+1]:=jB m;have g:=ke B D E I F (n+1) true _ j u f;have p:=hiD g;have l:=hiD i;have L:=hiD f;clear i f g j;go_wp2_with fail;refine p.out.mono ?_;rintro e v ⟨rfl,N⟩;obtain rfl:e=Rt (.tuple #[]):=by simpa using N
  go_wp2_with fail;go_end0;exact⟨l.out,by rw[o.out];exact⟨rfl,n+1,Nat.le_succ _,rfl,L.out⟩⟩
theorem EB (D:List Tok) (F H J I n:Nat) (c:Int) (w:World) (h:Q9 D F H J I n w):
  Cs 144 #[Vp F 0,Vu c] w (RQ D F H J I n (pNum (c==45) (D.drop n)) w (Value.int .i64)):=by
 have i:=h.lt;have K:D[n]?=some D[n]:=jB i;have l:=h.ok _ (dI i);generalize D[n]=t at*;have v:=yi D F H J I n 1 (by omega) (by omega) w h;have B:=l.2.1;have M:pNum (c==45) (D.drop n)=if t.kind=1 then .ok (if (c==45)=true then-t.n else t.n,D.drop (n+1))else .error t.at':=by
  unfold pNum;rw[A5 K];by_cases e:t.kind=1
  ·rw[if_pos e,if_pos e];rfl
  ·rw[if_neg e,if_neg e];rfl
 rw[A5 K]at v;have r:=hiD M;have s:=hiD v;clear M v K h l;obtain⟨A,m,x⟩:=t;simp only at*;have C:IntKind.i64.wrap (-m)=-m:=IntWalk.i64_in _ (by omega);by_cases e:A=1
 ·have E:=hiD e;clear e;cases L:(c==45)
  ·have a:=r.out;rw[if_pos E.out,L]at a;have d:=hiD a;clear a;go_enter func144,ntmps144;go_wp2_with fail;refine s.out.mono ?_;rintro e p ⟨g,b⟩;rw[if_pos E.out,if_neg (by decide)]at b;obtain⟨rfl,f,o,k,j⟩:=b;have q:=hiD g;have y:=hiD o;have u:=hiD k;have z:=hiD j;clear g o k j;go_wp2_with fail;go_ret;exact⟨q.out,by rw[d.out];exact⟨rfl,f,y.out,u.out,z.out⟩⟩
  ·have a:=r.out;rw[if_pos E.out,L]at a;have d:=hiD a;clear a;go_enter func144,ntmps144;go_wp2_with fail;refine s.out.mono ?_;rintro e p ⟨g,b⟩;rw[if_pos E.out,if_neg (by decide)]at b;obtain⟨rfl,f,o,k,j⟩:=b;have q:=hiD g;have y:=hiD o;have u:=hiD k;have z:=hiD j;clear g o k j;go_wp2_with fail;go_ret;exact⟨q.out,by rw[d.out];exact⟨rfl,f,y.out,u.out,z.out⟩⟩
 ·have E:=hiD e;clear e;go_enter func144,ntmps144;go_wp2_with fail;refine s.out.mono ?_;rintro e p ⟨g,b⟩;rw[if_neg E.out]at b;obtain rfl:e=qF x:=b;have N:RQ D F H J I n (pNum (c==45) (D.drop n)) w (Value.int .i64) (qF x) p:=⟨g,by rw[r.out,if_neg E.out]⟩;unfold qF;exact⟨rfl,N⟩
theorem RQ.ok {α:Type} {d:List Tok} {c g k i f:Nat} {r:Res α} {w w':World} {j:α->Value} {e:Ending} (h:RQ d c g k i f r w j e w') {v:α} {l:List Tok} (m:r= .ok (v,l)):
  e=Rt (j v)∧w.grownBy w' (some c)∧∃a,f<=a∧d.drop a=l∧Q9 d c g k i a w':=by
 subst m;exact⟨h.2.1,h.1,h.2.2⟩
theorem RQ.err {α:Type} {k:List Tok} {a d j f c:Nat} {r:Res α} {w w':World} {g:α->Value} {e:Ending} (h:RQ k a d j f c r w g e w') {p:Int} (i:r= .error p):e=qF p∧w.grownBy w' (some a):=by
 subst i;exact⟨h.2,h.1⟩
theorem TH (c d:UInt8) (t:Tok):anyOf [c,d] t=if ((t.kind==5)&&(t.n==(c.toNat:Int)))=true then (c.toNat:Int)else if ((t.kind==5)&&(t.n==(d.toNat:Int)))=true then (d.toNat:Int)else 0:=by
 unfold anyOf;by_cases h:t.kind=5∧t.n=c.toNat
 ·rw[if_pos ⟨h.1,c,by simp,h.2⟩,if_pos (by simp[h.1,h.2]),h.2]
 ·by_cases a:t.kind=5∧t.n=d.toNat
  ·rw[if_pos ⟨a.1,d,by simp,a.2⟩,if_neg (by simpa using h),if_pos (by simp[a.1,a.2]),a.2]
  ·rw[if_neg (fun g=>by
    obtain⟨i,f,e,b⟩:=g;simp at e;rcases e with rfl|rfl
    ·exact h ⟨i,b⟩
    ·exact a ⟨i,b⟩),if_neg (by simpa using h),if_neg (by simpa using a)]
theorem JV (k:Int) (l:List Tok):xq k l=qm (zH 40 l) fun _ l=>qm (AL (k==5||k==6) l) fun a l=>qm (zH 41 l) fun _ l=>qm (kA l) fun n l=>.ok (⟨k,n,a.1,a.2⟩,l):=rfl
theorem Si {c:List Tok} {a:Nat} {t:Tok} (d:c[a]?=some t):kA (c.drop a)=if anyOf [43,45] t=0 then .ok (0,c.drop a)else pNum (anyOf [43,45] t==45) (c.drop (a+1)):=by
 unfold kA;rw[Cb d,Cb d,TH,List.tail_drop,show ((UInt8.toNat 43:Nat):Int)=43 from rfl,show ((UInt8.toNat 45:Nat):Int)=45 from rfl];cases e:((t.kind==5)&&(t.n==43))
 ·cases f:((t.kind==5)&&(t.n==45))
  ·rfl
  ·rfl
 ·rfl
theorem Pz (s:ByteArray) (m:s.size<=140737488351232) (i:List Tok) (p c:Int) (n:Nat) (k:i.length=n) (h:zZ s.data.toList=(i,p,c)) (w:World) (j:GL w):
  Cs 12 #[.string s] w fun e w'=>∃a f,e=Rt (.tuple #[Sq a n f,Vi p,Vi c])∧n<=f∧kt w' a i∧Bz w w':=by
 refine(QK s m w j).mono ?_;rintro e w' g;unfold BF at g;rw[h]at g;obtain⟨v,rfl,l,b⟩:=g;obtain⟨a,f,rfl,d,o⟩:=FK l rfl;subst k;exact⟨a,f,rfl,d,o,b⟩
theorem AS (l r:List UInt8):(⟨l.toArray⟩:ByteArray)++⟨r.toArray⟩=⟨(l++r).toArray⟩:=by
 apply ByteArray.ext;simp[ByteArray.data_append]
theorem UQ:prog.globalNamed "straggle/print.ops" =some 2:=by kernel_rfl
theorem PV:prog.globalNamed "straggle/print.heads" =some 1:=by kernel_rfl
structure GP (w:World):Prop where
 pow:Lib.TabIs prog w "internal/strconv.uint64pow10" .u64 Lib.pow10Tab
 ops:w.var? prog "straggle/print.ops" =some (strs ((List.range 7).map qJ))
 heads:w.var? prog "straggle/print.heads" =some (strs ((List.range 7).map yX))
theorem GP.mono' {w w':World} {B:Nat} (c:Below B w w') (a:w.1.size<=B) (h:GP w):GP w':=⟨Joins.tab_stays gPow h.pow c a,Joins.var_stays UQ h.ops c a,Joins.var_stays PV h.heads c a⟩
theorem GP.mono {w w':World} (a:Bz w w') (h:GP w):GP w':=h.mono' a nLe
def UJ (k:Nat):ByteArray:=⟨(yX k).toArray⟩
theorem GP.op {w:World} (h:GP w) (k:Nat) (a:k<7):w.cell? ⟨2,k,none⟩=some (.string (opS k)):=by
 rw[World.var?_cell UQ h.ops];have:k=0∨k=1∨k=2∨k=3∨k=4∨k=5∨k=6:=by omega
 rcases this with rfl|rfl|rfl|rfl|rfl|rfl|rfl<;>rfl
theorem GP.head {w:World} (h:GP w) (k:Nat) (a:k<7):w.cell? ⟨1,k,none⟩=some (.string (UJ k)):=by
 rw[World.var?_cell PV h.heads];have:k=0∨k=1∨k=2∨k=3∨k=4∨k=5∨k=6:=by omega
 rcases this with rfl|rfl|rfl|rfl|rfl|rfl|rfl<;>rfl
def sV (l:List UInt8):Value:= .string ⟨l.toArray⟩
theorem ret_str {a:ByteArray} {l:List UInt8} (h:a=⟨l.toArray⟩):Ending.returned (.string a)=Rt (sV l):=by rw[h];rfl
theorem vI (n:Int) (h:bnd n) (w:World) (c:GP w):Cs 21 #[Vi n] w (Rw w (sV (Lib.itoa n))):=by
 go_enter func21,ntmps21;go_wp2_with fail;refine(Tryz.strconv_Itoa n h.1 h.2 _ c.pow).mono ?_;rintro e w' ⟨rfl,k,a,rfl⟩;go_wp2_with fail;go_ret;exact⟨rfl,Ea _ _ _⟩
theorem PA (k:Nat) (a:k<26):(⟨#[97,98,99,100,101,102,103,104,105,106,107,108,109,110,111,112,113,114,115,116,117,118,119,120,121,122]⟩:ByteArray).extract k (k+1)=⟨[UInt8.ofNat (97+k)].toArray⟩:=by
 have:∀k:Fin 26,(⟨#[97,98,99,100,101,102,103,104,105,106,107,108,109,110,111,112,113,114,115,116,117,118,119,120,121,122]⟩:ByteArray).extract k (k+1)=⟨[UInt8.ofNat (97+k)].toArray⟩:=by decide+kernel
 exact this ⟨k,a⟩
theorem vS (i:Int) (w:World):Cs 43 #[Vi i] w fun e w'=>e=Rt (sV (qy i))∧w=w':=by
 by_cases h:0<=i∧i<26
 ·obtain⟨k,rfl⟩:=jr h.1;have a:k<26:=by omega
  have c:qy (k:Int)=[UInt8.ofNat (97+k)]:=by unfold qy;rw[if_pos h];rfl
  have d:=PA k a;rw[c];have b:=hiD d;clear d c h;go_enter func43,ntmps43;go_wp2_with fail;go_ret;exact⟨ret_str b.out,rfl⟩
 ·have c:qy i=[]:=by unfold qy;rw[if_neg h]
  rw[c];clear c;go_enter func43,ntmps43;go_wp2_with fail
  all_goals first
   |(exfalso;omega)
   |(go_ret;exact⟨rfl,rfl⟩)
theorem Ue (g:Int) (h:bnd8 g) (w:World) (i:GP w):Cs 67 #[Vu g] w fun e w'=>e=Rt (sV (opT g))∧w=w':=by
 obtain⟨a,c⟩:=h;by_cases b:g<7
 ·obtain⟨k,rfl⟩:=jr a;have f:sV (opT (k:Int))= .string (opS k):=by unfold opT;rw[if_pos ⟨a,b⟩];rfl
  have d:=i.op k (by omega);rw[f];clear f i;go_enter func67,ntmps67;go_wp2_with fail;go_ret;exact⟨rfl,rfl⟩
 ·have f:opT g=[]:=by unfold opT;rw[if_neg (by omega)]
  rw[f];clear f i;go_enter func67,ntmps67;go_wp2_with fail;go_ret;exact⟨rfl,rfl⟩
section
attribute [local go_sem] Oper.semAt_some
def atI (l:List Int) (i:Nat):Int:=l.getD i 0
theorem LV:En0 150:=enters_of func150 rfl rfl
theorem On (t:Tm) (w:World):Cs 118 #[tmA t] w fun e w'=>
  e=Rt (.func (.func 150) #[] #[Vp w.1.size 0])∧w.alloc (Oc (tmV t).toArray 95)=w':=by
 obtain⟨k,n,s,r⟩:=t;simp only[tmA,tmV];go_enter func118,ntmps118;go_wp2_with fail;go_ret;exact⟨rfl,rfl⟩
theorem Pl {t:Tm} (h:t.kind=0):namesOf t=[]:=by unfold namesOf;rw[if_pos h]
theorem J1 {t:Tm} (h:t.kind≠0) (a:twoB t=false):namesOf t=[t.s]:=by unfold namesOf;rw[if_neg h,a];rfl
theorem JZ {t:Tm} (h:t.kind≠0) (a:twoB t=true):namesOf t=[t.s,t.r]:=by unfold namesOf;rw[if_neg h,a];rfl
theorem Pm (t:Tm) (B:Nat):Iter prog 150 #[Vp B 0] (fun i=>#[Vi (atI (namesOf t) i)]) (namesOf t).length
  (fun W=>Holds W B 95 (tmV t).toArray):=by
 intro a9 J a6 W C u hF m v;have l:=hF 0 W v;have b:∀w,CallsIn Fence.wide 0 prog 111 #[tmA t] w fun e w'=>e=Rt (Vb (twoB t))∧Bz w w':=fun w=>callsIn_wide.2 (Eg t w);have p:=Pl (t:=t);have j:=J1 (t:=t);have o:=JZ (t:=t);have a:∀g,J 1 g->Cq g B 0 (Vu t.kind)∧Cq g B 1 (Vi t.n)∧Cq g B 2 (Vi t.s)∧Cq g B 3 (Vi t.r):=fun g X=>by
  have:=hF 1 g X;exact⟨this.cell 0,this.cell 1,this.cell 2,this.cell 3⟩
 obtain⟨c0,a4,c2,c3⟩:Cq W B 0 (Vu t.kind)∧Cq W B 1 (Vi t.n)∧Cq W B 2 (Vi t.s)∧Cq W B 3 (Vi t.r):=⟨l.cell 0,l.cell 1,l.cell 2,l.cell 3⟩;have hl:=l.size;obtain⟨k,n,s,r⟩:=t;simp only[tmA]at*;by_cases z:k=0
 ·subst z;have f:=p rfl;simp only[f]at m;simp only[f];have S:=hiD v;clear p j o f m hF a b l v C u;refine callsIn_of_wp func150 rfl trivial ?_ rfl;simp only[ntmps150,jW,jF,jO,Nat.reduceAdd,Nat.reduceSub,jR,jQ,jX,jU,jD,jE];gi_wp2;refine⟨(fun a8 h=>nomatch h),?_⟩;gi_wp2;refine⟨trivial,?_⟩;gi_wp2;go_end0;exact⟨⟨_,rfl⟩,.inl S.out⟩
 ·have a2:(k !=0)=true:=by simpa using z
  cases K:twoB ⟨k,n,s,r⟩
  ·have f:=j z K;simp only[f,K]at m b;simp only[f];obtain⟨V,Z,O,P,y,A⟩:=m 0 W (by simp) v;simp only[atI,List.getD_cons_zero]at y;have M:=hiD b;clear b;have E:=hiD a;clear a;have H:=hiD C;clear C;clear p j o f m hF l z K u v;refine callsIn_of_wp func150 rfl trivial ?_ rfl;simp only[ntmps150,jW,jF,jO,Nat.reduceAdd,Nat.reduceSub,jR,jQ,jX,jU,jD,jE];gi_wp2;refine⟨rfl,A.mono ?_⟩;rintro e g (⟨rfl,d⟩|⟨rfl,c⟩)
   ·obtain⟨N,T,U,Q⟩:=E.out g d;gi_wp2;refine⟨trivial,rfl,(M.out _).mono ?_⟩;rintro e F ⟨rfl,x⟩;have q:=(H.out 1).later d x;gi_wp2;go_end0;exact⟨⟨_,rfl⟩,.inl q⟩
   ·gi_wp2;refine⟨trivial,?_⟩;gi_wp2;go_end0;exact⟨⟨_,rfl⟩,.inr ⟨0,by simp,c⟩⟩
  ·have f:=o z K;simp only[f,K]at m b;simp only[f];obtain⟨V,Z,O,P,y,A⟩:=m 0 W (by simp) v;simp only[atI,List.getD_cons_zero]at y;have M:=hiD b;clear b;have E:=hiD a;clear a;have H:=hiD C;clear C;have R:=hiD m;clear m;clear p j o f hF l z K u v;refine callsIn_of_wp func150 rfl trivial ?_ rfl;simp only[ntmps150,jW,jF,jO,Nat.reduceAdd,Nat.reduceSub,jR,jQ,jX,jU,jD,jE];gi_wp2;refine⟨rfl,A.mono ?_⟩;rintro e g (⟨rfl,d⟩|⟨rfl,c⟩)
   ·obtain⟨N,T,U,Q⟩:=E.out g d;clear y A;gi_wp2;refine⟨trivial,rfl,(M.out _).mono ?_⟩;rintro e F ⟨rfl,x⟩;have q:=(H.out 1).later d x;obtain⟨e0,a7,a5,e3⟩:=E.out F q;obtain⟨a1,a0,D,I,y,A⟩:=R.out 1 F (by simp) q;simp only[atI,List.getD_cons_zero,List.getD_cons_succ]at y;gi_wp2;refine⟨rfl,A.mono ?_⟩;rintro e a3 (⟨rfl,L⟩|⟨rfl,c⟩)
    ·gi_wp2;go_end0;exact⟨⟨_,rfl⟩,.inl L⟩
    ·gi_wp2;go_end0;exact⟨⟨_,rfl⟩,.inr ⟨1,by simp,c⟩⟩
   ·gi_wp2;refine⟨trivial,?_⟩;gi_wp2;go_end0;exact⟨⟨_,rfl⟩,.inr ⟨0,by simp,c⟩⟩
theorem SB (t:Tm):(namesOf t).length<=2:=by
 unfold namesOf;split
 ·simp
 ·split<;>simp
theorem Pk (t:Tm) (i:Nat) (h:i<(namesOf t).length):((namesOf t).take (i+1)).map (Value.int .i64)=((namesOf t).take i).map (Value.int .i64)++[Vi (atI (namesOf t) i)]:=by
 rw[ja h,dC];simp[atI,jx,h]
theorem GO (t:Tm) (w:World):Cs 113 #[tmA t] w fun e w'=>∃v,e= .returned v∧w'.ownsRow w.1.size 3 1 v (namesOf t).length ((namesOf t).map (Value.int .i64))∧Bz w w':=by
 refine qH func113 rfl ?_;simp only[ntmps113,jW,jF,jO,Nat.reduceAdd,Nat.reduceSub,jR,jQ,jX,jU,jD,jE];have S:=fun w=>On t w;have q:=Pm t (w.1.size+1+1);have x:=Pk t;have a4:=SB t;obtain⟨k,n,s,r⟩:=t;simp only[tmA,tmV]at*;generalize namesOf ⟨k,n,s,r⟩=L at*;have V:=hiD S;clear S;have X:=hiD x;clear x;have U:=hiD q;clear q;go_wp2_with fail;refine(V.out _).mono ?_;rintro e P ⟨rfl,rfl⟩;go_wp2_with fail;obtain⟨i0,R,A,O,M⟩:=iP3;refine kT rfl LV U.out (fun _=>rfl)
  (fun i W=>(∃v,Boxed W (w.1.size+1) 125 v∧W.ownsRow w.1.size 3 1 v i ((L.take i).map (Value.int .i64)))∧
   Holds W (w.1.size+1+1) 95 #[Vu k,Vi n,Vi s,Vi r]∧Bz w W)
  (fun _ _ _=>False) (fun i=>(qe.row _ _ _ _ _ _ _).and ((qe.holds _ _ _).and (qe.below (by simp;omega) nLe))) (fun _ _=>qe.pure _) (fun i W h=>h.2.1) ?_
  (fun i=>{tmps:=#[.agg #[Vu k,Vi n,Vi s,Vi r],Vp w.1.size 0,Vp (w.1.size+1) 0,Vi (atI L i),.agg #[Vu k,Vi n,Vi s,Vi r],
   .func (.func 150) #[] #[Vp (w.1.size+1+1) 0],Vi (atI L i),undef,undef,undef,undef,undef],defers:=[]}) ?_ ?_ ?_ (fun _ _ _ _ _ _ h _=>h.elim)
 ·refine⟨⟨_,(vh (by simp) _ _).alloc _,js _ _ _ _⟩,Holds.fresh' (by simp) _ _,?_⟩;exact(bB.alloc (by simp) _).alloc (by simp;omega) _
 ·intro a0 i W a1 R J;gi_wp2;exact J
 ·rintro a0 i W hl B ⟨⟨v,u,l⟩,f,o⟩;have Q:=X.out i B;have T:=hiD Q;clear Q;have I:w.1.size<=(W.alloc (.cells #[Vi (atI L i)] 3)).1.size:=by have:=o.size;simp;omega
  have a3:=u.cell;gi_wp2_with (gi_at_builtin;refine wpListIn_append_own _ rfl (.tmp 7) (.tmp 9) 125 rfl w.1.size 3 i0 (Vi 0) 1 8 underlying125 R A O M rfl (by decide) v i ((L.take i).map (Value.int .i64)) rfl (l.alloc _) (Ad W.1.size 0) 1 1 [Vi (atI L i)] rfl rfl ?c1 ?c2 ?c3 ?c4 I ?_);case c1=>exact A8 W [Vi (atI L i)] 3
  case c2=>
   intro a6 hu;obtain rfl:=List.mem_singleton.1 hu;rfl
  case c3=>unfold maxLen;omega
  case c4=>omega
  intro v' P a b _;obtain⟨g',a2,rfl⟩:=qh a;obtain⟨y,j,c,C,E⟩:=u.appended (by decide) l o.size (Nat.le_succ _) a b;have k3:Holds P (w.1.size+1+1) 95 #[Vu k,Vi n,Vi s,Vi r]:=by
   have N:v.ownBlock≠some (w.1.size+1+1):=by
    intro e;rcases l.2 with⟨rfl,_⟩|⟨g,K,a5,rfl,_,z,_⟩
    ·simp[Value.ownBlock]at e
    ·obtain rfl:g=w.1.size+1+1:=by simpa[Value.ownBlock]using e
     have Z:W.1[w.1.size+1+1]?=some (.cells #[Vu k,Vi n,Vi s,Vi r] 95 (0,0)):=f;rw[Z]at z;cases z
   exact(b.block _ (by have:=f.size;simp;omega) (fun e=>N e.symm)).trans (f.alloc _)
  have kv:=y.cell;have kf:=y.frozen;gi_wp2;refine⟨C.from _,⟨_,j,?_⟩,k3.far (by simp) _,o.trans E⟩;rw[T.out];simpa using c
 ·rintro D W hD ⟨⟨v,u,l⟩,f,o⟩ J;obtain⟨m,K,rfl⟩:=qh l;have hc:=u.cell;have hf:=u.frozen;go_wp2_with fail;have j:=u.set (.slice m L.length K);have d:=(KeepsOthers.setCell W (Ad (w.1.size+1) 0) (.slice m L.length K)).same D _ J rfl;have c:=l.kept (grownBy_setCell' W (w.1.size+1) (.slice m L.length K)) (.inr (u.not_row (by decide) l).symm);have F:=o.setCell (p:=Ad (w.1.size+1) 0) (by simp) (.slice m L.length K);have H:=qW (c:= .deferred none) d rfl j.cell;refine qZ (v:= .slice m L.length K) d (by simp[results,results113,go_sem,H]) ⟨_,rfl,?_,qB F d (by simp at hD;omega)⟩;rw[jy nLe]at c;exact ownsRow_putObj c _ d rfl
def renB:Go.Shelf.Ren:=⟨fun|167=>18|n=>Tryz.lays156_ren.f n,Tryz.lays156_ren.t,Tryz.lays156_ren.g⟩
theorem laysB:Go.Proofs.Lays.n167 prog renB:={
 mixed:=by kernel_rfl
 f167:=func18.trans (congrArg some rfl)
 f240:=func41.trans (congrArg some rfl)
 f276:=Tryz.lays156.f276.trans (congrArg some rfl)
 t0:=Tryz.lays156.t0
 a0:=Tryz.lays156.a0
 z0:=Tryz.lays156.z0
 v0:=Tryz.lays156.v0
 t4:=Tryz.lays156.t4
 a4:=Tryz.lays156.a4
 z4:=Tryz.lays156.z4
 v4:=Tryz.lays156.v4
 t5:=Tryz.Builder_Extra_156.t5
 a5:=Tryz.Builder_Extra_156.a5
 z5:=Tryz.Builder_Extra_156.z5
 v5:=Tryz.Builder_Extra_156.v5
 t9:=Tryz.lays156.t9
 a9:=Tryz.lays156.a9
 z9:=Tryz.lays156.z9
 v9:=Tryz.lays156.v9
 t20:=Tryz.lays156.t20
 a20:=Tryz.lays156.a20
 z20:=Tryz.lays156.z20
 v20:=Tryz.lays156.v20
 t37:=Tryz.lays156.t37
 a37:=Tryz.lays156.a37
 z37:=Tryz.lays156.z37
 v37:=Tryz.lays156.v37
 t70:=Tryz.lays156.t70
 a70:=Tryz.lays156.a70
 z70:=Tryz.lays156.z70
 v70:=Tryz.lays156.v70
 t72:=Tryz.lays156.t72
 a72:=Tryz.lays156.a72
 z72:=Tryz.lays156.z72
 v72:=Tryz.lays156.v72
 t75:=Tryz.lays156.t75
 a75:=Tryz.lays156.a75
 z75:=Tryz.lays156.z75
 v75:=Tryz.lays156.v75
 t164:=Tryz.lays156.t164
 a164:=Tryz.lays156.a164
 z164:=Tryz.lays156.z164
 v164:=Tryz.lays156.v164}
theorem extraB:Go.Proofs.Builder.Extra prog renB:={
 sizeBuilder:=by kernel_rfl
 liesBuilder:=by kernel_rfl
 t5:=Tryz.Builder_Extra_156.t5
 a5:=Tryz.Builder_Extra_156.a5
 z5:=Tryz.Builder_Extra_156.z5
 v5:=Tryz.Builder_Extra_156.v5
 infoByte:=by kernel_rfl
 cellsByte:=by kernel_rfl
 sizeByte:=by kernel_rfl
 neB5:=by decide}
def Bld (B b:Nat) (l:List UInt8) (w:World):Prop:=Lib.IsBuilderF 58 5 B b (Lib.byteCells l) w
theorem DF (l r:List UInt8):Lib.byteCells (l++r)=Lib.byteCells l++Lib.byteCells r:=by simp[Lib.byteCells]
theorem AR (l:List UInt8):(Lib.byteCells l).length=l.length:=by simp[Lib.byteCells]
theorem DG (B b:Nat) (l r:List UInt8) (w:World) (h:Bld B b l w) (g:l.length+r.length<=10000000) (f:B<=w.1.size):
  Cs 19 #[Vp b 0,sV r] w fun e w'=>e=Rt (.tuple #[Vi r.length,.nilIface])∧Bld B b (l++r) w'∧Below B w w'∧Lib.OthersKept 5 (some b) w w':=by
 have:=Any.Builder_WriteString_k {Tryz.lays156 with} Tryz.Builder_Extra_156 B b (Lib.byteCells l) ⟨r.toArray⟩ w h (by rw[AR];simp[ByteArray.size];omega) f;refine Calls.mono this ?_;rintro e w' ⟨rfl,d,a,c⟩;refine⟨?_,?_,a,c⟩
 ·simp[ByteArray.size]
 ·unfold Bld;rw[DF];exact .inr d
theorem Gl (B b:Nat) (l:List UInt8) (c:UInt8) (w:World) (h:Bld B b l w) (i:l.length+1<=10000000) (g:B<=w.1.size):
  Cs 18 #[Vp b 0,Vu (c.toNat:Int)] w fun e w'=>e=Rt .nilIface∧Bld B b (l++[c]) w'∧Below B w w'∧Lib.OthersKept 5 (some b) w w':=by
 have:=Any.Builder_WriteByte_k laysB extraB B b (Lib.byteCells l) (c.toNat:Int) w h (by rw[AR];omega) g;refine Calls.mono this ?_;rintro e w' ⟨rfl,f,a,d⟩;refine⟨rfl,?_,a,d⟩;unfold Bld;rw[DF];exact .inr f
theorem EV (B b:Nat) (l:List UInt8) (w:World) (h:Bld B b l w) (a:B<=w.1.size):
  Cs 23 #[Vp b 0] w fun e w'=>e=Rt (sV l)∧Bld B b l w'∧Below B w w'∧Lib.OthersKept 5 (some b) w w':=
 Tryz.Builder_String_any_k B b l w h a
theorem Bld.fresh {w:World} {B:Nat} (a:B<=w.1.size):Bld B w.1.size [] (w.alloc (Oc #[.pointer none,Vn] 58)):=
 .inl ⟨a,_,dB w _,World.ownsRowF_nil _ _ _ _,by simp[Value.ownBlock]⟩
theorem Bld.kept {B b:Nat} {l:List UInt8} {w w':World} {y:Option Nat} (h:Bld B b l w) (n:w.grownBy w' y) (t:∀r,y=some r->∃o:Obj,w.1[r]?=some o∧o.isCells=false):Bld B b l w':=by
 have key:∀p,Lib.BuilderAtF 58 5 B b p (Lib.byteCells l) w->Lib.BuilderAtF 58 5 B b p (Lib.byteCells l) w':=by
  rintro p ⟨m,v,d,i,k⟩;refine⟨m,v,?_,?_,k⟩
  ·refine(n.block b (jA.1 d).1 fun e=>?_).trans d;obtain⟨o,a,c⟩:=t b e.symm;rw[d]at a;cases a;cases c
  ·refine i.kept n ?_;cases u:v.ownBlock with
   |none=>exact .inl rfl
   |some g=>
     refine .inr fun e=>?_;obtain⟨o,a,c⟩:=t g e.symm;rcases i.2 with⟨rfl,_⟩|⟨j,z,q,s,rfl,_,f,_⟩
     ·simp[Value.ownBlock]at u
     ·obtain rfl:j=g:=by simpa[Value.ownBlock]using u
      rw[f]at a;cases a;cases c
 exact h.elim (fun x=>.inl (key _ x)) (fun x=>.inr (key _ x))
theorem Bld.later {B b:Nat} {l:List UInt8} {w w':World} (h:Bld B b l w) (a:Bz w w'):Bld B b l w':=h.kept (Ab a) (fun r e=>by cases e)
theorem qe.bld (n B b:Nat) (l:List UInt8):qe n (fun W=>Bld B b l W):=fun _ _ _ d a c=>d.kept a fun r e=>(c r e).2
theorem Dx {b:Nat} {l:List UInt8} {B:Nat} {W i:World} (j:Bld B b l W) (h:Lib.OthersKept 5 (some b) W i) (m:W.1.size<=i.1.size):KeepsOthers W i:=by
 refine⟨m,fun k o a d=>h k o a (fun e=>?_) (fun c g e=>by subst e;cases d)⟩;obtain rfl:=Option.some.inj e;rcases j with⟨_,v,f,_⟩|⟨_,v,f,_⟩<;>(rw[f]at a;cases a;cases d)
theorem F4 {T:TypeId} {b:Nat} {l:List UInt8} {B:Nat} {W i:World} (o:Bld B b l W) (h:Lib.OthersKept 5 (some b) W i) (m:T≠5) (n:T≠58):Mem T W i:=by
 intro k j f;have a:W.1[k]?=some (.cells j T (0,0)):=f;refine h k _ a (fun e=>?_) (fun c g e=>by cases e;exact m rfl);obtain rfl:=Option.some.inj e;rcases o with⟨_,v,d,_⟩|⟨_,v,d,_⟩<;>(rw[d]at a;cases a;exact n rfl)
def atL (L:List (List UInt8)) (i:Nat):List UInt8:=L.getD i []
theorem PW (L:List (List UInt8)) (i:Nat) (h:i<L.length):(L.take (i+1)).flatten=(L.take i).flatten++atL L i:=by
 rw[ja h,List.flatten_append];simp[atL,jx,h]
theorem Tn (L:List (List UInt8)) (i:Nat):(L.take i).flatten.length<=L.flatten.length:=by
 conv=>rhs;rw[<-jv i L,List.flatten_append,jZ]
 omega
theorem Lj (B:Nat) (C:Array Value) (M:∀F w,(callFunc B F).run prog w= .ok (.enter B F) w) (L:List (List UInt8)) (E:World->Prop) (J:Ky prog B C (fun i=>#[sV (atL L i)]) L.length E 3)
  (N:L.flatten.length<=10000000) (w:World) (I:∀W,Bz w W->E W):Cs 65 #[.func (.func B) #[] C] w (Rw w (sV L.flatten)):=by
 refine qH func65 rfl ?_;simp only[ntmps65,jW,jF,jO,Nat.reduceAdd,Nat.reduceSub,jR,jQ,jX,jU,jD,jE];have j:=PW L;have d:=Tn L;have q:=hiD j;clear j;have y:=hiD d;clear d;have x:=hiD J;clear J;have u:=hiD I;clear I;go_wp2_with fail;refine Ok rfl M x.out (fun _=>rfl)
  (fun i W=>Bld w.1.size w.1.size (L.take i).flatten W∧Bz w W)
  (fun i=>(qe.bld _ _ _ _).and (qe.below (by simp) nLe)) (fun i W h=>u.out W h.2) ?_
  (fun i=>{tmps:=#[.func (.func B) #[] C,undef,.string ⟨#[]⟩,Vp w.1.size 0,sV (atL L i),.func (.func B) #[] C,sV (atL L i),undef,undef,undef],defers:=[]}) ?_ ?_ ?_
 ·exact⟨by simpa using Bld.fresh (Nat.le_refl w.1.size),bB⟩
 ·intro l i W K O o;gi_wp2;exact o
 ·rintro l i W P c ⟨a,k⟩;have b:=y.out (i+1);rw[q.out i c,jZ]at b;have p:=(callsIn_wide (n:=0)).2 (DG w.1.size w.1.size (L.take i).flatten (atL L i) W a (by omega) k.size);rw[<-q.out i c]at p;have z:=hiD p;clear p;gi_wp2;refine⟨trivial,rfl,z.out.mono ?_⟩;rintro e s ⟨rfl,r,g,m⟩;gi_wp2;exact⟨(Dx a m g.size).from _,⟨r,k.trans g⟩,F4 a m (by decide) (by decide)⟩
 ·rintro D W t ⟨a,k⟩ o;rw[jn]at a;have H:=EV w.1.size w.1.size L.flatten W a k.size;have A:=hiD H;clear H;go_wp2_with fail;refine A.out.mono ?_;rintro e s ⟨rfl,r,g,m⟩;have f:=(Dx a m g.size).same D _ o rfl;go_wp2_with fail;exact qZ (v:=sV L.flatten) f (by simp[results,results65,go_sem]) ⟨rfl,qB (k.trans g) f (by simp at t;omega)⟩
end
theorem JR {α:Type} [DecidableEq α] {s t:List α} {k:Nat} {x:α} (h:s.take k=t.take k) (a:s[k]?=some x) (c:t[k]?=some x):s.take (k+1)=t.take (k+1):=by
 rw[List.take_add_one,List.take_add_one,a,c,h]
theorem Hb (C:Bool) (n t u:Int) (N:Bool) (O P:List Cm) (Q R:Option Addr) (S T:Nat) (m:Nat) (ag:O.length=m) (ah:P.length=m) (hm:m<=9223372036854775807) (w:World) (V:Aj w Q O) (X:Aj w R P) (ai:m<=S) (aj:m<=T):
  Cs 24 #[.agg #[Vb C,Vi n,Vi t,Vi u,Vb N,Sq Q m S],.agg #[Vb C,Vi n,Vi t,Vi u,Vb N,Sq R m T]] w (Rw w (Vb (decide (O=P)))):=by
 have key:∀(wr:World) (k:Nat),Bz w wr->k<m->∃b e p a c d,Q=some (Ad b e)∧R=some (Ad p a)∧O[k]?=some c∧P[k]?=some d∧
   (Cq wr b (e+k*9) (Vu c.op)∧Cq wr b (e+k*9+1) (Vu c.l.kind)∧Cq wr b (e+k*9+2) (Vi c.l.n)∧
   Cq wr b (e+k*9+3) (Vi c.l.s)∧Cq wr b (e+k*9+4) (Vi c.l.r)∧Cq wr b (e+k*9+5) (Vu c.r.kind)∧
   Cq wr b (e+k*9+6) (Vi c.r.n)∧Cq wr b (e+k*9+7) (Vi c.r.s)∧Cq wr b (e+k*9+8) (Vi c.r.r))∧
   (Cq wr p (a+k*9) (Vu d.op)∧Cq wr p (a+k*9+1) (Vu d.l.kind)∧Cq wr p (a+k*9+2) (Vi d.l.n)∧
   Cq wr p (a+k*9+3) (Vi d.l.s)∧Cq wr p (a+k*9+4) (Vi d.l.r)∧Cq wr p (a+k*9+5) (Vu d.r.kind)∧
   Cq wr p (a+k*9+6) (Vi d.r.n)∧Cq wr p (a+k*9+7) (Vi d.r.s)∧Cq wr p (a+k*9+8) (Vi d.r.r)):=by
  intro wr k E a6;obtain⟨b,e,af,D⟩:=(V.mono E nLe).get k (by omega);obtain⟨p,a,A,B⟩:=(X.mono E nLe).get k (by omega);exact⟨b,e,p,a,_,_,af,A,jB (by omega),jB (by omega),D,B⟩
 have a1:O.take m=P.take m->decide (O=P)=true:=fun h=>by
  rw[jy (by omega),jy (by omega)]at h;simpa using h
 have v:∀(k:Nat) (x y:Cm),O[k]?=some x->P[k]?=some y->x≠y->decide (O=P)=false:=fun k x y D B ab=>by
  rw[decide_eq_false_iff_not];rintro rfl;rw[D]at B;exact ab (Option.some.inj B)
 have z0:=(Holds.fresh w 63 #[Vb C,Vi n,Vi t,Vi u,Vb N,Sq Q m S]).alloc (Oc #[Vb C,Vi n,Vi t,Vi u,Vb N,Sq R m T] 63);have z:=Holds.fresh' (w:=w.alloc (Oc #[Vb C,Vi n,Vi t,Vi u,Vb N,Sq Q m S] 63)) (b:=w.1.size+1) (by simp) 63 #[Vb C,Vi n,Vi t,Vi u,Vb N,Sq R m T];have a2:=(bA w (Oc #[Vb C,Vi n,Vi t,Vi u,Vb N,Sq Q m S] 63)).alloc (by simp) (Oc #[Vb C,Vi n,Vi t,Vi u,Vb N,Sq R m T] 63);have s:=hiD key;clear key;have r:=hiD a1;clear a1;have o:=hiD v;clear v;have Z0:=hiD z0;clear z0;have Z1:=hiD z;clear z;have f:=hiD a2;clear a2;clear ag ah V X;go_enter func24,ntmps24;go_wp2_with fail;generalize (w.alloc (Oc #[Vb C,Vi n,Vi t,Vi u,Vb N,Sq Q m S] 63)).alloc (Oc #[Vb C,Vi n,Vi t,Vi u,Vb N,Sq R m T] 63)=W at*;go_loopw [5] (fun i wr=>∃(k a0:Nat),k<=m∧i=Vi k∧Hid (O.take k=P.take k)∧wr=W.drewN a0) (fun i _=>m-(intOf i).toNat);case atStart=>exact⟨0,0,jg _,rfl,hiD (by simp),rfl⟩
 case round=>
  obtain⟨k,a0,a6,rfl,q,rfl⟩:=hrel;have y0:Cq W w.1.size 5 (Sq Q m S):=Z0.out.cell 5;have y1:Cq W (w.1.size+1) 5 (Sq R m T):=Z1.out.cell 5;by_cases a3:k<m
  ·obtain⟨b,e,p,a,c,d,rfl,rfl,Z,ht,⟨p0,p1,p2,aa,p4,p5,p6,p7,p8⟩,⟨q0,a5,a9,a4,q4,q5,q6,ae,q8⟩⟩:=s.out W k f.out a3;have g:=hiD Z;clear Z;have j:=hiD ht;clear ht;obtain⟨ac,⟨k1,n1,s1,r1⟩,⟨u1,v1,x1,z⟩⟩:=c;obtain⟨o2,⟨ad,a7,s2,a8⟩,⟨u2,v2,x2,z2⟩⟩:=d;simp only at p0 p1 p2 aa p4 p5 p6 p7 p8 q0 a5 a9 a4 q4 q5 q6 ae q8;by_cases U:ac=o2;rotate_left
   ·have l:=hiD (o.out k _ _ g.out j.out (fun h=>U (Cm.mk.inj h).1));clear o r q g j s;go_wp2_with fail;go_quiet (fail);go_wp2_with fail;go_ret;exact⟨by rw[l.out];rfl,f.out.trans (qp _ _ _ |>.trans (qp _ _ _))⟩
   subst U;by_cases F:k1=ad;rotate_left
   ·have l:=hiD (o.out k _ _ g.out j.out (fun h=>F (Tm.mk.inj (Cm.mk.inj h).2.1).1));clear o r q g j s;go_wp2_with fail;go_quiet (fail);go_wp2_with fail;go_ret;exact⟨by rw[l.out];rfl,f.out.trans (qp _ _ _ |>.trans (qp _ _ _))⟩
   subst F;by_cases A:n1=a7;rotate_left
   ·have l:=hiD (o.out k _ _ g.out j.out (fun h=>A (Tm.mk.inj (Cm.mk.inj h).2.1).2.1));clear o r q g j s;go_wp2_with fail;go_quiet (fail);go_wp2_with fail;go_ret;exact⟨by rw[l.out];rfl,f.out.trans (qp _ _ _ |>.trans (qp _ _ _))⟩
   subst A;by_cases L:s1=s2;rotate_left
   ·have l:=hiD (o.out k _ _ g.out j.out (fun h=>L (Tm.mk.inj (Cm.mk.inj h).2.1).2.2.1));clear o r q g j s;go_wp2_with fail;go_quiet (fail);go_wp2_with fail;go_ret;exact⟨by rw[l.out];rfl,f.out.trans (qp _ _ _ |>.trans (qp _ _ _))⟩
   subst L;by_cases M:r1=a8;rotate_left
   ·have l:=hiD (o.out k _ _ g.out j.out (fun h=>M (Tm.mk.inj (Cm.mk.inj h).2.1).2.2.2));clear o r q g j s;go_wp2_with fail;go_quiet (fail);go_wp2_with fail;go_ret;exact⟨by rw[l.out];rfl,f.out.trans (qp _ _ _ |>.trans (qp _ _ _))⟩
   subst M;by_cases H:u1=u2;rotate_left
   ·have l:=hiD (o.out k _ _ g.out j.out (fun h=>H (Tm.mk.inj (Cm.mk.inj h).2.2).1));clear o r q g j s;go_wp2_with fail;go_quiet (fail);go_wp2_with fail;go_ret;exact⟨by rw[l.out];rfl,f.out.trans (qp _ _ _ |>.trans (qp _ _ _))⟩
   subst H;by_cases K:v1=v2;rotate_left
   ·have l:=hiD (o.out k _ _ g.out j.out (fun h=>K (Tm.mk.inj (Cm.mk.inj h).2.2).2.1));clear o r q g j s;go_wp2_with fail;go_quiet (fail);go_wp2_with fail;go_ret;exact⟨by rw[l.out];rfl,f.out.trans (qp _ _ _ |>.trans (qp _ _ _))⟩
   subst K;by_cases J:x1=x2;rotate_left
   ·have l:=hiD (o.out k _ _ g.out j.out (fun h=>J (Tm.mk.inj (Cm.mk.inj h).2.2).2.2.1));clear o r q g j s;go_wp2_with fail;go_quiet (fail);go_wp2_with fail;go_ret;exact⟨by rw[l.out];rfl,f.out.trans (qp _ _ _ |>.trans (qp _ _ _))⟩
   subst J;by_cases I:z=z2;rotate_left
   ·have l:=hiD (o.out k _ _ g.out j.out (fun h=>I (Tm.mk.inj (Cm.mk.inj h).2.2).2.2.2));clear o r q g j s;go_wp2_with fail;go_quiet (fail);go_wp2_with fail;go_ret;exact⟨by rw[l.out];rfl,f.out.trans (qp _ _ _ |>.trans (qp _ _ _))⟩
   subst I;go_wp2_with fail;go_quiet (fail);go_wp2_with fail;go_roundw;case rel=>exact⟨k+1,_,by omega,by go_num,hiD (JR q.out g.out j.out),rfl⟩
   case measure=>simp[intOf];omega
  ·obtain rfl:k=m:=by omega
   have l:=hiD (r.out q.out);go_wp2_with fail;go_ret;exact⟨by rw[l.out];rfl,f.out.trans (qp _ _ _)⟩
end Go.Proofs.YtnmpcdnbklmhkaaGreatDoor
