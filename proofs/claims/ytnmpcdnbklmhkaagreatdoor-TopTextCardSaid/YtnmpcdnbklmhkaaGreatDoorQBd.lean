import Derived.Test.YtnmpcdnbklmhkaaGreatDoorQAz
import Derived.Test.YtnmpcdnbklmhkaaGreatDoorQBc
namespace Go.Proofs.YtnmpcdnbklmhkaaGreatDoor
open Go.Proofs.Tryz Go.RowKit
set_option maxRecDepth 100000
set_option linter.all false
set_option maxHeartbeats 8000000
section
attribute [local go_sem] Oper.semAt_some
attribute [local go_sem ↓] Go.wp_at_zero Go.wp_at_succ
theorem FV {a:Func} {c:Array Value} {P:Program} {t:Nat} {v:Value} {W:World} (d:a.results=#[.tmp t]) (e:c.getD t undef=v):(results a c).run P W= .ok v W:=by
 subst e;simp[results,d,go_sem]
theorem Oa (c:Nat) (J:Array Value) (eg:∀aj w,(callFunc c aj).run prog w= .ok (.enter c aj) w) (G:List Mt) (Fp:World->Prop)
  (ao:vL prog c J (fun ar vs b4=>∃r e,vs=#[.agg #[r,e]]∧MtV b4 r e (G.getD ar mt0)) G.length Fp) (a:List Mt) (B:Nat) (v:Value) (w:World) (K:B<=w.1.size) (Z:qj 2 B 127 mtR w v a)
  (bi:a.length+G.length<=1000000) (hF:∀W',qg (fun b=>v.ownBlock=some b) w W'->Fp W'):
  Cs 362 #[v,.func (.func c) #[] J] w fun bf w'=>∃O,bf= .returned O∧qj 2 B 127 mtR w' O (a++G)∧Below B w w'∧qg (fun b=>v.ownBlock=some b) w w':=by
 obtain⟨i0,b8,bc,bd,be⟩:=Vv;have bb:∃b5 ac,v= .slice b5 a.length ac:=qh Z.row.choose_spec;have ai:∀b,v.ownBlock=some b->b<w.1.size:=fun b s=>by
  obtain⟨i,q,hc⟩:=qP Z.row.choose_spec s;exact(jA.1 hc).1
 obtain⟨D1,a5⟩:=xL (fun b=>v.ownBlock=some b);rw[<-a5]at hF⊢;have ah:=hiD (fun b=>congrFun a5 b);clear a5;obtain⟨x,y,rfl⟩:=bb;generalize hn:a.length=n at*;have HN:=hiD hn;clear hn;have P:=bA w (.cells #[.slice x n y] 115);have z0:=Holds.fresh w 115 #[.slice x n y];have ax:=hiD ((qj.kept mtR.kept (k:=2) (e:=B) (E:=127) (.slice x n y) a).later Z P);have az:=hiD ao;have HF:=hiD hF;have b2:=hiD ai;clear ao hF Z ai;refine qH func362 rfl ?_;simp only[ntmps362,jW,jF,jO,Nat.reduceAdd,Nat.reduceSub,jR,jQ,jX,jU,jD,jE];go_wp2_with fail;have ba:=z0.size;generalize bk:w.alloc (.cells #[.slice x n y] 115)=w1 at*;have ap:w.1.size<w1.1.size:=ba;refine yF rfl eg az.out (by rintro ar vs X ⟨r,e,rfl,_⟩;rfl)
  (fun j D X=>∃O,D=BoxD w.1.size O∧Holds X w.1.size 115 #[O]∧qj 2 B 127 mtR X O (a++G.take j)∧Below B w X∧qg D1 w X)
  (fun _ _ _=>False) (BoxD w.1.size (.slice x n y)) ?_ ?_ ?_ ?_ ⟨_,rfl,z0,by rw[dF,jo];exact ax.out,P.mono K,qg.below' P⟩
  (fun j a' X=>∃(Q:Nat) (g:Option Addr) (m f:Nat) (l:Option Addr) (q d:Nat),Holds X Q 127 #[.slice g m f,.slice l q d]∧MtV X (.slice g m f) (.slice l q d) (G.getD j mt0)∧a'={tmps:=#[.slice x n y,.func (.func c) #[] J,Vp w.1.size 0,undef,.slice none 0 0,Vp Q 0,.func (.func c) #[] J,.agg #[.slice g m f,.slice l q d],undef,undef,undef,undef,undef],defers:=[]}) ?_ ?_ ?_ ?_ ?_
 ·intro j D;exact qe.ex fun v=>(qe.pure _).and ((qi _ _ _).and (((qj.kept mtR.kept _ _).stable _).and ((qe.below (by omega) K).and (ym _ _))))
 ·intro ac j;exact qe.pure _
 ·intro X hX;refine HF.out _ ?_;refine(qg.below' (D:=D1) P).step hX ?_;rintro b (rfl|s)
  ·exact .inr nLe
  ·exact .inl (by rw[ah.out b];exact s)
 ·rintro b (rfl|s)
  ·exact ap
  ·exact jf (b2.out b s) P.size
 ·intro j a';exact qe.ex fun Q=>qe.ex fun ra=>qe.ex fun m=>qe.ex fun rc=>qe.ex fun ea=>qe.ex fun q=>qe.ex fun ec=>(qi _ _ _).and (((MtV.kept _ _ _).stable _).and (qe.pure _))
 ·rintro l' j vs X D' K' W ae ab a1 hI ⟨r,e,rfl,C⟩ ak;obtain⟨g,f,rfl,_⟩:=C.1.form;obtain⟨l,d,rfl,_⟩:=C.2.form;generalize (G.getD j mt0).row.length=m at*;generalize (G.getD j mt0).2.length=q at*;have S:Bz X (X.alloc (.cells #[.slice g m f,.slice l q d] 127)):=bB;obtain⟨O,rfl,p,z,A,F⟩:=hI;have a3:B<=X.1.size:=jS K A.size;have al:=ak {tmps:=#[.slice x n y,.func (.func c) #[] J,Vp w.1.size 0,undef,.slice none 0 0,Vp X.1.size 0,.func (.func c) #[] J,.agg #[.slice g m f,.slice l q d],undef,undef,undef,undef,undef],defers:=[]} (X.alloc (.cells #[.slice g m f,.slice l q d] 127)) ((KeepsOthers.alloc _ _).from _) (qg.alloc _ _ _) ⟨O,rfl,p.alloc _,(qj.kept mtR.kept _ _).later z S,A.trans (S.mono a3),F.trans (qg.alloc _ _ _)⟩ ⟨X.1.size,g,m,f,l,q,d,Holds.fresh _ _ _,⟨C.1.later S,C.2.later S⟩,rfl⟩;have a7:=hiD al;clear al ak S C p z A F;gi_wp2;exact a7.out
 ·rintro l' j a' X D' bh W ae ab a1 ⟨O,rfl,p,z,A,F⟩ ⟨Q,g,m,f,l,q,d,zm,C,rfl⟩;obtain⟨l2,he,H,a2⟩:=z;have an:G.getD j mt0=G[j]:=by simp[List.getD,W]
  have aq:G.take (j+1)=G.take j++[G.getD j mt0]:=by rw[ja W,an]
  have b6:(a++G.take j).length<1000001:=by rw[jZ,jb,HN.out];omega
  obtain⟨N,hN⟩:=xR (a++G.take j).length;rw[hN]at H b6;have b3:=hiD aq;have b1:=hiD hN;have ay:=hiD he;have av:=hiD a2;have b0:=hiD C;have a4:=hiD F;clear aq hN an he a2 C F;have c0:=p.cell 0;obtain⟨q0,q1,-⟩:=zm.g2;simp at c0;have bl:=p.size;have bj:=zm.size;have a3:B<=X.1.size:=jS K A.size;have b9:B<=(X.alloc (.cells #[.slice g m f,.slice l q d] 127)).1.size:=by simp;omega
  gi_wp2_with (gi_at_builtin;refine wpListIn_append_own_at _ rfl (.tmp 8) (.tmp 10) 115 rfl B 127 i0 (.agg #[.slice none 0 0,.slice none 0 0]) 2 48 underlying115 b8 bc bd be rfl (by decide) O N (l2.flatMap fun ag=>ag.2.1) rfl (H.alloc _) (Ad X.1.size 0) 1 1 [.slice g m f,.slice l q d] rfl rfl ?c1 ?c2 ?c3 ?c4 b9 ?_);case c1=>exact qR X [.slice g m f,.slice l q d] 127
  case c2=>
   intro bm hu;simp only[jI,jH,or_false]at hu;rcases hu with rfl|rfl<;>rfl
  case c3=>unfold maxLen;omega
  case c4=>omega
  intro v2 X1 a9 aa _ U;obtain⟨u,o,rfl⟩:=qh a9;obtain⟨af,T,R,L,M⟩:=Boxed.appended p (by decide) H a3 (by omega) a9 aa;have kv:=af.cell;have kf:=af.frozen;have kz:=Holds.size af;have I:qg (BoxD w.1.size O) X (X1.setCell (Ad w.1.size 0) (.slice u (N+1) o)):=((qg.alloc _ _ _).trans (qg.row aa (fun b s=>.inr s))).trans (qg.set (.inl rfl) _ _);have a6:∀b,BoxD w.1.size O b->∀i q,X.1[b]?≠some (.cells i 3 q)∧X.1[b]?≠some (.cells i 36 q):=fun b s i q=>⟨BoxD.apart p H (by decide) (by decide) b s i q,BoxD.apart p H (by decide) (by decide) b s i q⟩;have a0:mtR (G.getD j mt0) [.slice g m f,.slice l q d] X:=⟨_,_,rfl,b0.out⟩;have t:qj 2 B 127 mtR (X1.setCell (Ad w.1.size 0) (.slice u (N+1) o)) (.slice u (N+1) o) (a++G.take (j+1)):=by
   rw[b3.out,<-jk];exact qj.snoc ay.out (cs:=[.slice g m f,.slice l q d]) rfl (by rw[b1.out];exact R) (fun ag hy=>(av.out ag hy).keptT I a6) (a0.keptT I a6)
  have V:qg D1 w (X1.setCell (Ad w.1.size 0) (.slice u (N+1) o)):=a4.out.step I (fun b s=>(ab b s).elim (fun h=>h.elim (fun h=>.inr (Nat.le_of_eq h.symm)) (fun h=>.inl (by rw[ah.out b];exact h))) (fun h=>.inr (by omega)));have au:=hiD (⟨I,t,V,M,L,T,R,U⟩:_∧_∧_∧_∧_∧_∧_∧_);clear I a6 a0 t V M L T R U a9 aa;gi_wp2;obtain⟨I,t,V,M,L,T,R,U⟩:=au.out;refine⟨L.from _,I,BoxD w.1.size (.slice u (N+1) o),?_,?_,_,rfl,T,t,A.trans M,V⟩
  ·rintro b (rfl|s)
   ·exact .inl (.inl rfl)
   ·rcases U with e|e
    ·exact .inl (.inr (by rw[<-e];exact s))
    ·rw[e]at s;cases s;exact .inr (by simp)
  ·rintro b (rfl|s)
   ·exact Holds.size T
   ·obtain⟨bg,q',b7⟩:=qP R s;exact(jA.1 b7).1
 ·rintro Kd X D' am ae ab a1 ⟨O,rfl,p,z,A,F⟩ ad;rw[jn]at z;have HD:=hiD z;have aw:=hiD A;have a7:=hiD F;have a8:=hiD ad;have q0:=p.cell 0;simp at q0;obtain⟨u,o,rfl⟩:=qh z.row.choose_spec;clear z A F ad;show Exit.inBlock _ _ _ _ _;go_wp2_with fail;have hp:qg (fun _=>False) X (X.putObj Kd (.deferred none)):=qg.putObj a8.out rfl;exact qZ (v:= .slice u (a.length+G.length) o) a8.out (FV rfl rfl) ⟨_,rfl,(qj.kept mtR.kept _ _) _ _ (by simpa using HD.out) hp,qB aw.out a8.out (jS K (jS (Nat.le_of_lt ap) am)),a7.out.trans (hp.mono (fun b s=>s.elim))⟩
 ·rintro Kd ac j X am W ae hf ad;exact hf.elim
def TwoD (p q:Nat) (a c:Value) (b:Nat):Prop:=BoxD p a b∨BoxD q c b
structure Two (n₀ p q:Nat) (l1 l2:List Mt) (v1 v2:Value) (X:World):Prop where
 h1:Holds X p 115 #[v1]
 h2:Holds X q 115 #[v2]
 d1:qj 2 n₀ 127 mtR X v1 l1
 d2:qj 2 n₀ 127 mtR X v2 l2
 ap:∀b,v1.ownBlock=some b->v2.ownBlock≠some b
 ne:p≠q
 np:n₀<=p
 nq:n₀<=q
theorem Two.swap {d p q:Nat} {l1 l2:List Mt} {e f:Value} {X:World} (h:Two d p q l1 l2 e f X):Two d q p l2 l1 f e X:=
 ⟨h.h2,h.h1,h.d2,h.d1,fun b c a=>h.ap b a c,h.ne.symm,h.nq,h.np⟩
theorem Two.kept {c p q:Nat} {l1 l2:List Mt} {d e:Value}:Kept (Two c p q l1 l2 d e):=fun _ _ h a=>
 ⟨h.h1.keepsN a (fun h=>h),h.h2.keepsN a (fun h=>h),qj.kept mtR.kept _ _ _ _ h.d1 a,qj.kept mtR.kept _ _ _ _ h.d2 a,h.ap,h.ne,h.np,h.nq⟩
theorem Two.lt {g p q:Nat} {l1 l2:List Mt} {d e:Value} {X:World} (h:Two g p q l1 l2 d e X):∀b,TwoD p q d e b->b<X.1.size:=by
 rintro b ((rfl|a)|(rfl|a))
 ·exact h.h1.size
 ·obtain⟨f,q,c⟩:=qP h.d1.row.choose_spec a;exact(jA.1 c).1
 ·exact h.h2.size
 ·obtain⟨f,q,c⟩:=qP h.d2.row.choose_spec a;exact(jA.1 c).1
theorem Two.append {H p q:Nat} {l1 l2:List Mt} {n I D:Value} {X E:World} (h:Two H p q l1 l2 n I X) (R:H<=X.1.size) {K:List El} (P:K.map (·.1)=l1)
  (J:X.ownsRow H 127 2 n l1.length (K.flatMap fun y=>y.2.1)) (O:∀y∈K,mtR y.1 y.2.1 X) {r e:Value} {m:Mt} (Q:MtV X r e m)
  (S:E.ownsRow H 127 2 D (l1.length+1) ((K.flatMap fun y=>y.2.1)++[r,e])) (M:(X.alloc (.cells #[r,e] 127)).grownBy E n.ownBlock)
  (L:D.ownBlock=n.ownBlock∨D.ownBlock=some (X.1.size+1)):
  Holds E p 115 #[n]∧Two H p q (l1++[m]) l2 D I (E.setCell ⟨p,0,none⟩ D)∧qg (TwoD p q n I) X (E.setCell ⟨p,0,none⟩ D)∧KeepsOthers X (E.setCell ⟨p,0,none⟩ D)∧Below H X (E.setCell ⟨p,0,none⟩ D)∧(∀b,TwoD p q D I b->TwoD p q n I b∨X.1.size<=b):=by
 obtain⟨t,w,l,i,j⟩:=Boxed.appended h.h1 (by decide) J R h.np S M;have c:qg (BoxD p n) X (E.setCell (Ad p 0) D):=((qg.alloc _ _ _).trans (qg.row M (fun b a=>.inr a))).trans (qg.set (.inl rfl) _ _);have f:∀b,BoxD p n b->∀F q,X.1[b]?≠some (.cells F 3 q)∧X.1[b]?≠some (.cells F 36 q):=fun b a F q=>⟨BoxD.apart h.h1 J (by decide) (by decide) b a F q,BoxD.apart h.h1 J (by decide) (by decide) b a F q⟩;have k:mtR m [r,e] X:=⟨_,_,rfl,Q⟩;have B:¬BoxD p n q:=by
  rintro(e|a)
  ·exact h.ne e.symm
  ·obtain⟨F,C,g⟩:=qP J a;have x:=h.h2;unfold Holds at x;rw[x]at g;cases g
 have v:∀b,I.ownBlock=some b->¬BoxD p n b:=by
  rintro b a (e|d)
  ·obtain⟨F,C,g⟩:=qP h.d2.row.choose_spec a;have z:=h.h1;unfold Holds at z;rw[e,z]at g;cases g
  ·exact h.ap b d a
 have o:qj 2 H 127 mtR (E.setCell (Ad p 0) D) I l2:=by
  obtain⟨s,A,T,N⟩:=h.d2;exact⟨s,A,yx T c v,fun y u=>(N y u).keptT c f⟩
 refine⟨t,⟨w,h.h2.keepsN c B,qj.snoc P (cs:=[r,e]) rfl l (fun y u=>(O y u).keptT c f) (k.keptT c f),o,?_,h.ne,h.np,h.nq⟩,c.mono (fun b a=>.inl a),i,j,?_⟩
 ·intro b a d;rcases L with e|e
  ·exact h.ap b (e▸a) d
  ·rw[e]at a;have:=h.lt b (.inr (.inr d));simp at a;omega
 ·rintro b ((rfl|a)|a)
  ·exact .inl (.inl (.inl rfl))
  ·rcases L with e|e
   ·exact .inl (.inl (.inr (by rw[<-e];exact a)))
   ·rw[e]at a;cases a;exact .inr (by simp)
  ·exact .inl (.inr a)
theorem Two.again {t p q:Nat} {l1 l2:List Mt} {n o:Value} {X:World} (h:Two t p q l1 l2 n o X):Two t p q l1 l2 n o ((X.setCell ⟨p,0,none⟩ n).setCell ⟨q,0,none⟩ o).drew:=by
 have i:qg (fun b=>b=p∨b=q) X ((X.setCell (Ad p 0) n).setCell (Ad q 0) o).drew:=(qg.set (.inl rfl) _ _).trans ((qg.set (.inr rfl) _ _).trans (qg.drew _ _));have a:∀b,(b=p∨b=q)->∃v,X.1[b]?=some (.cells #[v] 115 (0,0)):=by
  rintro b (rfl|rfl)
  ·exact⟨_,h.h1⟩
  ·exact⟨_,h.h2⟩
 have f:∀b,(b=p∨b=q)->∀s r,X.1[b]?≠some (.cells s 3 r)∧X.1[b]?≠some (.cells s 36 r):=fun b d s r=>by
  obtain⟨v,e⟩:=a b d;rw[e];exact⟨(fun h=>nomatch h),(fun h=>nomatch h)⟩
 have c:∀{v:Value} {l:List Mt},qj 2 t 127 mtR X v l->qj 2 t 127 mtR ((X.setCell (Ad p 0) n).setCell (Ad q 0) o).drew v l:=by
  rintro v l ⟨z,e,u,x⟩;refine⟨z,e,yx u i (fun b d c=>?_),fun y k=>(x y k).keptT i f⟩;obtain⟨s,m,g⟩:=qP u d;obtain⟨v,e⟩:=a b c;rw[e]at g;cases g
 have j:Holds (X.setCell (Ad p 0) n) p 115 #[n]:=by simpa using h.h1.set 0 n
 have A:Holds (X.setCell (Ad p 0) n) q 115 #[o]:=h.h2.keepsN (qg.set (D:=fun b=>b=p) rfl _ _) (fun e=>h.ne e.symm);have B:Holds ((X.setCell (Ad p 0) n).setCell (Ad q 0) o) q 115 #[o]:=by simpa using A.set 0 o
 have C:Holds ((X.setCell (Ad p 0) n).setCell (Ad q 0) o) p 115 #[n]:=j.keepsN (qg.set (D:=fun b=>b=q) rfl _ _) (fun e=>h.ne e);exact⟨C,B,c h.d1,c h.d2,h.ap,h.ne,h.np,h.nq⟩
theorem F8 (b:Mt->Bool) (n:Nat) (u:Array Value) (eg:∀ao w,(callFunc n ao).run prog w= .ok (.enter n ao) w) (l:List Mt) (b3:∀m∈l,m.row.length<=1000000∧m.2.length<=1000000) (b1:l.length<=1000000) (lv:Value) (w:World) (hl:qv 2 127 mtR w lv l)
  (hc:∀T,qg (fun _=>False) w T->∀m∈l,∀r e,MtV T r e m->Cs n (#[.agg #[r,e]]++u) T fun a2 w'=>a2= .returned (.bool (b m))∧Bz T w'):
  Cs 217 #[lv,.func (.func n) #[] u] w fun a2 w'=>∃J H,a2= .returned (.tuple #[J,H])∧qj 2 w.1.size 127 mtR w' J (l.filter b)∧qj 2 w.1.size 127 mtR w' H (l.filter fun m=>!b m)∧Bz w w':=by
 obtain⟨i0,az,b5,b6,b7⟩:=Vv;obtain⟨c,i,rfl,bh⟩:=hl.form;have ae:=fun (lb sb:Nat)=>MX b n u eg l b3 b1 (.slice c l.length i) lb sb;obtain⟨Z,O⟩:=xR l.length;rw[O]at bh b1 hl;rw[show Value.slice c l.length i= .slice c Z i by rw[O]]at ae;have z0:=(Holds.fresh w 115 #[.slice none 0 0]).alloc (.cells #[.slice none 0 0] 115);have z1:=Holds.fresh' (w:=w.alloc (.cells #[.slice none 0 0] 115)) (b:=w.1.size+1) (by simp) 115 #[.slice none 0 0];have au:=(bA w (.cells #[.slice none 0 0] 115)).alloc (by simp) (.cells #[.slice none 0 0] 115);have HC:=hiD hc;have b9:=hiD ae;have HL:=hiD hl;have an:=hiD O;clear hc ae hl b3;rw[show Sq c l.length i= .slice c Z i by rw[O]];clear O;refine qH func217 rfl ?_;simp only[ntmps217,jW,jF,jO,Nat.reduceAdd,Nat.reduceSub,jR,jQ,jX,jU,jD,jE];go_wp2_with fail;generalize b4:(w.alloc (.cells #[.slice none 0 0] 115)).alloc (.cells #[.slice none 0 0] 115)=y at*;refine(Jc (.slice c Z i) n u y ⟨_,_,_,rfl⟩).mono ?_;rintro a2 w2 ⟨rfl,zl,zs,ab⟩;replace z0:=z0.later ab;replace z1:=z1.later ab;have V:=au.trans (ab.mono au.size);have bo:=z0.size;have bp:=z1.size;have bq:=zl.size;have br:=zs.size;have bi:=hiD (show y.1.size=w.1.size+2 by rw[<-b4];simp);clear b4;go_wp2_with fail;have ap:Two w.1.size w.1.size (w.1.size+1) [] [] (.slice none 0 0) (.slice none 0 0) w2:=⟨z0,z1,qj.nil _ _ _ _ _,qj.nil _ _ _ _ _,(fun b h=>nomatch h),by omega,Nat.le_refl _,Nat.le_succ _⟩;refine yF rfl Iq (b9.out _ _) (by rintro bt vs X ⟨r,e,rfl,_⟩;rfl)
  (fun j al X=>∃J H,al=TwoD w.1.size (w.1.size+1) J H∧Two w.1.size w.1.size (w.1.size+1) ((l.take j).filter b) ((l.take j).filter fun m=>!b m) J H X∧Bz w X)
  (fun _ _ _=>False) (TwoD w.1.size (w.1.size+1) (.slice none 0 0) (.slice none 0 0)) ?_ ?_ ?_ ap.lt ⟨_,_,rfl,ap,V⟩
  (fun j a' X=>∃(W:Nat) (k:Option Addr) (m g:Nat) (o:Option Addr) (q s:Nat),Holds X W 127 #[.slice k m g,.slice o q s]∧MtV X (.slice k m g) (.slice o q s) (l.getD j mt0)∧a'={tmps:=#[.slice c Z i,.func (.func n) #[] u,undef,undef,Vp w.1.size 0,Vp (w.1.size+1) 0,Vp W 0,.bool (b (l.getD j mt0)),.slice c Z i,.func (.func n) #[] u,.func (.func 273) #[] #[Vp y.1.size 0,Vp (y.1.size+1) 0],.agg #[.slice k m g,.slice o q s],.bool (b (l.getD j mt0)),undef,undef,undef,undef,undef,undef,undef,undef,undef,undef,undef],defers:=[]}) ?_ ?_ ?_ ?_ ?_
 ·intro j al;exact qe.ex fun J=>qe.ex fun H=>(qe.pure _).and ((Two.kept.stable _).and (qe.below (by have:=V.size;omega) nLe))
 ·intro bd j;exact qe.pure _
 ·intro X hX;have bs:=bi.out;have hD:∀b,TwoD w.1.size (w.1.size+1) (.slice none 0 0) (.slice none 0 0) b->w.1.size<=b∧b<y.1.size:=by
   rintro b ((rfl|I)|(rfl|I))
   ·omega
   ·cases I
   ·omega
   ·cases I
  have b0:qg (fun _=>False) w X:=(qg.below' V).step hX (fun b I=>.inr (hD b I).1);exact {hl:=zl.keepsN hX (fun h=>by have:=hD _ h;omega),hs:=zs.keepsN hX (fun h=>by have:=hD _ h;omega),dl:=(show Kept (fun bc=>qv 2 127 mtR bc (.slice c Z i) l)from qv.kept mtR.kept _ _) _ _ HL.out b0,so:=fun m hm r e A=>HC.out X b0 m hm r e A}
 ·intro j a';exact qe.ex fun W=>qe.ex fun ra=>qe.ex fun m=>qe.ex fun rc=>qe.ex fun ea=>qe.ex fun q=>qe.ex fun ec=>(qi _ _ _).and (((MtV.kept _ _ _).stable _).and (qe.pure _))
 ·rintro l' j vs X D' K' hi af a0 a1 hI ⟨r,e,rfl,A⟩ aq;obtain⟨k,g,rfl,_⟩:=A.1.form;obtain⟨o,s,rfl,_⟩:=A.2.form;generalize (l.getD j mt0).row.length=m at*;generalize (l.getD j mt0).2.length=q at*;generalize b (l.getD j mt0)=bv at*;have d:Bz X (X.alloc (.cells #[.slice k m g,.slice o q s] 127)):=bB;obtain⟨J,H,rfl,a,B⟩:=hI;have be:w.1.size<=X.1.size:=B.size;have ar:=aq {tmps:=#[.slice c Z i,.func (.func n) #[] u,undef,undef,Vp w.1.size 0,Vp (w.1.size+1) 0,Vp X.1.size 0,.bool bv,.slice c Z i,.func (.func n) #[] u,.func (.func 273) #[] #[Vp y.1.size 0,Vp (y.1.size+1) 0],.agg #[.slice k m g,.slice o q s],.bool bv,undef,undef,undef,undef,undef,undef,undef,undef,undef,undef,undef],defers:=[]} (X.alloc (.cells #[.slice k m g,.slice o q s] 127)) ((KeepsOthers.alloc _ _).from _) (qg.alloc _ _ _) ⟨J,H,rfl,Two.kept.later a d,B.trans (d.mono be)⟩ ⟨X.1.size,k,m,g,o,q,s,Holds.fresh _ _ _,⟨A.1.later d,A.2.later d⟩,rfl⟩;have ba:=hiD ar;clear ar aq d A a B;gi_wp2;exact ba.out
 ·rintro l' j a' X D' bm hi af a0 a1 ⟨J,H,rfl,a,B⟩ ⟨W,k,m,g,o,q,s,zm,A,rfl⟩;have ay:l.getD j mt0=l[j]:=by simp[List.getD,hi]
  have aj:l.take (j+1)=l.take j++[l.getD j mt0]:=by rw[ja hi,ay]
  have ax:(l.take (j+1)).filter b=(l.take j).filter b++(if b (l.getD j mt0)=true then [l.getD j mt0]else []):=by
   rw[aj,List.filter_append];congr 1;generalize l.getD j mt0=S;cases d:b S<;>simp[d]
  have aw:((l.take (j+1)).filter fun m=>!b m)=((l.take j).filter fun m=>!b m)++(if b (l.getD j mt0)=true then []else [l.getD j mt0]):=by
   rw[aj,List.filter_append];congr 1;generalize l.getD j mt0=S;cases d:b S<;>simp[d]
  generalize l.getD j mt0=S at*;have am:=hiD A;have N:=hiD ax;have R:=hiD aw;clear ay aj ax aw A;have av:=B.size;have b2:w.1.size<=(X.alloc (.cells #[.slice k m g,.slice o q s] 127)).1.size:=by simp;omega
  obtain⟨D,L,-⟩:=zm.g2;have bn:=zm.size;obtain⟨bz,d⟩:=xR (b S);rw[d]at N R⊢;have bl:=hiD d;clear d;cases bz
  ·have a8:=hiD (N.out.trans (by rw[if_neg (by simp),jo]));have a7:=hiD (R.out.trans (by rw[if_neg (by simp)]));clear N R;obtain⟨l2,M,p,E⟩:=a.swap.d1;obtain⟨x,U⟩:=xR ((l.take j).filter fun m=>!b m).length;have bg:x<=1000000:=by rw[<-U];exact jS (List.length_filter_le _ _) (by have:=an.out;rw[jb];omega)
   have Q:=hiD a.swap;have HE:=hiD M;have a6:=hiD E;have a4:=hiD U;have a9:=hiD p;rw[U]at p;have c0:=a.swap.h1.cell 0;simp at c0;have bj:=a.swap.h1.size;clear a M E U;gi_wp2_with (gi_at_builtin;refine wpListIn_append_own_at _ rfl (.tmp 18) (.tmp 20) 115 rfl w.1.size 127 i0 (.agg #[.slice none 0 0,.slice none 0 0]) 2 48 underlying115 az b5 b6 b7 rfl (by decide) H x (l2.flatMap fun ak=>ak.2.1) rfl (p.alloc _) (Ad X.1.size 0) 1 1 [.slice k m g,.slice o q s] rfl rfl ?c1 ?c2 ?c3 ?c4 b2 ?_);case c1=>exact qR X [.slice k m g,.slice o q s] 127
   case c2=>
    intro bk P;simp only[jI,jH,or_false]at P;rcases P with rfl|rfl<;>rfl
   case c3=>unfold maxLen;omega
   case c4=>omega
   intro v2 X1 f z _ K;obtain⟨g',a5,rfl⟩:=qh f;have t:=Two.append Q.out av HE.out a9.out a6.out am.out (by rw[a4.out];exact f) z K;have kv:=t.1.cell 0;simp at kv;have kf:=Boxed.frozen t.1;have kz:=Holds.size t.1;have a3:=hiD t;clear t f z K p;gi_wp2;obtain⟨-,C,ag,ah,ac,ad⟩:=a3.out;refine⟨ah.from _,ag.mono (fun b I=>I.symm),TwoD w.1.size (w.1.size+1) J (.slice g' (x+1) a5),fun b I=>(ad b I.symm).imp Or.symm id,fun b I=>C.lt b I.symm,J,_,rfl,by rw[a8.out,a7.out];exact C.swap,B.trans ac⟩
  ·have a8:=hiD (N.out.trans (by rw[if_pos rfl]));have a7:=hiD (R.out.trans (by rw[if_pos rfl,jo]));clear N R;obtain⟨l2,M,p,E⟩:=a.d1;obtain⟨x,U⟩:=xR ((l.take j).filter b).length;have bg:x<=1000000:=by rw[<-U];exact jS (List.length_filter_le _ _) (by have:=an.out;rw[jb];omega)
   have Q:=hiD a;have HE:=hiD M;have a6:=hiD E;have a4:=hiD U;have a9:=hiD p;rw[U]at p;have c0:=a.h1.cell 0;simp at c0;have bj:=a.h1.size;clear a M E U;gi_wp2_with (gi_at_builtin;refine wpListIn_append_own_at _ rfl (.tmp 14) (.tmp 16) 115 rfl w.1.size 127 i0 (.agg #[.slice none 0 0,.slice none 0 0]) 2 48 underlying115 az b5 b6 b7 rfl (by decide) J x (l2.flatMap fun ak=>ak.2.1) rfl (p.alloc _) (Ad X.1.size 0) 1 1 [.slice k m g,.slice o q s] rfl rfl ?c1 ?c2 ?c3 ?c4 b2 ?_);case c1=>exact qR X [.slice k m g,.slice o q s] 127
   case c2=>
    intro bk P;simp only[jI,jH,or_false]at P;rcases P with rfl|rfl<;>rfl
   case c3=>unfold maxLen;omega
   case c4=>omega
   intro v2 X1 f z _ K;obtain⟨g',a5,rfl⟩:=qh f;have t:=Two.append Q.out av HE.out a9.out a6.out am.out (by rw[a4.out];exact f) z K;have kv:=t.1.cell 0;simp at kv;have kf:=Boxed.frozen t.1;have kz:=Holds.size t.1;have a3:=hiD t;clear t f z K p;gi_wp2;obtain⟨-,C,ag,ah,ac,ad⟩:=a3.out;refine⟨ah.from _,ag,TwoD w.1.size (w.1.size+1) (.slice g' (x+1) a5) H,ad,fun b I=>C.lt b I,_,H,rfl,by rw[a8.out,a7.out];exact C,B.trans ac⟩
 ·rintro Kd X D' bf af a0 a1 ⟨J,H,rfl,a,B⟩ aa;rw[jn]at a;have Q:=hiD a;have b8:=hiD B;have bb:=hiD aa;have D:=a.h1.cell 0;have L:=a.h2.cell 0;simp at D L;have f0:=Boxed.frozen a.h1;have f1:=Boxed.frozen a.h2;have s0:=a.h1.size;have s1:=a.h2.size;obtain⟨g1,p1,rfl⟩:=qh a.d1.row.choose_spec;obtain⟨g2,p2,rfl⟩:=qh a.d2.row.choose_spec;clear a B aa;show Exit.inBlock _ _ _ _ _;go_wp2_with fail;go_region;have a:=Q.out.again;have d:Bz w ((X.setCell (Ad w.1.size 0) (.slice g1 (l.filter b).length p1)).setCell (Ad (w.1.size+1) 0) (.slice g2 (l.filter fun m=>!b m).length p2)).drew:=((b8.out.setCell (by simp) _).setCell (by simp) _).drew;have ai:((X.setCell (Ad w.1.size 0) (.slice g1 (l.filter b).length p1)).setCell (Ad (w.1.size+1) 0) (.slice g2 (l.filter fun m=>!b m).length p2)).drew.1[Kd]?=some (.deferred (some [])):=((KeepsOthers.setCell X _ _).trans (KeepsOthers.setCell _ _ _)).same _ _ bb.out rfl;generalize ((X.setCell (Ad w.1.size 0) (.slice g1 (l.filter b).length p1)).setCell (Ad (w.1.size+1) 0) (.slice g2 (l.filter fun m=>!b m).length p2)).drew=X3 at*;clear D L f0 f1 s0 s1;go_wp2_with fail;have hp:qg (fun _=>False) X3 (X3.putObj Kd (.deferred none)):=qg.putObj ai rfl;have F:=Two.kept _ _ a hp;have D:=F.h1.cell 0;have L:=F.h2.cell 0;simp at D L;exact qZ (v:= .tuple #[.slice g1 (l.filter b).length p1,.slice g2 (l.filter fun m=>!b m).length p2]) ai (by simp[results,results217,go_sem,D,L]) ⟨_,_,rfl,F.d1,F.d2,qB d ai (by have:=V.size;omega)⟩
 ·rintro Kd bd j X bf hi af hf aa;exact hf.elim
end
end Go.Proofs.YtnmpcdnbklmhkaaGreatDoor
