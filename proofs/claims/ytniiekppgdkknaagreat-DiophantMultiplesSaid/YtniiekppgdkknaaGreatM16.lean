/- Joined. -/
import Derived.ChangeArms
import Derived.ProofKit
import Derived.OpenShut
import Derived.Test.YtniiekppgdkknaaGreatM14
set_option linter.unusedVariables false
set_option linter.unusedSimpArgs false
set_option linter.unusedSectionVars false
set_option maxHeartbeats 16000000
set_option maxRecDepth 100000
variable{z:Int}{ls:List Int}{C R a b b0 cap e i j k n:Nat}{g:Nat->Nat->Int}{v:Go.Value}{w:Go.World}
namespace Go.Proofs.YtniiekppgdkknaaGreat
open Go.RowKit
theorem zEv(h:z.natAbs<2^e)(a:e<=1000000):Smd z:=⟨zI h (zF (zAb (by decide:2<=B32) e) (zC0 (by rw[zCp];omega)))⟩
theorem zQU{N D:Int}(l:N.natAbs<2^e)(i:D.natAbs<2^e)(c:e<=1000000)(r:0<D):
  ∃g:Int,(∀(a b:Value) (w:World),yA w a N->yA w b D->Calls Tryz.prog 124 #[a,b] w (zBk w g))∧
   (∀(a b:Value) (w:World),yA w a N->yA w b g->Calls Tryz.prog 125 #[a,b] w fun e w'=>∃a b,e= .returned (.tuple #[a,b,.int .i64 0])/\yA w' a (Rat.divInt N D).num/\yA w' b (N%g)/\Below w.heap.size w w')∧
   (∀(a b:Value) (w:World),yA w a D->yA w b g->Calls Tryz.prog 125 #[a,b] w fun e w'=>∃a b,e= .returned (.tuple #[a,b,.int .i64 0])/\yA w' a ((Rat.divInt N D).den:Int)/\yA w' b (D%g)/\Below w.heap.size w w'):=by
 have j:D≠0:=by omega
 have k:zMM N D=((Int.gcd N D:Nat):Int):=by unfold zMM;rw[zA oM]
 have m:=zP5 (n:=N) j;have o:(zMM N D).natAbs<2^e:=by
  refine zM ?_ i;rw[k,zQ];exact zB6 oM (by simpa using Int.natAbs_dvd_natAbs.2 (zAH N D))
 have p:=zMO (n:=N) j;have q:=zMN (n:=N) j;refine⟨zMM N D,fun a b w d f=>k ▸ zK3 a b N D w d f (zEv l c) (zEv i c),fun a b w d f=>?_,fun a b w d f=>?_⟩
 .refine(zE7 a b N _ w d f (zEv l c) (zEv o c) m).mono fun e w' h=>?_
  unfold zRR at h;rwa[p]at h
 refine(zE7 a b D _ w d f (zEv i c) (zEv o c) m).mono fun e w' h=>?_
 unfold zRR at h;rwa[q]at h
theorem zNX(v1 v2:Value)(n d:Int)(w:World)(h1:yA w v1 n)(h2:yA w v2 d)(s1:n.natAbs<2^e)(s2:d.natAbs<2^e)(Q:e<=1000000)(h0:d≠0):
  Calls Tryz.prog 85 #[v1,v2] w fun e w'=>∃v,e= .returned (.tuple #[v,.int .i64 0])/\zAx w' v (Rat.divInt n d)/\Below w.heap.size w w':=by
 obtain⟨n1,a1,l1,k1,rfl⟩:=h1.parts;obtain⟨n2,a2,l2,k2,rfl⟩:=h2.parts;obtain⟨k,hk⟩:∃k,zAB d 0=k:=⟨_,rfl⟩;have d5:k≠0:=by rw[<-hk];unfold zAB;split<;>(try split)<;>omega
 have e1:(k==0)=false:=by simpa using d5
 have HK:qS (k<0↔d<0):=⟨by rw[<-hk];unfold zAB;split<;>(try split)<;>omega⟩;have b0:qS (∀(v:Value) (w:World),yA w v d->Calls Tryz.prog 61 #[v] w fun e w'=>e= .returned (.int .i64 k)/\Below w.heap.size w w'):=⟨fun v w hv=>hk ▸ zDA v d w hv⟩;have P:=xgv h1;have H:=xgv h2;have I:=xgv (And.intro s1 (And.intro s2 Q));have H0:=xgv h0;obtain⟨qq,c5⟩:∃e0,Rat.divInt n d=e0:=⟨_,rfl⟩;have c6:=xgv c5;rw[c5];clear h1 h2 s1 s2 h0 hk Q c5;go_enter Tryz.func85,Tryz.ntmps85;go_upto_region 1 with(fail)
 refine zE ?_;intro W0 c7;obtain⟨b7,z,s,a,e2⟩:=zBB c7;have P:=xgv (P.out.ext (lx b7));have H:=xgv (H.out.ext (lx b7));obtain⟨j,l,m,o⟩:=s.two;clear c7;go_wp2_with fail
 refine(b0.out _ W0 H.out).mono ?_;rintro e w1 ⟨rfl,S⟩;have z:=z.I S;have s:=s.I S;have a:=a.I S;have P:=xgv (P.out.ext (lx S));have H:=xgv (H.out.ext (lx S));have b:=nx b7 S;clear j l m o;obtain⟨j,l,m,o⟩:=s.two;go_wp2_with fail
 refine(b0.out _ w1 H.out).mono ?_;rintro e w8 ⟨rfl,T⟩;have z:=z.I T;have s:=s.I T;have a:=a.I T;have P:=xgv (P.out.ext (lx T));have H:=xgv (H.out.ext (lx T));have b:=nx b T;clear j l m o;have q8:=T.size;have q1:=S.size;by_cases b2:d<0
 .have d6:k<0:=HK.out.2 b2
  obtain⟨g,a9,U,V⟩:=zQU (N:=-n) (D:=-d) (by rw[qO];exact I.out.1) (by rw[qO];exact I.out.2.1) I.out.2.2 oM;rw[Rat.neg_divInt_neg,c6.out]at U V;have b5:=xgv a9;have b3:=xgv U;have b4:=xgv V;have SN:=xgv (And.intro (jX I.out.1 I.out.2.2) (jX I.out.2.1 I.out.2.2));clear b2 a9 U V b0;obtain⟨B,C,E,F⟩:=z.two;obtain⟨j,l,m,o⟩:=s.two;go_upto_region 4 with(fail)
  refine yD 4 [pcI 1 (-n),pcI 3 (-d)] ?_;refine sRd ?_;refine sRc (fun wS hI Gk hG=>by go_simp;exact ck hG (zE8 _ n _ (P.out.ext (lx hI.bel)).J SN.out.1)) (fun e3 _=>?_);refine sRd ?_;refine sRc (fun wS hI Gk hG=>by go_simp;exact ck hG (zE8 _ d _ (H.out.ext (lx hI.bel)).J SN.out.2)) (fun e4 _=>?_);refine sRe ?_;intro w9 a8 b8 b9;obtain⟨xs,xa,xl,xc,rfl⟩:=(show yA _ _ _ from b8).parts;obtain⟨ys,ya,yl,yc,rfl⟩:=(show yA _ _ _ from b9).parts;have X1:=xgv (show yA _ _ _ from b8);have X3:=xgv (show yA _ _ _ from b9);have z:=z.I a8;have s:=s.I a8;have a:=a.I a8;have q9:=a8.size;have b:=nx b a8;clear b8 b9 B C E F j l m o;obtain⟨B,C,E,F⟩:=z.two;obtain⟨j,l,m,o⟩:=s.two;have q1:=z.lt;have q2:=s.lt;go_upto_region 5 with(fail)
  refine zE ?_;intro Z a0;have b:Below w.heap.size w Z:=by rw[a0.out];exact yM (yM (yM (yM b (xgf _) _ _) (xgf _) _ _) oM _ _) oM _ _
  have c8:=z.lext2 dE (.bool xs) (.slice xa xl xc);have b6:=(show Blk _ (w.heap.size+1) _ _ from(yG w9 w.heap.size 0 1 (w.heap.size+1) (.bool xs) (.slice xa xl xc) oM).trans s);have c0:zBC w9 Z:=by rw[a0.out];exact c8.trans (b6.lext2 dE _ _)
  have a3:zCa Z w.heap.size (-n):=by
   refine⟨xs,xa,xl,xc,?_,X1.out.ext c0⟩;rw[a0.out];exact(yG _ _ _ _ _ _ _ oM).trans (z.put2 _ _)
  have a4:zCa Z (w.heap.size+1) (-d):=by
   refine⟨ys,ya,yl,yc,?_,X3.out.ext c0⟩;rw[a0.out];exact b6.put2 _ _
  have a:Blk Z (w.heap.size+1+1) tQ #[.bool false,.slice none 0 0,.bool false,.slice none 0 0]:=by
   rw[a0.out];exact((yG _ _ _ _ _ _ _ oM).trans (yG _ _ _ _ _ _ _ oM)).trans a
  clear a0 c8 b6 c0 B C E F j l m o X1 X3;obtain⟨ns,na,nl,nc,y,nI⟩:=id a3;obtain⟨ds,da,dl,dc,f,dI⟩:=id a4;obtain⟨B,C,E,F⟩:=y.two;obtain⟨j,l,m,o⟩:=f.two;have r:=xgv nI;have c:=xgv dI;clear nI dI a3 a4;go_wp2_with fail
  refine(b5.out _ _ Z r.out c.out).mono ?_;rintro e w2 ⟨gv,rfl,W,u⟩;obtain⟨gs,ga,gl,gc,rfl⟩:=W.parts;have h:=xgv W;have y:=y.I u;have f:=f.I u;have a:=a.I u;have r:=xgv (r.out.ext (lx u));have c:=xgv (c.out.ext (lx u));have b:=nx b u;clear W B C E F j l m o;go_upto_region 6 with(fail)
  refine zE ?_;intro W3 a5;obtain⟨p,t,d7⟩:=qL a5;have y:=y.I p;have f:=f.I p;have a:=a.I p;have r:=xgv (r.out.ext (lx p));have c:=xgv (c.out.ext (lx p));have h:=xgv (h.out.ext (lx p));have b:=nx b p;clear a5;obtain⟨B,C,E,F⟩:=y.two;obtain⟨J,K,L,M⟩:=t.two;go_wp2_with fail
  refine(b3.out _ _ W3 r.out h.out).mono ?_;rintro e w4 ⟨qv,rv,rfl,Y,hr,x⟩;obtain⟨qs,qa,ql,qc,rfl⟩:=Y.parts;obtain⟨rs,ra,rl,rc,rfl⟩:=hr.parts;have f:=f.I x;have a:=a.I x;have t:=t.I x;have c:=xgv (c.out.ext (lx x));have h:=xgv (h.out.ext (lx x));have i:=xgv Y;have b:=nx b x;clear Y hr B C E F J K L M;go_upto_region 7 with(fail)
  refine zE ?_;intro W5 a6;obtain⟨q,A,T8,d8⟩:=jW a6;have f:=f.I q;have a:=a.I q;have t:=t.I q;have c:=xgv (c.out.ext (lx q));have h:=xgv (h.out.ext (lx q));have i:=xgv (i.out.ext (lx q));have b:=nx b q;clear a6;obtain⟨j,l,m,o⟩:=f.two;obtain⟨J,K,L,M⟩:=t.two;go_wp2_with fail
  refine(b4.out _ _ W5 c.out h.out).mono ?_;rintro e w6 ⟨pv,ev,rfl,X,Q,O⟩;obtain⟨ps,pa,pl,pc,rfl⟩:=X.parts;obtain⟨es,ea,el,ec,rfl⟩:=Q.parts;have a:=a.I O;have A:=A.I O;have i:=xgv (i.out.ext (lx O));have R:=xgv X;have b:=nx b O;clear X Q j l m o J K L M;go_upto_region 8 with(fail)
  refine zE ?_;intro W7 a7;obtain⟨G,T9,c9,d9⟩:=jW a7;have a:=a.I G;have A:=A.I G;have i:=xgv (i.out.ext (lx G));have R:=xgv (R.out.ext (lx G));have b:=nx b G;clear a7;obtain⟨J,K,L,M⟩:=A.two;obtain⟨f1,f2,f3,f4⟩:=T9.two;obtain⟨r1,r2,r3,r4,r5,r6,r7,r8⟩:=a.four;go_wp2;have hx:=a.lext4 dE 0 (.bool qs) (.slice qa ql qc) (.bool ps) (.slice pa pl pc);exact bodyPost_ret (zEJ rfl _ rfl (a.put4 _ _ _ _) rfl) rfl ⟨_,rfl,⟨_,_,_,_,_,_,_,_,rfl,i.out.ext hx,R.out.ext hx⟩,zA8 b oM 0 _ _ _ _⟩
 have d6:¬ k<0:=fun d0=>b2 (HK.out.1 d0)
 obtain⟨g,a9,U,V⟩:=zQU (N:=n) (D:=d) I.out.1 I.out.2.1 I.out.2.2 (by have:=H0.out;omega);rw[c6.out]at U V;have b5:=xgv a9;have b3:=xgv U;have b4:=xgv V;have a3:zCa w8 w.heap.size n:=⟨_,_,_,_,z,P.out⟩;have a4:zCa w8 (w.heap.size+1) d:=⟨_,_,_,_,s,H.out⟩;clear b2 a9 U V b0;go_upto_region 5 with(fail)
 obtain⟨ns,na,nl,nc,y,nI⟩:=id a3;obtain⟨ds,da,dl,dc,f,dI⟩:=id a4;obtain⟨B,C,E,F⟩:=y.two;obtain⟨j,l,m,o⟩:=f.two;have r:=xgv nI;have c:=xgv dI;clear nI dI a3 a4;go_wp2_with fail
 refine(b5.out _ _ w8 r.out c.out).mono ?_;rintro e w2 ⟨gv,rfl,W,u⟩;obtain⟨gs,ga,gl,gc,rfl⟩:=W.parts;have h:=xgv W;have y:=y.I u;have f:=f.I u;have a:=a.I u;have r:=xgv (r.out.ext (lx u));have c:=xgv (c.out.ext (lx u));have b:=nx b u;clear W B C E F j l m o;go_upto_region 6 with(fail)
 refine zE ?_;intro W3 a5;obtain⟨p,t,d7⟩:=qL a5;have y:=y.I p;have f:=f.I p;have a:=a.I p;have r:=xgv (r.out.ext (lx p));have c:=xgv (c.out.ext (lx p));have h:=xgv (h.out.ext (lx p));have b:=nx b p;clear a5;obtain⟨B,C,E,F⟩:=y.two;obtain⟨J,K,L,M⟩:=t.two;go_wp2_with fail
 refine(b3.out _ _ W3 r.out h.out).mono ?_;rintro e w4 ⟨qv,rv,rfl,Y,hr,x⟩;obtain⟨qs,qa,ql,qc,rfl⟩:=Y.parts;obtain⟨rs,ra,rl,rc,rfl⟩:=hr.parts;have f:=f.I x;have a:=a.I x;have t:=t.I x;have c:=xgv (c.out.ext (lx x));have h:=xgv (h.out.ext (lx x));have i:=xgv Y;have b:=nx b x;clear Y hr B C E F J K L M;go_upto_region 7 with(fail)
 refine zE ?_;intro W5 a6;obtain⟨q,A,T8,d8⟩:=jW a6;have f:=f.I q;have a:=a.I q;have t:=t.I q;have c:=xgv (c.out.ext (lx q));have h:=xgv (h.out.ext (lx q));have i:=xgv (i.out.ext (lx q));have b:=nx b q;clear a6;obtain⟨j,l,m,o⟩:=f.two;obtain⟨J,K,L,M⟩:=t.two;go_wp2_with fail
 refine(b4.out _ _ W5 c.out h.out).mono ?_;rintro e w6 ⟨pv,ev,rfl,X,Q,O⟩;obtain⟨ps,pa,pl,pc,rfl⟩:=X.parts;obtain⟨es,ea,el,ec,rfl⟩:=Q.parts;have a:=a.I O;have A:=A.I O;have i:=xgv (i.out.ext (lx O));have R:=xgv X;have b:=nx b O;clear X Q j l m o J K L M;go_upto_region 8 with(fail)
 refine zE ?_;intro W7 a7;obtain⟨G,T9,c9,d9⟩:=jW a7;have a:=a.I G;have A:=A.I G;have i:=xgv (i.out.ext (lx G));have R:=xgv (R.out.ext (lx G));have b:=nx b G;clear a7;obtain⟨J,K,L,M⟩:=A.two;obtain⟨f1,f2,f3,f4⟩:=T9.two;obtain⟨r1,r2,r3,r4,r5,r6,r7,r8⟩:=a.four;go_wp2;have hx:=a.lext4 dE 0 (.bool qs) (.slice qa ql qc) (.bool ps) (.slice pa pl pc);exact bodyPost_ret (zEJ rfl _ rfl (a.put4 _ _ _ _) rfl) rfl ⟨_,rfl,⟨_,_,_,_,_,_,_,_,rfl,i.out.ext hx,R.out.ext hx⟩,zA8 b oM 0 _ _ _ _⟩
theorem zIM(b c:Value)(n d:Int)(w:World)(i:yA w b n)(j:yA w c d)(D:n.natAbs<2^e)(E:d.natAbs<2^e)(x:e<=1000000)(r:d≠0):
  Calls Tryz.prog 44 #[b,c] w (zBW w (Rat.divInt n d)):=by
 obtain⟨n1,a1,l1,B,rfl⟩:=i.parts;obtain⟨n2,a2,l2,C,rfl⟩:=j.parts;have G:qS (∀(b c:Value) (w:World),yA w b n->yA w c d->Calls Tryz.prog 85 #[b,c] w fun e F=>∃v,e= .returned (.tuple #[v,.int .i64 0])/\zAx F v (Rat.divInt n d)/\Below w.heap.size w F):=⟨fun b c w B C=>zNX b c n d w B C D E x r⟩;have H:=xgv i;have I:=xgv j;clear i j D E x r;go_enter Tryz.func44,Tryz.ntmps44;go_upto_region 1 with(fail)
 refine zE ?_;intro M s;obtain⟨l,J,K,a,a0⟩:=zBB s;obtain⟨m,o,p,q⟩:=J.two;obtain⟨P,Q,R,S⟩:=K.two;clear s;go_wp2_with fail
 refine(G.out _ _ M (H.out.ext (lx l)) (I.out.ext (lx l))).mono ?_;rintro e w1 ⟨rv,rfl,⟨X,N,V,T,Y,O,W,U,rfl,z,A⟩,u⟩;have g:=xgv z;have h:=xgv A;have a:=a.I u;have k:=nx l u;clear z A m o p q P Q R S;go_upto_region 2 with(fail)
 refine zE ?_;intro Z t;obtain⟨f,L,a3⟩:=qL t;have a:=a.I f;have k:=nx k f;have g:=xgv (g.out.ext (lx f));have h:=xgv (h.out.ext (lx f));obtain⟨m,o,p,q,c5,c6,c7,c8⟩:=L.four;obtain⟨r1,r2,r3,r4,r5,r6,r7,r8⟩:=a.four;clear t;go_wp2;have y:=a.lext4 dE 0 (.bool X) (.slice N V T) (.bool Y) (.slice O W U);exact jQ rfl rfl rfl (a.put4 _ _ _ _) ⟨_,_,_,_,_,_,_,_,rfl,g.out.ext y,h.out.ext y⟩ (zA8 k oM 0 _ _ _ _)
theorem zDB(v:Value)(z:Int)(w:World)(h:yA w v z):Calls Tryz.prog 28 #[v] w (zBW w (z:Rat)):=by
 obtain⟨F,o,D,B,rfl⟩:=h.parts;have H:=xgv h;clear h;go_enter Tryz.func28,Tryz.ntmps28;go_upto_region 1 with(fail)
 refine zE ?_;intro J g;obtain⟨f,m,b,K⟩:=jW g;obtain⟨q,r,t,u⟩:=m.two;clear g;refine yD 2 [pcI 1 (1)] ?_;refine sRd ?_;refine sRc (fun U hI I y=>by go_simp;exact ck y (zC2 1 _ dE dE)) (fun T _=>?_);refine sRe ?_;intro G e i;obtain⟨s,a,l,c,E,n,C,p,d,rfl,j⟩:=zNZ G (H.out.ext ((lx f).trans (lx e))) (show yA _ _ _ from i);injection d with d
 simp only[Array.mk.injEq,List.cons.injEq,and_true,Value.bool.injEq,Value.slice.injEq]at d;obtain⟨rfl,rfl,rfl,rfl⟩:=d;have k:=xgv j;have b:=b.I e;have x:=nx f e;obtain⟨L,M,N,O,P,Q,R,S⟩:=b.four;clear i j q r t u;go_wp2;have A:=b.lext4 dE 0 (.bool F) (.slice o D B) (.bool E) (.slice n C p);exact jQ rfl rfl rfl (b.put4 _ _ _ _) (k.out.ext A) (zA8 x oM 0 _ _ _ _)
theorem zCm(n:Int)(w:World)(q:-9223372036854775808<=n)(r:n<=9223372036854775807):Calls Tryz.prog 19 #[.int .i64 n] w (zBW w (n:Rat)):=by
 go_enter Tryz.func19,Tryz.ntmps19;go_upto_region 1 with(fail)
 refine zE ?_;intro m b;obtain⟨t,a,D⟩:=qL b;clear b;go_wp2_with fail
 refine(zC2 n m q r).mono ?_;rintro e C ⟨u,rfl,f,c⟩;have j:=xgv f;clear f;go_wp2_with fail
 refine(zDB u n C j.out).mono ?_;rintro e N ⟨M,rfl,⟨A,o,y,v,B,p,z,x,rfl,h,i⟩,d⟩;have k:=xgv h;have l:=xgv i;have a:=(a.I c).I d;have s:=nx (nx t c) d;obtain⟨E,F,G,H,I,J,K,L⟩:=a.four;clear h i;go_wp2;have g:=a.lext4 dE 0 (.bool A) (.slice o y v) (.bool B) (.slice p z x);exact jQ rfl rfl rfl (a.put4 _ _ _ _) ⟨_,_,_,_,_,_,_,_,rfl,k.out.ext g,l.out.ext g⟩ (zA8 s oM 0 _ _ _ _)
theorem zOP(n d:Int)(w:World)(c:n.natAbs<2^62)(f:d.natAbs<2^62)(B:d≠0):Calls Tryz.prog 18 #[.int .i64 n,.int .i64 d] w (zBW w (Rat.divInt n d)):=by
 have r:=xgv (fun(p q:Value) (w:World) (I:yA w p n) (J:yA w q d)=>zIM p q n d w I J c f oM B);have G:-9223372036854775808<=n:=by omega
 have H:n<=9223372036854775807:=by omega
 have E:-9223372036854775808<=d:=by omega
 have F:d<=9223372036854775807:=by omega
 clear c f;go_enter Tryz.func18,Tryz.ntmps18;go_upto_region 3 with(fail)
 refine zE ?_;intro y g;obtain⟨D,a,S⟩:=qL g;clear g;go_wp2_with fail
 refine(zC2 n y G H).mono ?_;rintro e Q ⟨u,rfl,j,h⟩;have s:=xgv j;clear j;go_wp2_with fail
 refine(zC2 d Q E F).mono ?_;rintro e R ⟨u2,rfl,k,b⟩;have t:=xgv k;clear k;go_wp2_with fail
 refine(r.out u u2 R (s.out.ext (lx b)) t.out).mono ?_;rintro e w3 ⟨rv,rfl,⟨O,z,M,K,P,A,N,L,rfl,m,o⟩,i⟩;have v:=xgv m;have x:=xgv o;have a:=((a.I h).I b).I i;have C:=nx (nx (nx D h) b) i;obtain⟨T,U,V,W,X,Y,Z,r8⟩:=a.four;clear m o;go_wp2;have l:=a.lext4 dE 0 (.bool O) (.slice z M K) (.bool P) (.slice A N L);exact jQ rfl rfl rfl (a.put4 _ _ _ _) ⟨_,_,_,_,_,_,_,_,rfl,v.out.ext l,x.out.ext l⟩ (zA8 C oM 0 _ _ _ _)
theorem zFl(v:Value)(q:Rat)(w:World)(h:zAx w v q)(p:HQ e q)(H:e<=1000000):Calls Tryz.prog 51 #[v] w fun e w'=>∃u,e= .returned u/\u= .bool (isZ q)/\Below w.heap.size w w':=by
 obtain⟨s1,L,Z,X,s2,M,l2,Y,rfl,s,l⟩:=h;dsimp only at s l;obtain⟨b,g⟩:∃b,isZ q=b:=⟨_,rfl⟩;obtain⟨k,i⟩:∃k,zAB (q.den:Int) 1=k:=⟨_,rfl⟩;have B:qS ((k==0)=b):=⟨by
  rw[<-g,<-i];unfold isZ zAB;have:=q.den_nz;by_cases e:(q.den:Int)=1
  .rw[e];rfl
  rw[zR e];split;rfl;rw[zC oM];rfl⟩
 have r:Sm (q.den:Int):=jX (e:=e) (by rw[zQ];exact p.2) H;have A:qS (∀(a c:Value) (w:World),yA w a (q.den:Int)->yA w c 1->Calls Tryz.prog 91 #[a,c] w fun e w'=>∃v,e= .returned v/\v= .int .i64 k/\Below w.heap.size w w'):=⟨fun a c w D E=>(zK1 a c _ 1 w D E r (zFG (z:=1) dE).sm).mono fun e w' ⟨x,y⟩=>⟨_,x,by rw[i],y⟩⟩;have d:=xgv l;rw[g];clear s l i g r p;go_enter Tryz.func51,Tryz.ntmps51;go_upto_region 1 with(fail)
 refine zE ?_;intro J n;obtain⟨m,C,W⟩:=qL n;obtain⟨N,O,P,Q,R,S,T,U⟩:=C.four;have d:=xgv (d.out.ext (lx m));clear n;refine zBK [pcI 2 (1),pcD 3 [2] (fun _ v=>v= .int .i64 k)] ?_;refine sRd ?_;refine sRc (fun I hI t f=>by go_simp;exact ck f (zC2 1 _ dE dE)) (fun a0 _=>?_);refine sRc (fun I hI o t f=>?_) (fun _ j=>?_)
 .go_simp
  refine(A.out _ _ _ (d.out.ext (lx hI.bel)) o).mono ?_;rintro e wa ⟨v,rfl,j,F⟩;exact⟨_,rfl,f _ _ j,F⟩
 obtain⟨_,-,rfl⟩:=j;refine sRq (fun K hK=>?_);have V:=B.out;go_simp;refine hK _ ?_;clear hK K;refine sRd ?_;refine sRe ?_;intro w1 G o _;go_wp2;go_ret;exact⟨_,rfl,rfl,nx m G⟩
theorem zE9(c d:Value)(p q:Rat)(w:World)(h1:zAx w c p)(h2:zAx w d q)(j:HQ a p)(k:HQ b q)(a8:a+b+1<=1000000):Calls Tryz.prog 34 #[c,d] w (zBW w (p*q)):=by
 obtain⟨e1,e2,G,H,e5⟩:=HQ.ints j k;have K:((p.den:Int)).natAbs<2^a:=by rw[zQ];exact j.2
 have L:((q.den:Int)).natAbs<2^b:=by rw[zQ];exact k.2
 have F:qS (∀(c d:Value) (w:World),yA w c (p.num*q.num)->yA w d ((p.den:Int)*q.den)->Calls Tryz.prog 44 #[c,d] w (zBW w (p*q))):=⟨fun c d w P Q=>by
  rw[zGs];exact zIM c d _ _ w P Q G H oM (zFr p q)⟩
 have f:=xgv (And.intro (jX j.1 oM) (And.intro (jX K oM) (And.intro (jX k.1 oM) (jX L oM))));obtain⟨s1,a1,l1,P,s2,a2,l2,Q,rfl,l,m⟩:=h1;obtain⟨s3,a3,l3,k3,s4,a4,l4,k4,rfl,n,o⟩:=h2;dsimp only at l m n o;obtain⟨S,B⟩:∃z,p.num=z:=⟨_,rfl⟩;obtain⟨R,A⟩:∃z:Int,(p.den:Int)=z:=⟨_,rfl⟩;obtain⟨U,D⟩:∃z,q.num=z:=⟨_,rfl⟩;obtain⟨T,C⟩:∃z:Int,(q.den:Int)=z:=⟨_,rfl⟩;rw[B,D,A,C]at F f;rw[B]at l;rw[A]at m;rw[D]at n;rw[C]at o;have r:=xgv l;have s:=xgv m;have t:=xgv n;have u:=xgv o;clear l m n o e1 e2 G H e5 K L j k B A D C;go_enter Tryz.func34,Tryz.ntmps34;go_upto_region 1 with(fail)
 refine zE ?_;intro W0 I;obtain⟨h,Y,Z,g,b0⟩:=zBB I;have r:=xgv (r.out.ext (lx h));have s:=xgv (s.out.ext (lx h));have t:=xgv (t.out.ext (lx h));have u:=xgv (u.out.ext (lx h));obtain⟨c1,c2,c3,c4,c5,c6,c7,c8⟩:=Y.four;obtain⟨d1,d2,d3,d4,d5,d6,d7,d8⟩:=Z.four;clear I;have a9:=jK (p*q);refine yD 11 [pcI 4 (S*U),pcI 9 (R*T),pcD 10 [4,9] (fun w v=>zAx w v (p*q))] ?_;refine sRd ?_;refine sRc (fun V hI E i=>by go_simp;exact ck i (zB8 _ _ S U _ (r.out.ext (lx hI.bel)) (t.out.ext (lx hI.bel)) f.out.1 f.out.2.2.1)) (fun b3 _=>?_);refine sRd ?_;refine sRc (fun V hI E i=>by go_simp;exact ck i (zB8 _ _ R T _ (s.out.ext (lx hI.bel)) (u.out.ext (lx hI.bel)) f.out.2.1 f.out.2.2.2)) (fun b4 _=>?_);refine sRc (fun V hI x y E i=>?_) (fun b2 _=>?_)
 .go_simp
  refine(F.out _ _ _ x y).mono ?_;rintro e wa ⟨v,rfl,hv,a7⟩;exact⟨_,rfl,i _ _ hv,a7⟩
 refine sRe ?_;intro w1 J x y a0;obtain⟨s5,a5,l5,k5,s6,a6,l6,k6,rfl,N,O⟩:=(show zAx _ _ _ from a0);have W:=xgv N;have X:=xgv O;have g:=g.I J;have hB:=nx h J;obtain⟨r1,r2,r3,r4,r5,r6,r7,r8⟩:=g.four;clear N O c1 c2 c3 c4 c5 c6 c7 c8 d1 d2 d3 d4 d5 d6 d7 d8 x y;go_wp2;have M:=g.lext4 dE 0 (.bool s5) (.slice a5 l5 k5) (.bool s6) (.slice a6 l6 k6);exact jQ rfl rfl rfl (g.put4 _ _ _ _) ⟨_,_,_,_,_,_,_,_,rfl,W.out.ext M,X.out.ext M⟩ (zA8 hB oM 0 _ _ _ _)
theorem zIL(g h:Value)(p q:Rat)(w:World)(h1:zAx w g p)(h2:zAx w h q)(t:HQ a p)(u:HQ b q)(f5:a+b+1<=1000000):Calls Tryz.prog 63 #[g,h] w (zBW w (p+q)):=by
 obtain⟨Z,e2,e3,e4,e5⟩:=HQ.ints t u;have c0:((p.den:Int)).natAbs<2^a:=by rw[zQ];exact t.2
 have c9:((q.den:Int)).natAbs<2^b:=by rw[zQ];exact u.2
 have b5:qS (∀(g h:Value) (w:World),yA w g (p.num*q.den+q.num*p.den)->yA w h ((p.den:Int)*q.den)->Calls Tryz.prog 44 #[g,h] w (zBW w (p+q))):=⟨fun g h w k1 k2=>by
  rw[zGj];exact zIM g h _ _ w k1 k2 (zWQ Z e2) (zWg e4) oM (zFr p q)⟩
 have c:=xgv (And.intro (jX t.1 oM) (And.intro (jX c0 oM) (And.intro (jX u.1 oM) (And.intro (jX c9 oM) (And.intro (jX Z oM) (jX e2 oM))))));obtain⟨s1,a1,l1,k1,s2,a2,l2,k2,rfl,y,A⟩:=h1;obtain⟨s3,a3,l3,k3,s4,a4,l4,k4,rfl,B,C⟩:=h2;dsimp only at y A B C;obtain⟨E,b2⟩:∃z,p.num=z:=⟨_,rfl⟩;obtain⟨l,b0⟩:∃z:Int,(p.den:Int)=z:=⟨_,rfl⟩;obtain⟨F,b4⟩:∃z,q.num=z:=⟨_,rfl⟩;obtain⟨m,b3⟩:∃z:Int,(q.den:Int)=z:=⟨_,rfl⟩;rw[b2,b4,b0,b3]at b5 c;rw[b2]at y;rw[b0]at A;rw[b4]at B;rw[b3]at C;have H:=xgv y;have i:=xgv A;have I:=xgv B;have j:=xgv C;clear y A B C Z e2 e3 e4 e5 c0 c9 t u b2 b0 b4 b3;go_enter Tryz.func63,Tryz.ntmps63;go_upto_region 1 with(fail)
 refine zE ?_;intro W0 b7;obtain⟨r,n,o,f,f7⟩:=zBB b7;have H:=xgv (H.out.ext (lx r));have i:=xgv (i.out.ext (lx r));have I:=xgv (I.out.ext (lx r));have j:=xgv (j.out.ext (lx r));obtain⟨J,K,L,M,N,O,P,Q⟩:=n.four;obtain⟨R,S,T,U,V,W,X,Y⟩:=o.four;have q1:=n.lt;have q2:=o.lt;clear b7;refine zBK [pcI 4 (E*m),pcI 9 (F*l),pcD 10 [4,9] (fun w v=>yA w v (E*m+F*l)),pbA 11 51 2,pbS 12 11 51 2] ?_;refine sRd ?_;refine sRc (fun G hI s d=>by go_simp;exact ck d (zB8 _ _ E m _ (H.out.ext hI.lext) (j.out.ext hI.lext) c.out.1 c.out.2.2.2.1)) (fun f9 _=>?_);refine sRd ?_;refine sRc (fun G hI s d=>by go_simp;exact ck d (zB8 _ _ F l _ (I.out.ext hI.lext) (i.out.ext hI.lext) c.out.2.2.1 c.out.2.1)) (fun g1 _=>?_);refine sRc (fun G hI a0 a8 s d=>?_) (fun f8 x=>?_)
 .go_simp
  exact ck d (zE6 _ _ (E*m) (F*l) _ a0 a8 c.out.2.2.2.2.1 c.out.2.2.2.2.2)
 obtain⟨d9,e0,rfl,e9⟩:=zNr x;clear x;refine sRa (cs:=#[.bool false,.slice none 0 0]) fun b6 f0=>?_
 refine sRs b6 (.agg #[d9,e0]) ?_ e9;refine sRb ?_;simp only[FA,FC,FN,ptr,List.nil_append,List.cons_append,Act.put,xgh,xgi,xgj];intro w1 k a0 a8 b8 D e8;replace D:Blk w1 b6 51 #[d9,e0]:=D _ rfl;have d0:=b8;clear e8;have z5:=zCa.mk D d0;obtain⟨s5,a5,l5,k5,T5,i5⟩:=id z5;have I5:=xgv i5;have n:=n.I k;have o:=o.I k;have f:=f.I k;have hB:=nx r k;have i:=xgv (i.out.ext (lx k));have j:=xgv (j.out.ext (lx k));clear J K L M N O P Q R S T U V W X Y a0 a8 b8 D d0 z5 i5;obtain⟨J,K,L,M,N,O,P,Q⟩:=n.four;obtain⟨R,S,T,U,V,W,X,Y⟩:=o.four;obtain⟨f1,f2,f3,f4⟩:=T5.two;have f6:=jK (p+q);go_upto_region 2 with(fail)
 refine yD 7 [pcI 5 (l*m),pcD 6 [5] (fun w v=>zAx w v (p+q))] ?_;refine sRd ?_;refine sRc (fun G hI s d=>by go_simp;exact ck d (zB8 _ _ l m _ (i.out.ext (lx hI.bel)) (j.out.ext (lx hI.bel)) c.out.2.1 c.out.2.2.2.1)) (fun g2 _=>?_);refine sRc (fun G hI a9 s d=>?_) (fun g3 _=>?_)
 .go_simp
  refine(b5.out _ _ _ (I5.out.ext (lx hI.bel)) a9).mono ?_;rintro e wa ⟨v,rfl,x,e7⟩;exact⟨_,rfl,d _ _ x,e7⟩
 refine sRe ?_;intro w2 b9 a9 e6;obtain⟨s6,a6,l6,k6,s7,a7,l7,k7,rfl,i6,i7⟩:=(show zAx _ _ _ from e6);have I6:=xgv i6;have I7:=xgv i7;have f:=f.I b9;have hB:=nx hB b9;obtain⟨r1,r2,r3,r4,r5,r6,r7,r8⟩:=f.four;clear i6 i7 J K L M N O P Q R S T U V W X Y f1 f2 f3 f4 a9;go_wp2;have hx:=f.lext4 dE 0 (.bool s6) (.slice a6 l6 k6) (.bool s7) (.slice a7 l7 k7);exact jQ rfl rfl rfl (f.put4 _ _ _ _) ⟨_,_,_,_,_,_,_,_,rfl,I6.out.ext hx,I7.out.ext hx⟩ (zA8 hB oM 0 _ _ _ _)
theorem zMZ(v:Value)(p:Int × Int)(w:World)(h:zCR w v p)(J:p.1.natAbs<2^e)(K:p.2.natAbs<2^e)(H:e<=1000000):Calls Tryz.prog 89 #[v] w fun e w'=>∃u,e= .returned u/\u= .bool (zKI p)/\Below w.heap.size w w':=by
 obtain⟨n,d⟩:=p;obtain⟨n1,a1,l1,W,n2,a2,l2,X,rfl,R,S⟩:=h;dsimp only at R S J K;obtain⟨b,D⟩:∃b,zKI (n,d)=b:=⟨_,rfl⟩;obtain⟨k,P⟩:∃k,zAB d 0=k:=⟨_,rfl⟩;have C:qS (k<1↔d<=0):=⟨by rw[<-P];unfold zAB;split<;>(try split)<;>omega⟩;have a3:qS (∀(v:Value) (w:World),yA w v d->Calls Tryz.prog 61 #[v] w fun e w'=>e= .returned (.int .i64 k)/\Below w.heap.size w w'):=⟨fun v w hv=>P ▸ zDA v d w hv⟩;obtain⟨g,I⟩:∃g:Int,((Int.gcd n d:Nat):Int)=g:=⟨_,rfl⟩;have a0:qS (∀(j l:Value) (w:World),yA w j n->yA w l d->Calls Tryz.prog 124 #[j,l] w (zBk w g)):=⟨fun j l w W X=>I ▸ zK3 j l n d w W X (zEv J H) (zEv K H)⟩;obtain⟨m,Q⟩:∃m,zAB g 1=m:=⟨_,rfl⟩;have V:Sm g:=by
  rw[<-I];by_cases h0:d=0
  .rw[h0]
   exact jX (e:=e) (by rw[zQ,Int.gcd_zero_right];exact J) H
  exact jX (e:=e) (by
   rw[zQ];exact zM (zB6 oM (by simpa using Int.natAbs_dvd_natAbs.2 (zAH n d))) K) H
 have Y:qS (∀(j l:Value) (w:World),yA w j g->yA w l 1->Calls Tryz.prog 91 #[j,l] w fun e w'=>e= .returned (.int .i64 m)/\Below w.heap.size w w'):=⟨fun j l w h1 B=>Q ▸ zK1 j l _ 1 w h1 B V (zFG (z:=1) dE).sm⟩;have L:qS (d<=0->b=false):=⟨fun h=>by rw[<-D];unfold zKI;exact zR fun B=>by have:=B.1;dsimp only at this;omega⟩;have M:qS (¬ d<=0->(m==0)=b):=⟨fun h=>by
  rw[<-D,<-Q,<-I];unfold zKI zAB;by_cases e:Int.gcd n d=1
  .rw[zT (show 0<(n,d).2/\Int.gcd (n,d).1 (n,d).2=1 from⟨by dsimp only;omega,e⟩),e];rfl
  rw[zR fun B=>e B.2];split;rfl;rw[zC oM];rfl⟩
 have c:=xgv R;have a:=xgv S;rw[D];clear R S P D I Q J K V;go_enter Tryz.func89,Tryz.ntmps89;go_upto_region 1 with(fail)
 refine zE ?_;intro W0 T;obtain⟨N,f,a9⟩:=qL T;obtain⟨o,q,r,s,t,x,y,A⟩:=f.four;have c:=xgv (c.out.ext (lx N));have a:=xgv (a.out.ext (lx N));clear T;go_wp2_with fail
 refine(zF6 _ _ W0 c.out).mono ?_;rintro e w1 ⟨rfl,E⟩;have f:=f.I E;have c:=xgv (c.out.ext (lx E));have a:=xgv (a.out.ext (lx E));have i:=nx N E;clear o q r s t x y A;obtain⟨o,q,r,s,t,x,y,A⟩:=f.four;go_wp2_with fail
 refine(zF6 _ _ w1 a.out).mono ?_;rintro e w2 ⟨rfl,F⟩;have f:=f.I F;have c:=xgv (c.out.ext (lx F));have a:=xgv (a.out.ext (lx F));have i:=nx i F;clear o q r s t x y A;obtain⟨o,q,r,s,t,x,y,A⟩:=f.four;go_wp2_with fail
 refine(a3.out _ w2 a.out).mono ?_;rintro e w3 ⟨rfl,G⟩;have f:=f.I G;have c:=xgv (c.out.ext (lx G));have a:=xgv (a.out.ext (lx G));have i:=nx i G;clear o q r s t x y A;obtain⟨o,q,r,s,t,x,y,A⟩:=f.four;by_cases hd:d<=0
 .have a7:=C.out.2 hd
  have a6:=L.out hd;clear C L M;subst a6;go_wp2;go_ret;exact⟨_,rfl,rfl,i⟩
 have a7:¬ k<1:=fun h=>hd (C.out.1 h)
 have a8:=M.out oM;clear C L M hd;go_wp2_with fail
 refine(a0.out _ _ w3 c.out a.out).mono ?_;rintro e w4 ⟨gv,rfl,O,a4⟩;obtain⟨gs,ga,gl,gc,rfl⟩:=O.parts;have Z:=xgv O;have i:=nx i a4;clear O;go_wp2_with fail
 refine(zC2 1 w4 dE dE).mono ?_;rintro e w5 ⟨b0,rfl,ho,U⟩;have i:=nx i U;go_wp2_with fail
 refine(Y.out _ _ w5 (Z.out.ext (lx U)) ho).mono ?_;rintro e w6 ⟨rfl,a5⟩;go_wp2;go_ret;exact⟨_,rfl,rfl,nx i a5⟩
def zAZ(n:Nat)(f:Nat->Int × Int):List (Int × Int):=(List.range n).map f
theorem zU(n:Nat)(f:Nat->Int × Int):(zAZ n f).length=n:=by simp[zAZ]
theorem zBP{f:Nat->Int × Int}(h:k<n):(zAZ n f)[k]?=some (f k):=by simp[zAZ,h]
theorem zBL{f g:Nat->Int × Int}(h:∀k,k<n->f k=g k):zAZ n f=zAZ n g:=zA1 fun k a=>h k (by simpa using a)
theorem zHW{f:Nat->Int × Int}{p:Int × Int}:(zAZ n f).set k p=zAZ n fun i=>if i=k then p else f i:=by
 refine List.ext_getElem? fun i=>?_
 by_cases a:i<n
 .rw[zBP a]
  by_cases e:i=k
  .subst e
   rw[List.getElem?_set_self (by rw[zU];exact a),zC rfl]
  rw[List.getElem?_set_ne (zL e),zBP a,zA e]
 rw[List.getElem?_eq_none (by rw[List.length_set,zU];omega),List.getElem?_eq_none (by rw[zU];omega)]
def prQ(q:Rat):Int × Int:=(q.num,(q.den:Int))
def zRI(n:Nat):Array Value:=madeCells (Value.agg #[.bool false,.slice none 0 0,.bool false,.slice none 0 0]).cells (n*4)
theorem mkQ(m:Int)(n:Nat)(b:m=n)(h:n<=1099511627776)(W:World):
  (Instr.makeSlice 40 (.int .i64 m) (.int .i64 m)).run Tryz.prog W= .ok (.slice (some ⟨W.heap.size,0,none⟩) n n) (W.alloc (.cells (zRI n) tQ)):=by
 subst b;obtain⟨f,a,c,d,e⟩:=info_parts Tryz.infoQ;have:=zC3 (P:=Tryz.prog) 40 tQ f _ Tryz.underlying40 a c .i64 .i64 n n (xgf _) (by rw[e];omega) oM W;rw[this,d];rfl
theorem zNU(w:World)(n:Nat):zCB (w.alloc (.cells (zRI n) tQ)) w.heap.size (zAZ n fun _=>(0,0)):=by
 refine⟨zRI n,heap_alloc_new w _,fun k p a=>?_⟩;have d:k<n:=by
  have:=(xge.1 a).1;rwa[zU]at this
 rw[zBP d]at a;injection a with a
 subst a;have b:∀j,j<n*4->(zRI n).toList[j]?=some ((#[Value.bool false,.slice none 0 0,.bool false,.slice none 0 0]:Array Value).getD (j%4) undef):=fun j c=>by
  unfold zRI madeCells;rcases(by omega:j%4=0∨j%4=1∨j%4=2∨j%4=3)with h|h|h|h<;>simp[Value.cells,c,h]
 refine⟨false,none,0,0,false,none,0,0,?_,?_,?_,?_,zCe _,zCe _⟩;rw[b _ oM,show k*4%4=0 by omega];rfl;rw[b _ oM,show(k*4+1)%4=1 by omega];rfl;rw[b _ oM,show(k*4+2)%4=2 by omega];rfl;rw[b _ oM,show(k*4+3)%4=3 by omega];rfl
theorem zCB.set{y:List (Int × Int)}(h:zCB w b y)(B:k<y.length){s g:Bool}{a d:Option Addr}{l c f c':Nat}{p:Int × Int}(L:yA w (.agg #[.bool s,.slice a l c]) p.1)(M:yA w (.agg #[.bool g,.slice d f c']) p.2):
  zCB ((((w.setCell ⟨b,k*4,none⟩ (.bool s)).setCell ⟨b,k*4+1,none⟩ (.slice a l c)).setCell ⟨b,k*4+2,none⟩ (.bool g)).setCell ⟨b,k*4+3,none⟩ (.slice d f c')) b (y.set k p)∧
   zBC w ((((w.setCell ⟨b,k*4,none⟩ (.bool s)).setCell ⟨b,k*4+1,none⟩ (.slice a l c)).setCell ⟨b,k*4+2,none⟩ (.bool g)).setCell ⟨b,k*4+3,none⟩ (.slice d f c')):=by
 obtain⟨m,K,z⟩:=h;have A:Blk w b tQ m:=K;have r:=A.lext4 dE (k*4) (.bool s) (.slice a l c) (.bool g) (.slice d f c');have V:k*4+4<=m.size:=by
  obtain⟨_,_,_,_,_,_,_,_,-,-,-,q,-⟩:=z k _ (xga B);have:=(xge.1 q).1;simp at this;omega
 refine⟨⟨(((m.setIfInBounds (k*4) (.bool s)).setIfInBounds (k*4+1) (.slice a l c)).setIfInBounds (k*4+2) (.bool g)).setIfInBounds (k*4+3) (.slice d f c'),(((A.set_ _ _).set_ _ _).set_ _ _).set_ _ _,fun j q n=>?_⟩,r⟩;have o:∀i,i<m.size->((((m.setIfInBounds (k*4) (.bool s)).setIfInBounds (k*4+1) (.slice a l c)).setIfInBounds (k*4+2) (.bool g)).setIfInBounds (k*4+3) (.slice d f c')).toList[i]?=if i=k*4 then some (.bool s)else if i=k*4+1 then some (.slice a l c)else if i=k*4+2 then some (.bool g)else if i=k*4+3 then some (.slice d f c')else m.toList[i]?:=fun i U=>by
  simp only[Array.getElem?_toList];by_cases x:i=k*4+3
  .subst x
   rw[Array.getElem?_setIfInBounds_self_of_lt (by simp;omega),zA oM,zA oM,zA oM,zC rfl]
  rw[xgc (zL x)];by_cases v:i=k*4+2
  .subst v
   rw[Array.getElem?_setIfInBounds_self_of_lt (by simp;omega),zA oM,zA oM,zC rfl]
  rw[xgc (zL v)];by_cases u:i=k*4+1
  .subst u
   rw[Array.getElem?_setIfInBounds_self_of_lt (by simp;omega),zA oM,zC rfl]
  rw[xgc (zL u)];by_cases t:i=k*4
  .subst t
   rw[Array.getElem?_setIfInBounds_self_of_lt oM,zC rfl]
  rw[xgc (zL t),zA t,zA u,zA v,zA x]
 by_cases e:j=k
 .subst e
  rw[List.getElem?_set_self B]at n;injection n with n
  subst n;refine⟨s,a,l,c,g,d,f,c',?_,?_,?_,?_,L.ext r,M.ext r⟩;rw[o _ oM,zC rfl];rw[o _ oM,zA oM,zC rfl];rw[o _ oM,zA oM,zA oM,zC rfl];rw[o _ oM,zA oM,zA oM,zA oM,zC rfl]
 rw[List.getElem?_set_ne (zL e)]at n;obtain⟨P,C,N,F,Q,D,O,G,R,S,T,H,I,J⟩:=z j q n;have E:=(xge.1 H).1;simp at E;refine⟨P,C,N,F,Q,D,O,G,?_,?_,?_,?_,I.ext r,J.ext r⟩<;>(rw[o _ oM,zA oM,zA oM,zA oM,zA oM];assumption)
theorem zCB.prs{a:List (Int × Int)}(h:zCB w b a)(c:a.length=n)(d:n<=cap)(e:cap<=9223372036854775807):zDE w (.slice (some ⟨b,0,none⟩) n cap) a:=⟨_,n,cap,rfl,c,d,e,fun _=>⟨b,rfl,h⟩⟩
def zF8(f g:Nat->Int × Int)(j:Nat):Nat->Int × Int:=fun t=>if t<j then f t else g t
theorem zLa(f g:Nat->Int × Int):(zAZ n (zF8 f g j)).set j (f j)=zAZ n (zF8 f g (j+1)):=by
 rw[zHW];refine zBL fun t _=>?_
 unfold zF8;by_cases a:t=j
 .rw[zC a,zC oM,a]
 rw[zA a];by_cases b:t<j
 .rw[zC b,zC oM]
 rw[zA b,zA oM]
theorem zNQ(b o n c:Nat)(zs:List Int)(f:Nat->Int)(E:Value)(d:Int)(w:World)(O:yY w b zs)(R:∀k,k<n->zs[o+k]?=some (f k))(hd:yA w E d)(G:d≠0)(z:e<=1000000)(K:d.natAbs<2^e)(L:∀k,k<n->(f k).natAbs<2^e)(hn:n<=1000000):
  Calls Tryz.prog 119 #[.slice (some ⟨b,o*2,none⟩) n c,E] w fun e w'=>∃g,e= .returned (.slice (some ⟨g,0,none⟩) n n)/\w.heap.size<=g/\zCB w' g (zAZ n fun k=>prQ (Rat.divInt (f k) d))/\Below w.heap.size w w':=by
 obtain⟨dn,da,dl,dc,rfl⟩:=hd.parts;have HR:=xgv O;have HZ:=xgv R;have X:=xgv hd;have a0:qS (∀(s t:Value) (k:Nat) (w:World),k<n->yA w s (f k)->yA w t d->Calls Tryz.prog 120 #[s,t] w fun e w'=>∃v,e= .returned (.tuple #[v,.int .i64 0])/\zAx w' v (Rat.divInt (f k) d)/\Below w.heap.size w w'):=⟨fun s t k w A U k2=>zQf s t (f k) d w U k2 (jX (L k A) z) (jX K z) G⟩;obtain⟨F,hF⟩:∃F:Nat->Int × Int,(fun k=>prQ (Rat.divInt (f k) d))=F:=⟨_,rfl⟩;have Z:qS (∀k,F k=prQ (Rat.divInt (f k) d)):=⟨fun k=>by rw[<-hF]⟩;rw[hF];have a8:=fun a4=>mkQ (n:Int) n rfl oM a4
 clear O R hd G z K L hF;go_enter Tryz.func119,Tryz.ntmps119;go_upto_region 1 with(fail)
 refine zE ?_;intro l I;obtain⟨H,h,a7⟩:=qL I;clear I;go_upto_region 2 with(fail)
 refine zE ?_;intro D u;have x:Below l.heap.size l D:=by rw[u.out];exact(zB _ _).alloc (xgf _) _
 have a:zCB D l.heap.size (zAZ n (zF8 F (fun _=>(0,0)) 0)):=by
  rw[u.out,show zAZ n (zF8 F (fun _=>(0,0)) 0)=zAZ n fun _=>(0,0) from zBL fun k _=>by unfold zF8;rw[zA oM]];exact zNU l n
 have j:=nx H x;have h:=h.I x;have q0:=H.size;clear u;obtain⟨g,M⟩:∃g,l.heap.size=g:=⟨_,rfl⟩;rw[M]at a q0 a7 ⊢
 clear M x;go_wp2;go_loopw [13] (fun C wr=>∃i:Nat,i<=n/\C= .int .i64 i/\Below w.heap.size w wr/\Blk wr w.heap.size 51 #[.bool dn,.slice da dl dc]/\zCB wr g (zAZ n (zF8 F (fun _=>(0,0)) i))) (fun C _=>n-(intOf C).toNat)
 case atStart=>exact⟨0,by omega,rfl,j,h,a⟩
 clear j h a;obtain⟨i,hi,rfl,j,h,a⟩:=hrel;by_cases r:i<n
 .have P:=HR.out.I j
  obtain⟨s1,a1,l1,U,V,W,-,-,Q⟩:=P.cell (HZ.out i r);have a3:=xgv Q;have Y:=xgv (X.out.ext (lx j));have N:(o+i)*2=o*2+i*2:=by omega
  rw[N]at V W;clear Q P N;go_upto_region 5 with(fail)
  refine zE ?_;intro W2 J;obtain⟨q,T7,a9⟩:=qL J;have h:=h.I q;have a:=a.I q;have j:=nx j q;obtain⟨c1,c2,c3,c4⟩:=T7.two;obtain⟨d1,d2,d3,d4⟩:=h.two;clear J V W;go_wp2_with fail
  refine(a0.out _ _ i W2 r (a3.out.ext (lx q)) (Y.out.ext (lx q))).mono ?_;rintro e' w3 ⟨rv,rfl,⟨s5,a5,l5,k5,s6,a6,l6,k6,rfl,S,T⟩,y⟩;have I5:=xgv S;have I6:=xgv T;have h:=h.I y;have a:=a.I y;have j:=nx j y;have b0:=a.lt;obtain⟨_,_,_,_,_,_,_,_,e1,e2,e3,e4,m,-⟩:=a.cell (zBP r);have e6:=m (i*4);have e7:=m (i*4+1);have e8:=m (i*4+2);have e9:=m (i*4+3);have B:=a.set (k:=i) (p:=prQ (Rat.divInt (f i) d)) (by rw[zU];exact r) I5.out I6.out;rw[<-Z.out,zLa]at B;have a2:=xgv B;clear S T B m c1 c2 c3 c4 d1 d2 d3 d4;go_wp2;go_roundw
  case rel=>exact⟨i+1,by omega,by simp,zA8 j oM _ _ _ _ _,(zFS _ _ _ _ _ _ _ _ oM).trans h,a2.out.1⟩
  case measure=>simp[intOf];omega
 obtain rfl:i=n:=by omega
 rw[show zAZ i (zF8 F (fun _=>(0,0)) i)=zAZ i F from zBL fun k A=>by unfold zF8;rw[zC A]]at a;go_wp2;go_ret;exact⟨g,rfl,by omega,a,j⟩
theorem zVZ(a:i<R)(b:j<C):i*C+j<R*C:=by
 have:(i+1)*C<=R*C:=zK _ a;rw[zS]at this;omega
theorem zRy(v:Value)(R C:Nat)(o:List Int)(w:World)(h:zEt w v o)(hl:o.length=R*C)(hR:R<=1000)(hC:C<=1000):
  CPq 15 #[niq R,niq C,v] w (zDW w R C (yV R C (fun i j=>o.getD (i*C+j) 0))):=by
 obtain⟨ao,n,cap,rfl,H,h3,h4,-,-⟩:=id h;have W:=xgw H;have N:n=R*C:=oM;have G:=xgw N;obtain⟨f,D⟩:∃f:Nat->Nat->Int,(fun i j=>o.getD (i*C+j) 0)=f:=⟨_,rfl⟩;rw[D];have V:qS (∀i j,f i j=o.getD (i*C+j) 0):=⟨fun i j=>by rw[<-D]⟩;clear D H hl N;go_enter Tryz.func15,Tryz.ntmps15;go_upto_region 1 with(fail)
 refine zE ?_;intro u J;obtain⟨I,c,b9⟩:=qL J;go_wp2_with fail
 refine(zDk R C u oM oM).mono ?_;rintro e U ⟨c3,x,rfl,⟨a0,A2,rfl,a⟩,A⟩;obtain⟨t,on,s,rfl,-,-,-,-⟩:=id a.rows;have a3:=a.lts;go_upto_region 2 with(fail)
 refine zE ?_;intro W3 K;obtain⟨y,d,c0⟩:=qL K;have c:=(c.I A).I y;have a:=a.I y;rw[zER R C f]at a;have Z:=nx (nx I A) y;have q2:=A.size;clear K J;go_wp2;go_loopw [8] (fun E wr=>∃i:Nat,i<=R/\E=niq i/\BWq w wr/\Blk wr w.heap.size 29 #[niq 0,niq 0,.slice none 0 0]/\Blk wr U.heap.size 29 #[niq R,niq C,.slice t on s]/\yH wr u.heap.size (.slice t on s) C x (yV R C (zEQ f i 0))) (fun E _=>R-(intOf E).toNat)
 case atStart=>exact⟨0,oM,rfl,Z,c,d,a⟩
 obtain⟨i,hi,rfl,l,c,d,a⟩:=hrel;by_cases M:i<R
 .go_wp2
  go_loopw [9] (fun F wr=>∃j:Nat,j<=C/\F=niq j/\BWq w wr/\Blk wr w.heap.size 29 #[niq 0,niq 0,.slice none 0 0]/\Blk wr U.heap.size 29 #[niq R,niq C,.slice t on s]/\yH wr u.heap.size (.slice t on s) C x (yV R C (zEQ f i j))) (fun F _=>C-(intOf F).toNat)
  case atStart=>exact⟨0,oM,rfl,l,c,d,a⟩
  obtain⟨j,hj,rfl,l,c,d,a⟩:=hrel;by_cases q:j<C
  .have b7:i*C+j<n:=by rw[G.out];exact zVZ M q
   have b8:n<=1000000:=by rw[G.out];exact zF (qP hR hC) oM
   obtain⟨m,r⟩:∃m,i*C+j=m:=⟨_,rfl⟩;have a4:(i:Int)*(C:Int)+(j:Int)=(m:Int):=by rw[<-r,zAa,yP]
   have a6:0<=(i:Int)*(C:Int):=oM;have a7:(i:Int)*(C:Int)<=1000000:=oM;have a8:IntKind.i64.wrap ((i:Int)*(C:Int))=(i:Int)*(C:Int):=yB _ oM;have a9:IntKind.i64.wrap (m:Int)=(m:Int):=yB _ oM;have a5:m<n:=oM;have a2:(i:Int)*(C:Int)+(j:Int)<(n:Int):=oM;obtain⟨b,z,rfl,b3,T,c1,z1,z2⟩:=(h.I l).cell (k:=m) (by rw[W.out];exact a5);have a1:Hid (f i j=z):=by rw[V.out,r,zD2 T];exact xgw rfl
   obtain⟨g,X,rfl,hg,B,b4,o1,O⟩:=a.at_ (i:=i) oM;have Y:=d.three;have b6:i<on:=oM;have b0:=xgw O;have HM:=xgw r;clear O r T;have c2:=d.lt;go_upto_region 8 with(fail)
   refine yD 16 [pcI 14 (z)] ?_;refine sRd ?_;refine sRc (fun wS hI Gk hG=>by go_simp;exact ck hG (zC2 z _ z1 z2)) (fun c4 _=>?_);refine sRd ?_;refine sRe ?_;intro w9 p L;obtain⟨pn,pa,pl,pc,px,rfl,Q⟩:=id L;have b2:=xgw Q;clear Q;have P:=a.I p;obtain⟨sn,sa,sl,sc,y1,y2,y3,y4,-⟩:=P.cellAt B q;have b5:=a3 i X B;have S:=P.set B q L;clear a8 a9 a4 a6 a7 a2;go_wp2;go_roundw
   case rel=>
    rw[<-a1.out,zGa M q]at S;exact⟨j+1,oM,by simp,yM (yM (nx l p) oM _ _) oM _ _,(yG _ _ _ _ _ _ _ oM).trans (c.I p),(yG _ _ _ _ _ _ _ oM).trans (d.I p),S.1⟩
   case measure=>exact meq
  obtain rfl:j=C:=oM;rw[zGZ]at a;go_wp2;go_roundw
  case rel=>exact⟨i+1,oM,by simp,l,c,d,a⟩
  case measure=>exact meq
 obtain rfl:i=R:=oM;rw[zGY]at a;have Y:=d.three;have r1:=c.three;have q1:=I.size;go_wp2;refine zAy rfl rfl rfl (c.put3 _ _ _) ⟨_,x,rfl,⟨a0,_,rfl,?_⟩,yM (yM (yM l oM 0 _) oM 1 _) oM 2 _⟩;exact(a.keep (fun k hk=>zBS _ _ k _ _ _ oM) (c.lext3 dE _ _ _)).mono q1
def I8V(w:World)(v:Value)(ls:List Int):Prop:=
 ∃ao n cap,v= .slice ao n cap/\ls.length=n/\n<=cap/\cap<=9223372036854775807/\(∀z∈ls,-128<=z/\z<=127)∧
  (ls≠ []->∃b off,ao=some ⟨b,off,none⟩/\b<w.heap.size/\∀(k:Nat) (z:Int),ls[k]?=some z->w.cell? ⟨b,off+k,none⟩=some (.int .i8 z))
theorem I8V.cell{c:Option Addr}(h:I8V w (.slice c n cap) ls)(d:k<ls.length):
  ∃b off z,c=some ⟨b,off,none⟩/\b<w.heap.size/\ls[k]?=some z/\w.cell? ⟨b,off+k,none⟩=some (.int .i8 z)/\-128<=z/\z<=127:=by
 obtain⟨o,v,p,g,s,t,u,i,j⟩:=h;injection g with f q r
 subst f;obtain⟨b,off,e,l,m⟩:=j (by rintro rfl;simp at d);have a:=xga d;have:=i _ (xgd a);exact⟨b,off,_,e,l,a,m _ _ a,this.1,this.2⟩
theorem I8V.I{w':World}(h:I8V w v ls)(a:BWq w w'):I8V w' v ls:=by
 obtain⟨f,n,cap,g,i,j,l,m,o⟩:=h;refine⟨f,n,cap,g,i,j,l,m,fun r=>?_⟩;obtain⟨b,d,e,c,q⟩:=o r;exact⟨b,d,e,zI c a.size,fun k z s=>(a.cell (p:=⟨b,d+k,none⟩) c).trans (q k z s)⟩
def zLd(C:Nat)(ls:List Int):Nat->Nat->Int:=fun i j=>(ls.getD (i*C+j) 0).tmod 10
theorem zRa(h:ls.length<=i*C+j):zLd C ls i j=0:=by
 unfold zLd;rw[xgb,List.getElem?_eq_none h];rfl
theorem zTY:(Int.tmod z 10).natAbs<=9:=by
 rcases Int.le_total 0 z with h|h
 rw[zBE h];omega;have:Int.tmod z 10=-(Int.tmod (-z) 10):=by rw[Int.neg_tmod];omega
 rw[this,zBE oM];omega
theorem zPU(C:Nat)(a:List Int)(i j:Nat):(zLd C a i j).natAbs<=9:=zTY
theorem zQ7{f:Nat->Nat->Int}(h:∀b,j<=b->f i b=0):yV R C (zEQ f i j)=yV R C (zEQ f (i+1) 0):=
 zAE fun a _ b _=>by
  unfold zEQ;by_cases e:a<i∨(a=i/\b<j)
  .rw[zC e,zC oM]
  rw[zA e];by_cases c:a<i+1∨a=i+1/\b<0
  .rw[zC c]
   obtain rfl:a=i:=oM;exact(h b oM).symm
  rw[zA c]
theorem zIx(v:Value)(R C:Nat)(u:List Int)(w:World)(h:I8V w v u)(hR:R<=16)(hC:C<=16):
  CPq 23 #[.int .i64 R,.int .i64 C,v] w (zDW w R C (yV R C (zLd C u))):=by
 obtain⟨ao,n,cap,rfl,V,h3,h4,-,-⟩:=id h;have S:=xgw V;obtain⟨f,G⟩:∃f:Nat->Nat->Int,zLd C u=f:=⟨_,rfl⟩;rw[G];have Q:qS (∀i j,f i j=zLd C u i j):=⟨fun i j=>by rw[<-G]⟩;clear G V;go_enter Tryz.func23,Tryz.ntmps23;go_upto_region 1 with(fail)
 refine zE ?_;intro A X;obtain⟨W,c,c5⟩:=qL X;have e1:min (R:Int) 16=R:=oM;have e2:min (C:Int) 16=C:=oM;go_wp2_with fail
 refine(zDk R C A oM oM).mono ?_;rintro e w2 ⟨c8,B,rfl,⟨b0,A2,rfl,a⟩,E⟩;obtain⟨y,on,x,rfl,-,-,-,-⟩:=id a.rows;have b4:=a.lts;go_upto_region 2 with(fail)
 refine zE ?_;intro W3 Y;obtain⟨D,d,c6⟩:=qL Y;have c:=(c.I E).I D;have a:=a.I D;rw[zER R C f]at a;have a9:=nx (nx W E) D;have q2:=E.size;clear Y X e1 e2;go_wp2;go_loopw [8] (fun N wr=>∃i:Nat,i<=R/\N= .int .i64 i/\BWq w wr/\Blk wr w.heap.size 29 #[.int .i64 0,.int .i64 0,.slice none 0 0]/\Blk wr w2.heap.size 29 #[.int .i64 R,.int .i64 C,.slice y on x]/\yH wr A.heap.size (.slice y on x) C B (yV R C (zEQ f i 0))) (fun N _=>R-(intOf N).toNat)
 case atStart=>exact⟨0,oM,rfl,a9,c,d,a⟩
 obtain⟨i,hi,rfl,l,c,d,a⟩:=hrel;have U:=d.three;by_cases b3:i<R
 .go_wp2
  clear U;go_loopw [9] (fun O wr=>∃j:Nat,j<=C/\O= .int .i64 j/\BWq w wr/\Blk wr w.heap.size 29 #[.int .i64 0,.int .i64 0,.slice none 0 0]/\Blk wr w2.heap.size 29 #[.int .i64 R,.int .i64 C,.slice y on x]/\yH wr A.heap.size (.slice y on x) C B (yV R C (zEQ f i j))) (fun O _=>C-(intOf O).toNat)
  case atStart=>exact⟨0,oM,rfl,l,c,d,a⟩
  obtain⟨j,hj,rfl,l,c,d,a⟩:=hrel;have U:=d.three;obtain⟨m,q⟩:∃m,i*C+j=m:=⟨_,rfl⟩;have s:(i:Int)*(C:Int)+(j:Int)=(m:Int):=by rw[<-q,zAa,yP]
  have a1:i*C<=16*16:=qP oM hC;have I:0<=(i:Int)*(C:Int):=by rw[<-yP];omega
  have J:(i:Int)*(C:Int)<=1000000:=by rw[<-yP];omega
  have a8:IntKind.i64.wrap ((i:Int)*(C:Int))=(i:Int)*(C:Int):=yB _ oM;have M:IntKind.i64.wrap (m:Int)=(m:Int):=yB _ oM;have a2:IntKind.i64.wrap ((i:Int)*(C:Int)+(j:Int))=(m:Int):=by rw[s,M]
  by_cases H:j<C
  .by_cases b5:m<n
   .obtain⟨b,b7,z,rfl,b2,hz,T,z1,z2⟩:=h.cell (k:=m) (by rw[S.out];exact b5)
    have c3:=(l.cell (p:=⟨b,b7+m,none⟩) b2).trans T;have a0:Hid (f i j=Int.tmod z 10):=xgw (by rw[Q.out];unfold zLd;rw[q,zD2 hz]);have a7:(Int.tmod z 10).natAbs<=9:=zTY;obtain⟨t,K⟩:∃t,Int.tmod z 10=t:=⟨_,rfl⟩;rw[K]at a0 a7;obtain⟨g,bo,rfl,hg,F,c0,o1,a3⟩:=a.at_ (i:=i) oM;have c4:i<on:=oM;have b8:=xgw a3;have HM:=xgw q;have HT:=xgv K;have c7:=d.lt;clear a3 q hz a1 T K;go_upto_region 8 with(fail)
    refine yD 19 [pcD 15 [] (fun _ v=>v= .int .i8 t),pcD 16 [] (fun _ v=>v= .int .i64 t),pcI 17 (t)] ?_;refine sRd ?_;refine sRc (fun wS hI P o=>?_) (fun _ L=>?_)
    .go_simp
     exact⟨o _ _ (congrArg (Value.int .i8) HT.out),zB _ _⟩
    obtain⟨_,-,rfl⟩:=L;refine sRc (fun wS hI P o=>?_) (fun _ L=>?_)
    .go_simp
     exact⟨o _ _ (congrArg (Value.int .i64) (yB _ oM)),zB _ _⟩
    obtain⟨_,-,rfl⟩:=L;refine sRc (fun wS hI P o=>by go_simp;exact ck o (zC2 t _ oM oM)) (fun c9 _=>?_);refine sRd ?_;refine sRe ?_;intro w9 r _ _ Z;obtain⟨pn,pa,pl,pc,px,rfl,a5⟩:=id Z;have b9:=xgw a5;clear a5;have a4:=a.I r;obtain⟨sn,sa,sl,sc,y1,y2,y3,y4,-⟩:=a4.cellAt F H;have c2:=b4 i bo F;have a6:=a4.set F H Z;clear a8 M s I J a2 a7;go_wp2;go_roundw
    case rel=>
     rw[<-a0.out,zGa b3 H]at a6;exact⟨j+1,oM,by simp,yM (yM (nx l r) oM _ _) oM _ _,(yG _ _ _ _ _ _ _ oM).trans (c.I r),(yG _ _ _ _ _ _ _ oM).trans (d.I r),a6.1⟩
    case measure=>exact meq
   have b6:∀b,j<=b->f i b=0:=fun b l=>by
    rw[Q.out];exact zRa (by rw[S.out];omega)
   rw[zQ7 b6]at a;clear s I J a1 q;go_wp2;go_roundw
   case rel=>exact⟨i+1,oM,by simp,l,c,d,a⟩
   case measure=>exact meq
  obtain rfl:j=C:=oM;rw[zGZ]at a;clear s I J a2 a8 M;go_wp2;go_roundw
  case rel=>exact⟨i+1,oM,by simp,l,c,d,a⟩
  case measure=>exact meq
 obtain rfl:i=R:=oM;rw[zGY]at a;have r1:=c.three;have q1:=W.size;go_wp2;refine zAy rfl rfl rfl (c.put3 _ _ _) ⟨_,B,rfl,⟨b0,_,rfl,?_⟩,yM (yM (yM l oM 0 _) oM 1 _) oM 2 _⟩;exact(a.keep (fun k hk=>zBS _ _ k _ _ _ oM) (c.lext3 dE _ _ _)).mono q1
theorem zMg(v:Value)(r c:Nat)(d:List Int)(w:World)(h:I8V w v d)(G:r<=255)(hc:c<=255)(R C:Nat)(q:R=r%5)(p:C=c%5):
  CPq 5 #[.agg #[.int .u8 r,.int .u8 c,v]] w (zDW w R C (yV R C (zLd C d))):=by
 obtain⟨z,n,cap,rfl,-,-,-,-,-⟩:=id h;go_enter Tryz.func5,Tryz.ntmps5;go_upto_region 1 with(fail)
 refine zE ?_;intro i s;obtain⟨b,l,a,H⟩:=jW s;have m:=l.three;have A:(r:Int)%5=(R:Int):=oM;have B:(c:Int)%5=(C:Int):=oM;have E:R<=4:=oM;have D:C<=4:=oM;clear q p;go_wp2_with fail
 refine(zIx _ R C d i (h.I b) oM oM).mono ?_;rintro e L ⟨u,j,rfl,⟨t,y,rfl,g⟩,f⟩;obtain⟨J,on,I,rfl,-,-,-,-⟩:=id g.rows;have a:=a.I f;have K:=a.three;have o:=nx b f;have x:=b.size;clear m;go_wp2;refine zAy rfl rfl rfl (a.put3 _ _ _) ⟨_,j,rfl,⟨t,_,rfl,?_⟩,yM (yM (yM o oM 0 _) oM 1 _) oM 2 _⟩;exact(g.keep (fun k F=>zBS _ _ k _ _ _ oM) (a.lext3 dE _ _ _)).mono x
theorem zQ8(d:i<R)(e:j<C):zQn (yV C R (fun a b=>zEQ g i j b a)) j i (g i j)=yV C R (fun a b=>zEQ g i (j+1) b a):=by
 rw[zFC _ e d];exact zAE fun a _ b _=>by
  unfold zEQ;by_cases h:a=j/\b=i
  .obtain⟨rfl,rfl⟩:=h
   rw[zC ⟨rfl,rfl⟩,zC oM]
  rw[zA h];by_cases c:b<i∨(b=i/\a<j)
  .rw[zC c,zC oM]
  rw[zA c,zA oM]
theorem zS4:yV C R (fun a b=>zEQ g i C b a)=yV C R (fun a b=>zEQ g (i+1) 0 b a):=
 zAE fun a c b d=>by
  unfold zEQ;by_cases h:b<i∨(b=i/\a<C)
  .rw[zC h,zC oM]
  rw[zA h,zA oM]
theorem zOu(R C:Nat)(g:Nat->Nat->Int):zCn C R=yV C R (fun a b=>zEQ g 0 0 b a):=by
 rw[zFW];exact zAE fun i _ j _=>by unfold zEQ;rw[zA oM]
theorem zS3:yV C R (fun a b=>zEQ g R 0 b a)=yV C R (fun a b=>g b a):=
 zAE fun a c b d=>by unfold zEQ;rw[zC oM]
theorem zIO(v:Value)(R C:Nat)(M:List (List Int))(w:World)(h:zAo w v R C M)(hF:zBe R C M)(hR:R<=1000000)(hC:C<=1000000):
  CPq 25 #[v] w (zDW w C R (yV C R (fun a b=>ent M b a))):=by
 obtain⟨a8,rfl,h⟩:=h;obtain⟨I,n,cap,rfl,B,e3,e4,-⟩:=id h;obtain rfl:R=n:=by rw[<-B,hF.1]
 have V:=xgv hF;obtain⟨f,E⟩:∃f:Nat->Nat->Int,ent M=f:=⟨_,rfl⟩;rw[E];have W:qS (∀a b,f a b=ent M a b):=⟨fun a b=>by rw[<-E]⟩;have X:=xgw B;clear E hF B;go_enter Tryz.func25,Tryz.ntmps25;go_upto_region 1 with(fail)
 refine zE ?_;intro y K;obtain⟨J,d,l,b7⟩:=jW K;have q:=d.three;go_wp2_with fail
 refine(zDk C R y oM oM).mono ?_;rintro e U ⟨c6,A,rfl,⟨a1,A2,rfl,c⟩,s⟩;obtain⟨x,on,u,rfl,-,-,-,-⟩:=id c.rows;have a4:=c.lts;go_upto_region 2 with(fail)
 refine zE ?_;intro W3 L;obtain⟨r,m,b8⟩:=qL L;have l:=(l.I s).I r;have d:=(d.I s).I r;have c:=c.I r;rw[zOu R C f]at c;have a0:=nx (nx J s) r;have q2:=s.size;clear L K q;go_wp2;go_loopw [4] (fun G wr=>∃i:Nat,i<=R/\G=niq i/\BWq w wr/\Blk wr w.heap.size 29 #[niq R,niq C,.slice I R cap]/\Blk wr (w.heap.size+1) 29 #[niq 0,niq 0,.slice none 0 0]/\Blk wr U.heap.size 29 #[niq C,niq R,.slice x on u]/\yH wr y.heap.size (.slice x on u) R A (yV C R (fun a b=>zEQ f i 0 b a))) (fun G _=>R-(intOf G).toNat)
 case atStart=>exact⟨0,oM,rfl,a0,d,l,m,c⟩
 obtain⟨i,hi,rfl,o,d,l,m,c⟩:=hrel;have q:=d.three;by_cases t:i<R
 .go_wp2
  clear q;go_loopw [5] (fun H wr=>∃j:Nat,j<=C/\H=niq j/\BWq w wr/\Blk wr w.heap.size 29 #[niq R,niq C,.slice I R cap]/\Blk wr (w.heap.size+1) 29 #[niq 0,niq 0,.slice none 0 0]/\Blk wr U.heap.size 29 #[niq C,niq R,.slice x on u]/\yH wr y.heap.size (.slice x on u) R A (yV C R (fun a b=>zEQ f i j b a))) (fun H _=>C-(intOf H).toNat)
  case atStart=>exact⟨0,oM,rfl,o,d,l,m,c⟩
  obtain⟨j,hj,rfl,o,d,l,m,c⟩:=hrel;have q:=d.three;by_cases a3:j<C
  .obtain⟨b,ra,rn,rc,zs,rfl,b3,F,p1,Q⟩:=(h.I o).row (k:=i) (by rw[X.out];exact t)
   have a6:=V.out.2 zs (xgd F);have b9:=Q.len;obtain rfl:rn=C:=oM;obtain⟨b',z,c5,a,c0,b0,rfl,b2,S,T,c4,a7⟩:=Q.cell (k:=j) oM;have a2:=xgw ((W.out i j).trans (zDL F S));clear F S a6;obtain⟨g,Y,rfl,hg,D,b4,o1,N⟩:=c.at_ (i:=j) oM;have Z:=m.three;have b6:j<on:=oM;have a9:=xgw N;clear N;have c2:=d.lt;have c3:=m.lt;go_upto_region 8 with(fail)
   refine yD 15 [] ?_;refine sRd ?_;refine sRf ?_;intro w9 p;have a5:=lx p;have O:=c.I p;obtain⟨sn,sa,sl,sc,z1,z2,z3,z4,-⟩:=O.cellAt D t;have b5:=a4 j Y D;have P:=O.set D t (a7.ext a5);go_wp2;go_roundw
   case rel=>
    rw[<-a2.out,zQ8 t a3]at P;exact⟨j+1,oM,by simp,yM (yM (nx o p) oM _ _) oM _ _,(yG _ _ _ _ _ _ _ oM).trans (d.I p),(yG _ _ _ _ _ _ _ oM).trans (l.I p),(yG _ _ _ _ _ _ _ oM).trans (m.I p),P.1⟩
   case measure=>exact meq
  obtain rfl:j=C:=oM;rw[zS4]at c;go_wp2;go_roundw
  case rel=>exact⟨i+1,oM,by simp,o,d,l,m,c⟩
  case measure=>exact meq
 obtain rfl:i=R:=oM;rw[zS3]at c;have Z:=m.three;have r1:=l.three;have T:=J.size;go_wp2;refine zAy rfl rfl rfl (l.put3 _ _ _) ⟨_,A,rfl,⟨a1,_,rfl,?_⟩,yM (yM (yM o oM 0 _) oM 1 _) oM 2 _⟩;exact(c.keep (fun k hk=>zBS _ _ k _ _ _ oM) (l.lext3 dE _ _ _)).mono T
theorem zGy(v:Value)(q:Rat)(w:World)(h:zAx w v q):Calls Tryz.prog 31 #[v] w fun e w'=>e= .returned (.int .i64 (zAB q.num 0))/\Below w.heap.size w w':=by
 obtain⟨G,o,E,C,H,p,F,D,rfl,b,f⟩:=h;dsimp only at b f;obtain⟨k,a⟩:∃k,zAB q.num 0=k:=⟨_,rfl⟩;rw[a];have g:qS (∀(v:Value) (w:World),yA w v q.num->Calls Tryz.prog 61 #[v] w fun e w'=>e= .returned (.int .i64 k)/\Below w.heap.size w w'):=⟨fun v w n=>a ▸ zDA v _ w n⟩;have i:=xgv b;clear b f a;go_enter Tryz.func31,Tryz.ntmps31;go_upto_region 1 with(fail)
 refine zE ?_;intro l d;obtain⟨c,j,B⟩:=qL d;obtain⟨r,s,t,u,x,y,z,A⟩:=j.four;clear d;go_wp2_with fail
 refine(g.out _ l (i.out.ext (lx c))).mono ?_;rintro e I ⟨rfl,m⟩;go_wp2;go_ret;exact⟨rfl,nx c m⟩
theorem zK4(v:Value)(q:Rat)(w:World)(h:zAx w v q)(s:HQ a q)(r:a<=1000000):Calls Tryz.prog 64 #[v] w (zBW w (-q)):=by
 obtain⟨s1,V,Y,X,R,D,P,O,rfl,f,g⟩:=h;dsimp only at f g;obtain⟨d,e⟩:∃z,q.num=z:=⟨_,rfl⟩;obtain⟨Q,m⟩:∃z:Int,(q.den:Int)=z:=⟨_,rfl⟩;have n:qS ((-q).num=-d/\((-q).den:Int)=Q):=⟨by rw[Rat.neg_num,e],by rw[Rat.neg_den,m]⟩;have B:qS (Sm d):=⟨e ▸ jX s.1 r⟩;rw[e]at f;rw[m]at g;have i:=xgv f;have b:=xgv g;clear f g e m s r;go_enter Tryz.func64,Tryz.ntmps64;go_upto_region 1 with(fail)
 refine zE ?_;intro U p;obtain⟨j,C,c,W⟩:=jW p;have i:=xgv (i.out.ext (lx j));have b:=xgv (b.out.ext (lx j));obtain⟨E,F,G,H,I,J,K,L⟩:=C.four;clear p;refine yD 5 [pcI 2 (-d)] ?_;refine sRd ?_;refine sRc (fun wS hI T N=>by go_simp;exact ck N (zE8 _ d _ (i.out.ext (lx hI.bel)).J B.out)) (fun a0 _=>?_);refine sRd ?_;refine sRe ?_;intro S l k;obtain⟨y,o,x,u,rfl⟩:=(show yA _ _ _ from k).parts;have A:qS (yA S (.agg #[.bool y,.slice o x u]) (-d)):=⟨k⟩;have b:=xgv (b.out.ext (lx l));have c:=c.I l;have M:=nx j l;obtain⟨Z,r2,r3,r4,r5,r6,r7,r8⟩:=c.four;clear k E F G H I J K L;go_wp2;have t:=c.lext4 dE 0 (.bool y) (.slice o x u) (.bool R) (.slice D P O);refine jQ rfl rfl rfl (c.put4 _ _ _ _) ?_ (zA8 M oM 0 _ _ _ _);rw[n.out.1,n.out.2];exact⟨_,_,_,_,_,_,_,_,rfl,A.out.ext t,b.out.ext t⟩
theorem zK5(c d:Value)(p q:Rat)(w:World)(m:zAx w c p)(n:zAx w d q)(u:HQ a p)(l:HQ b q)(s:a+b+1<=1000000):Calls Tryz.prog 33 #[c,d] w (zBW w (p-q)):=by
 have D:qS (∀(c d:Value) (w:World),zAx w c p->zAx w d (-q)->Calls Tryz.prog 63 #[c,d] w (zBW w (p-q))):=⟨fun c d w A B=>by
  rw[Rat.sub_eq_add_neg];exact zIL c d p (-q) w A B u l.neg s⟩
 have E:qS (∀(v:Value) (w:World),zAx w v q->Calls Tryz.prog 64 #[v] w (zBW w (-q))):=⟨fun v w k=>zK4 v q w k l oM⟩;have f:=xgv m;have g:=xgv n;obtain⟨s1,a1,l1,A,s2,a2,l2,B,rfl,-,-⟩:=m;obtain⟨s3,a3,l3,k3,s4,a4,l4,k4,rfl,-,-⟩:=n;clear u l s;go_enter Tryz.func33,Tryz.ntmps33;go_upto_region 1 with(fail)
 refine zE ?_;intro W0 o;obtain⟨h,H,I,e,a8⟩:=zBB o;have f:=xgv (f.out.I h);have g:=xgv (g.out.I h);obtain⟨L,M,N,O,P,Q,R,S⟩:=H.four;obtain⟨T,U,V,W,X,Y,Z,d8⟩:=I.four;clear o;have a0:=jK (-q);have a7:=jK (p-q);refine yD 4 [pcD 2 [] (fun w v=>zAx w v (-q)),pcD 3 [2] (fun w v=>zAx w v (p-q))] ?_;refine sRd ?_;refine sRc (fun wS hI C i=>by go_simp;exact ck i (E.out _ _ (g.out.I hI.bel))) (fun a9 _=>?_);refine sRc (fun wS hI j C i=>by go_simp;exact ck i (D.out _ _ _ (f.out.I hI.bel) j)) (fun b0 _=>?_);refine sRe ?_;intro w1 t j r;obtain⟨s5,J,l5,k5,s6,K,l6,k6,rfl,y,z⟩:=(show zAx _ _ _ from r);have F:=xgv y;have G:=xgv z;have e:=e.I t;have hB:=nx h t;obtain⟨r1,r2,r3,r4,r5,r6,r7,r8⟩:=e.four;clear y z L M N O P Q R S T U V W X Y Z d8 j r;go_wp2;have x:=e.lext4 dE 0 (.bool s5) (.slice J l5 k5) (.bool s6) (.slice K l6 k6);exact jQ rfl rfl rfl (e.put4 _ _ _ _) ⟨_,_,_,_,_,_,_,_,rfl,F.out.ext x,G.out.ext x⟩ (zA8 hB oM 0 _ _ _ _)
def zV6(q:Rat)(w:World)(v:Value):Prop:=∃u,v= .tuple #[u,.int .i64 0]/\zAx w u q
theorem zMF(q:Rat):zAA (zV6 q):=fun _ _ _ e ⟨u,a,b⟩=>⟨u,a,b.I e⟩
theorem zQT(c d:Value)(p q:Rat)(w:World)(h1:zAx w c p)(h2:zAx w d q)(j:HQ a p)(k:HQ b q)(a7:a+b+1<=1000000)(J:q≠0):Calls Tryz.prog 62 #[c,d] w fun e w'=>∃u,e= .returned (.tuple #[u,.int .i64 0])/\zAx w' u (p/q)/\Below w.heap.size w w':=by
 obtain⟨H,e2,e3,e4,I⟩:=HQ.ints j k;have N:((p.den:Int)).natAbs<2^a:=by rw[zQ];exact j.2
 have O:((q.den:Int)).natAbs<2^b:=by rw[zQ];exact k.2
 have r:qS (∀(c d:Value) (w:World),yA w c (p.num*q.den)->yA w d ((p.den:Int)*q.num)->Calls Tryz.prog 85 #[c,d] w fun e w'=>∃v,e= .returned v/\zV6 (p/q) w' v/\Below w.heap.size w w'):=⟨fun c d w T U=>by
  rw[zGl];refine(zNX c d _ _ w T U H I oM (Int.mul_ne_zero (zGC p) (zKs J))).mono ?_;rintro e wa ⟨u,rfl,hu,hb⟩;exact⟨_,rfl,⟨u,rfl,hu⟩,hb⟩⟩
 have f:=xgv (And.intro (jX j.1 oM) (And.intro (jX N oM) (And.intro (jX k.1 oM) (jX O oM))));obtain⟨s1,a1,l1,T,s2,a2,l2,U,rfl,l,m⟩:=h1;obtain⟨s3,a3,l3,k3,s4,a4,l4,k4,rfl,n,o⟩:=h2;dsimp only at l m n o;obtain⟨W,D⟩:∃z,p.num=z:=⟨_,rfl⟩;obtain⟨V,C⟩:∃z:Int,(p.den:Int)=z:=⟨_,rfl⟩;obtain⟨Z,F⟩:∃z,q.num=z:=⟨_,rfl⟩;obtain⟨Y,E⟩:∃z:Int,(q.den:Int)=z:=⟨_,rfl⟩;rw[D,F,C,E]at r f;rw[D]at l;rw[C]at m;rw[F]at n;rw[E]at o;obtain⟨X,P⟩:∃z,p/q=z:=⟨_,rfl⟩;rw[P]at r ⊢
 have s:=xgv l;have t:=xgv m;have x:=xgv n;have y:=xgv o;clear l m n o H e2 e3 e4 I N O j k D C F E P J a7;go_enter Tryz.func62,Tryz.ntmps62;go_upto_region 1 with(fail)
 refine zE ?_;intro W0 K;obtain⟨h,T1,T2,g,a9⟩:=zBB K;have s:=xgv (s.out.ext (lx h));have t:=xgv (t.out.ext (lx h));have x:=xgv (x.out.ext (lx h));have y:=xgv (y.out.ext (lx h));obtain⟨c1,c2,c3,c4,c5,c6,c7,c8⟩:=T1.four;obtain⟨d1,d2,d3,d4,d5,d6,d7,d8⟩:=T2.four;clear K;have a8:=zMF X;refine yD 13 [pcI 4 (W*Y),pcI 9 (V*Z),pcD 10 [4,9] (zV6 X)] ?_;refine sRd ?_;refine sRc (fun wS hI G i=>by go_simp;exact ck i (zB8 _ _ W Y _ (s.out.ext (lx hI.bel)) (y.out.ext (lx hI.bel)) f.out.1 f.out.2.2.2)) (fun b2 _=>?_);refine sRd ?_;refine sRc (fun wS hI G i=>by go_simp;exact ck i (zB8 _ _ V Z _ (t.out.ext (lx hI.bel)) (x.out.ext (lx hI.bel)) f.out.2.1 f.out.2.2.1)) (fun b3 _=>?_);refine sRc (fun wS hI A B G i=>by go_simp;exact ck i (r.out _ _ _ A B)) (fun b0 hv=>?_);obtain⟨_,-,u10,rfl,-⟩:=hv;refine sRd ?_;refine sRe ?_;intro w1 M A B L;obtain⟨_,a0,s5,a5,l5,k5,s6,a6,l6,k6,rfl,R,S⟩:=(show zV6 _ _ _ from L);cases a0;have I5:=xgv R;have I6:=xgv S;have g:=g.I M;have hB:=nx h M;obtain⟨r1,r2,r3,r4,r5,r6,r7,r8⟩:=g.four;clear R S c1 c2 c3 c4 c5 c6 c7 c8 d1 d2 d3 d4 d5 d6 d7 d8 A B L;go_wp2;have Q:=g.lext4 dE 0 (.bool s5) (.slice a5 l5 k5) (.bool s6) (.slice a6 l6 k6);exact bodyPost_ret (zEJ rfl _ rfl (g.put4 _ _ _ _) rfl) rfl ⟨_,rfl,⟨_,_,_,_,_,_,_,_,rfl,I5.out.ext Q,I6.out.ext Q⟩,zA8 hB oM 0 _ _ _ _⟩
theorem zFQ(d f:Value)(p q:Rat)(w:World)(A:zAx w d p)(B:zAx w f q)(G:HQ a p)(I:HQ b q)(E:a+b+1<=1000000)(y:q≠0):Calls Tryz.prog 32 #[d,f] w (zBW w (p/q)):=by
 have l:qS (∀(d f:Value) (w:World),zAx w d p->zAx w f q->Calls Tryz.prog 62 #[d,f] w fun e O=>∃u,e= .returned (.tuple #[u,.int .i64 0])/\zAx O u (p/q)/\Below w.heap.size w O):=⟨fun d f w M N=>zQT d f p q w M N G I E y⟩;have P:=xgv A;have Q:=xgv B;obtain⟨s1,a1,l1,M,s2,a2,l2,N,rfl,-,-⟩:=A;obtain⟨s3,a3,l3,k3,s4,a4,l4,k4,rfl,-,-⟩:=B;obtain⟨pq,H⟩:∃z,p/q=z:=⟨_,rfl⟩;rw[H]at l ⊢
 clear G I E y H;go_enter Tryz.func32,Tryz.ntmps32;go_upto_region 1 with(fail)
 refine zE ?_;intro U C;obtain⟨k,R,S,c,a0⟩:=zBB C;obtain⟨m,n,o,r,s,t,v,x⟩:=R.four;obtain⟨X,Y,Z,d4,d5,d6,d7,d8⟩:=S.four;clear C;go_wp2_with fail
 refine(l.out _ _ U (P.out.I k) (Q.out.I k)).mono ?_;rintro e w1 ⟨rv,rfl,⟨s5,V,l5,k5,s6,W,l6,k6,rfl,K,L⟩,F⟩;have h:=xgv K;have i:=xgv L;have c:=c.I F;have j:=nx k F;clear K L m n o r s t v x X Y Z d4 d5 d6 d7 d8;go_upto_region 2 with(fail)
 refine zE ?_;intro W2 D;obtain⟨g,T,a7⟩:=qL D;have c:=c.I g;have j:=nx j g;have h:=xgv (h.out.ext (lx g));have i:=xgv (i.out.ext (lx g));obtain⟨m,n,o,r,s,t,v,x⟩:=T.four;obtain⟨r1,r2,r3,r4,r5,r6,r7,r8⟩:=c.four;clear D;go_wp2;have J:=c.lext4 dE 0 (.bool s5) (.slice V l5 k5) (.bool s6) (.slice W l6 k6);exact jQ rfl rfl rfl (c.put4 _ _ _ _) ⟨_,_,_,_,_,_,_,_,rfl,h.out.ext J,i.out.ext J⟩ (zA8 j oM 0 _ _ _ _)
open Go.ChangeShapes Go.WideShapes Go.ChangeAt
theorem Tryz.own:ownKnob Tryz.prog.godebug=none:=by kernel_rfl
theorem Tryz.laidOut:laidOutB Tryz.prog=true:=by kernel_rfl
abbrev zDh:=@Tryz.laidOut
theorem zVO:Tryz.prog.cellsOf 5=1:=by kernel_rfl
theorem zQF{H:Type}{enc:TypeId × Value->H}{f:Nat}{cs:List Value}{y:DataW H × List MemPlace}(s:DataW.trod enc Tryz.prog w 0 (fun _=>true) true f 22 cs=some y)(A:∀x∈y.2,x.block<w.heap.size):
  ∃i n cap ls,cs= [.slice i n cap]/\I8V w (.slice i n cap) ls:=by
 rcases open_ints Tryz.underlying22 Tryz.underlying25 kR s with⟨d,-⟩|⟨a,g,cap,c,d,-,v,B,D,p,r,C⟩
 exact⟨none,0,0,[],d,none,0,0,rfl,rfl,xgf _,oM,fun z e=>(by cases e),fun h=>absurd rfl h⟩;simp only[if_true]at D;unfold maxLen at B;refine⟨some a,g,cap,c.take g,d,some a,g,cap,rfl,by simp;omega,v,oM,fun z e=>?_,fun h=>?_⟩
 .have:=C z (List.mem_of_mem_take e)
  exact bounds_i8 this
 have m:0<c.length:=by
  rcases qY c.length with h0|h0
  exact absurd (by rw[zY h0];simp) h;exact h0
 obtain⟨b,o,rfl,t⟩:=ints_at r m;refine⟨b,o,rfl,?_,fun k z u=>?_⟩;exact A (.cell b o) (by rw[p];exact MemPlace.mem_row.2 ⟨0,m,rfl⟩);obtain⟨q,j⟩:=xge.1 u;rw[List.getElem_take]at j;have l:k<c.length:=by
  simp at q;omega
 rw[t k l,<-j];simp[l]
theorem zSM{H:Type}{enc:TypeId × Value->H}{r:Reach}{d:DataW H}{y:List MemPlace}(u:Value.okWide Tryz.prog w r b0 24 v)
  (h:DataW.Trod enc Tryz.prog w 0 (fun _=>true) true 24 v d y) (F:∀x∈y,x.block<w.heap.size):∃(a b:Nat) (z:Value) (ls:List Int),v= .agg #[.int .u8 a,.int .u8 b,z]/\a<=255/\b<=255/\I8V w z ls:=by
 simp only[Value.okWide,Tryz.underlying24]at u;obtain⟨c,rfl,L,-⟩:=u;obtain⟨J,E⟩:=h;obtain⟨i,m,K,p,j,D,k⟩:=DataW.trod_struct Tryz.underlying24 E;have B:Tryz.prog.cellsOf 24=3:=by kernel_rfl
 have A:Tryz.prog.cellsOf 22=1:=by kernel_rfl
 have e:DataW.trod enc Tryz.prog w 0 (fun _=>true) true m 5 (List.take (Tryz.prog.cellsOf 5) (List.drop 0 (Value.agg c).cells.toList))=i[0]?:=k 0 _ rfl;have f:DataW.trod enc Tryz.prog w 0 (fun _=>true) true m 5 (List.take (Tryz.prog.cellsOf 5) (List.drop 1 (Value.agg c).cells.toList))=i[1]?:=k 1 _ rfl;have g:DataW.trod enc Tryz.prog w 0 (fun _=>true) true m 22 (List.take (Tryz.prog.cellsOf 22) (List.drop 2 (Value.agg c).cells.toList))=i[2]?:=k 2 _ rfl;rw[B]at j;rw[zVO]at e f;rw[A]at g;simp only[Value.cells]at e f g j;obtain⟨C⟩:=c;match i,D with
 | [P,Q,R],_=>
  match C,j with
  | [M,N,O],_=>
   simp at e f g;obtain⟨a,q,-,l⟩:=DataW.trod_int zCj e;obtain⟨b,s,-,o⟩:=DataW.trod_int zCj f;simp only[Prod.mk.injEq]at p;obtain⟨I,n,cap,ls,t,hI⟩:=zQF g (fun x G=>F x (by rw[p.2];simp[G]));simp at q s t;subst q;subst s;subst t;have l:=bounds_u8 l;have o:=bounds_u8 o;exact⟨a.toNat,b.toNat,_,ls,by rw[Int.toNat_of_nonneg l.1,Int.toNat_of_nonneg o.1],oM,oM,hI⟩
theorem zSL{H:Type}{enc:TypeId × Value->H}{r:Reach}{d:DataW H}{b:List MemPlace}(f:Value.okWide Tryz.prog w r b0 22 v)
  (h:DataW.Trod enc Tryz.prog w 0 (fun _=>true) true 22 v d b) (e:∀x∈b,x.block<w.heap.size):∃ls,I8V w v ls:=by
 obtain⟨g,l,j,rfl⟩:=okWide_slice Tryz.underlying22 f;obtain⟨k,c⟩:=h;obtain⟨i,n,cap,ls,a,hI⟩:=zQF c e;simp[Value.cells]at a;obtain⟨rfl,rfl,rfl⟩:=a;exact⟨ls,hI⟩
theorem zOL{H:Type}{enc:TypeId × Value->H}{r:Reach}{d:DataW H}{f:List MemPlace}(e:Value.okWide Tryz.prog w r b0 25 v)
  (h:DataW.Trod enc Tryz.prog w 0 (fun _=>true) true 25 v d f):∃n:Int,v= .int .i8 n/\-128<=n/\n<=127:=by
 obtain⟨z,rfl⟩:=okWide_int Tryz.underlying25 e;obtain⟨i,c⟩:=h;obtain⟨a,b,-,g⟩:=DataW.trod_int Tryz.underlying25 c;simp[Value.cells]at b;subst b;exact⟨z,rfl,bounds_i8 g⟩
end Go.Proofs.YtniiekppgdkknaaGreat
