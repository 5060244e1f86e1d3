/- Joined. -/
import Derived.Test.YtniiekppgdkknaaGreatM29
set_option linter.unusedVariables false
set_option linter.unusedSimpArgs false
set_option linter.unusedSectionVars false
set_option maxHeartbeats 16000000
set_option maxRecDepth 100000
variable{cs:Array Go.Value}{M:List (List Int)}{xs:List Nat}{C M0 N R b base cap e g h i j k lo m n r:Nat}{f y:Nat->Int}{c:Nat->Nat}{A H U V:Nat->Nat->Int}{ao o:Option Go.Addr}{T:Go.TypeId}{v:Go.Value}{w w' wr':Go.World}
namespace Go.Proofs.YtniiekppgdkknaaGreat
open Go.RowKit
theorem zLK(h:r<=n)(a:∀i,r<=i->i<n->f i=0):yZ n f=yZ r f:=by
 induction n with
 |zero=>
  obtain rfl:r=0:=by omega
  rfl
 | succ n c=>
  rcases zJ n r with g|g
  .obtain rfl:r=n+1:=by omega
   rfl
  show yZ n f+f n=_;rw[a n g oM,c g fun i b d=>a i b oM,jN]
theorem zD7.rowsr(h:zD7 R C r c A H U V):∀a,a<R->∃v:Nat->Int,∀j,j<C->A a j=yZ r fun t=>v t*H t j:=fun a f=>
 ⟨V a,fun j b=>by rw[h.back a f j b,zLK h.hnf.le fun i d e=>by rw[h.hnf.zero i d e j b,zZ]]⟩
theorem zD7.sol(h:zD7 R C r c A H U V)(k:∀b,b<C->zD3 C H y R b=0):zLu R C A y fun i=>yZ R fun t=>zDl C H y t*U t i:=fun j a=>by
 have f:=k j a;rw[zK7]at f;have l:(yZ R fun s=>-(zDl C H y s)*H s j)=-1*yZ R fun s=>zDl C H y s*H s j:=by
  rw[<-zBA];exact yF fun t _=>by rw[yQ,Int.neg_one_mul]
 have g:(yZ R fun i=>(yZ R fun t=>zDl C H y t*U t i)*A i j)=yZ R fun s=>zDl C H y s*H s j:=by
  have e:(yZ R fun i=>(yZ R fun t=>zDl C H y t*U t i)*A i j)=yZ R fun i=>yZ R fun t=>zDl C H y t*(U t i*A i j):=yF fun i m=>by
   rw[yN,<-zBA];exact yF fun t d=>by rw[yN,zBD]
  rw[e,zGW];exact yF fun t d=>by rw[zBA,h.mul t d j a]
 rw[g];omega
theorem zD7.nosol(h:zD7 R C r c A H U V)(k:¬ ∀b,b<C->zD3 C H y R b=0):¬ ∃z:Nat->Int,∀j,j<C->y j=yZ r fun t=>z t*H t j:=by
 rintro⟨z,g⟩;refine k (zQe h.hnf (z:=fun t=>if t<r then z t else 0) fun j a=>?_);rw[g j a,zLK h.hnf.le fun i d e=>by rw[h.hnf.zero i d e j a,zZ]];exact yF fun t f=>by rw[zC f]
theorem zLp.aggU{f:Value}{H U V:List (List Int)}(h:zLp w f R C H U V):∃j g d k i e p o n,f= .agg #[.int .i64 R,.int .i64 C,.slice j g d,.int .i64 R,.int .i64 R,.slice k i e,.int .i64 R,.int .i64 R,.slice p o n]∧
  zAo w (.agg #[.int .i64 R,.int .i64 C,.slice j g d]) R C H/\zAo w (.agg #[.int .i64 R,.int .i64 R,.slice k i e]) R R U:=by
 obtain⟨a,b,c,rfl,l,m,q⟩:=h.ex;obtain⟨j,g,d,rfl,-⟩:=id l;obtain⟨k,i,e,rfl,-⟩:=id m;obtain⟨p,o,n,rfl,-⟩:=id q;exact⟨_,_,_,_,_,_,_,_,_,rfl,⟨_,rfl,l⟩,⟨_,rfl,m⟩⟩
theorem zNh{B:Nat}(h:∀i,i<n->(f i).natAbs<=B):(yZ n f).natAbs<=n*B:=by
 induction n with
 |zero=>simp[yZ]
 |succ n a=>
  have b:=a fun i d=>h i oM
  have c:=h n oM;show(yZ n f+f n).natAbs<=_;rw[zS,yU];omega
theorem zSJ(g:Hnf C n r c H)(l:n<=4)(f:leM 644972544 n C H){x:Nat->Int}(j:∀b,b<C->(x b).natAbs<=1500000):zW1 BD n C H x:=by
 have h:∀i,i<=5->1500000*(1+644972544)^i<BD:=fun i d=>zIE (zF (qA _ (zX oM d)) dE)
 refine⟨fun a k b e=>zM (f a k b e) (zIE dE),fun i d b e=>zM (zQa g f j i d b e) (h i oM),fun i d=>⟨zM (zMi g f j d) (h i oM),fun b e=>zM ?_ (h (i+1) oM)⟩⟩;rw[qT,qO];refine zF (qP (zMi g f j d) (f i d b e)) ?_;rw[qE,<-zN];exact qA _ oM
theorem zLI(v:1<=M0)(u:2*M0<=2^5){A:List (List Int)}(h:zD7 R C r c (ent A) H U V)(J:R<=4)(s:leM 644972544 R C H)(w:leM (gk 40 M0) R R U)(E:∀b,b<C->(y b).natAbs<=1500000):
  ∀i,i<R->∀n,n<=R->(yZ n fun t=>zDl C H y t*U t i).natAbs<2^(6*E40)/\∀t,t<R->(zDl C H y t).natAbs<2^140/\(U t i).natAbs<2^(6*E40)/\(zDl C H y t*U t i).natAbs<2^(6*E40):=by
 have l:∀t,t<R->(zDl C H y t).natAbs<=2^110:=fun t a=>by
  refine zF (zMi h.hnf s E a) (zF (qA _ (zX oM (show t<=3 by omega))) dE)
 have k:=zVX (e:=5) (M0:=M0) (xgf 40) v u;have I:=zJU;have d:2^112*2^(5*E40)<=2^(6*E40):=by
  rw[<-zAS];exact zX oM oM
 obtain⟨g,x⟩:∃g,2^(5*E40)=g:=⟨_,rfl⟩;obtain⟨B,q⟩:∃g,2^(6*E40)=g:=⟨_,rfl⟩;rw[x]at k d;rw[q]at d ⊢
 have o:(2:Nat)^112=4*2^110:=by decide
 have p:(2:Nat)^110<2^140:=by decide
 intro i z n N;have m:∀t,t<R->(U t i).natAbs<g:=fun t a=>zM (w t a i z) k
 have j:∀t,t<R->(zDl C H y t*U t i).natAbs<=2^110*(g-1):=fun t a=>by
  rw[qT];exact qP (l t a) (by have:=m t a;omega)
 have L:1<=g:=by omega
 have D:4*(2^110*(g-1))<B:=by
  rw[o,zN]at d;have:2^110*(g-1)<2^110*g:=Nat.mul_lt_mul_of_pos_left oM dE;omega
 have M:g<=B:=zF (jF _ dE) d;obtain⟨K,hK⟩:∃K,2^110*(g-1)=K:=⟨_,rfl⟩;rw[hK]at j D;refine⟨?_,fun t a=>⟨zM (l t a) p,by have:=m t a;omega,by have:=j t a;omega⟩⟩;have F:=zNh (n:=n) (f:=fun t=>zDl C H y t*U t i) fun t a=>j t oM
 have G:n*K<=4*K:=zK _ oM;omega
theorem zPG{z:Int}(h:z.natAbs<2^(6*E40)):Sm z:=zNm (zI h (by
 rw[zO5]
 exact zFP (by have:=zJU;rw[zCp];omega)))
def zKR(R C:Nat)(A:Nat->Nat->Int)(y:Nat->Int)(w:World)(u:Value):Prop:=
 (∃xv x,u= .agg #[.bool true,xv,.slice none 0 0]/\zAR w xv (qQ R x)/\zLu R C A y x/\∀i,i<R->(x i).natAbs<2^(6*E40))∨
 (∃yv q,u= .agg #[.bool false,.slice none 0 0,yv]/\zDE w yv (zAZ C fun t=>prQ (q t))/\zRM R C A y q/\∀t,t<C->HQ 170 (q t))
theorem zNc(q:Nat->Int)(U:Nat->Nat->Int)(a:j<C):∀n,n<=R->n<=m->zFm (qQ m q) (yV R C U) n j=yZ n fun t=>q t*U t j:=by
 intro n;induction n with
 |zero=>intro _ _;rfl
 |succ n b=>
  intro c d;rw[zGT,b oM oM,zA9 oM a];show _+(qQ m q).getD n 0*_=_+_;rw[xgb,qU oM];rfl
theorem zQw(k:1<=M0)(i:2*M0<=2^5){A:List (List Int)}(h:zD7 R C r c (ent A) H U V)(l:R<=4)(g:leM 644972544 R C H)(m:leM (gk 40 M0) R R U)(n:∀b,b<C->(y b).natAbs<=1500000):
  zGi (qQ R (zDl C H y)) (yV R R U) R R:=by
 intro j d t e;have f:=zLI k i h l g m n j d t oM;have a:=f.2 t e;rw[xgb,qU e,zA9 e d,zNc _ _ d t oM oM];exact⟨zNm (zIE (zAc (zI a.1 dE))),zPG a.2.1,zPG a.2.2,zPG f.1⟩
theorem zKR.I{u:Value}(h:zKR R C A y w u)(c:Below w.heap.size w w'):zKR R C A y w' u:=by
 rcases h with⟨d,x,e,a,b⟩|⟨f,q,e,a,b⟩
 exact .inl ⟨d,x,e,a.I c,b⟩;exact .inr ⟨f,q,e,a.I c,b⟩
theorem Tryz.sizeSo:(Tryz.prog.info? 44).map (·.size)=some 3:=by kernel_rfl
theorem zMq{v:Array Value}(b:Blk w r 44 v)(a:v.size=3):(loadVar 44 ⟨r,0,none⟩).run Tryz.prog w= .ok (.agg v) w:=
 run_loadVar_row w r _ _ v _ _ b Tryz.underlying44 rfl (by rw[Tryz.sizeSo,a])
theorem zG0{fn:Func}{p u:Tmp}(h:fn.results=#[.cell p 44,.tmp u])(tmps:Array Value){W:World}{r:Nat}{v:Array Value}
  (c:tmps.getD p undef= .pointer (some ⟨r,0,none⟩)) (b:Blk W r 44 v) (a:v.size=3):
  (results fn tmps).run Tryz.prog W= .ok (.tuple #[.agg v,tmps.getD u undef]) W:=by
 have d:tmps[p]?.getD undef= .pointer (some ⟨r,0,none⟩):=by simpa using c
 simp[results,h,d,asAddr,zMq b a]
theorem zDE.off3{f:List (Int × Int)}(h:zDE w v f)(c:Blk w b T cs)(o:¬ T=tQ)(p:T≠tU)(x y z:Value):zDE (((w.setCell ⟨b,0,none⟩ x).setCell ⟨b,1,none⟩ y).setCell ⟨b,2,none⟩ z) v f:=by
 obtain⟨ao,n,cap,i,j,k,l,m⟩:=h;refine⟨ao,n,cap,i,j,k,l,fun q=>?_⟩;obtain⟨g,e,d⟩:=m q;refine⟨g,e,d.old (zBS _ _ _ _ _ _ ?_) (c.lext3 p _ _ _)⟩;rintro rfl;obtain⟨r,a,-⟩:=d;rw[c]at a;injection a with a
 injection a with _ a
 exact o a
theorem zAR.off3{zs:List Int}(h:zAR w v zs)(a:Blk w b T cs)(c:¬ T=tI)(d:T≠tU)(x y z:Value):zAR (((w.setCell ⟨b,0,none⟩ x).setCell ⟨b,1,none⟩ y).setCell ⟨b,2,none⟩ z) v zs:=
 h.gone a c (fun k f e=>zBS _ _ _ _ _ _ e) (a.lext3 d _ _ _)
theorem zD7.atG(h:zD7 R C r c A H U V):zD7 R C r c A (ent (yV R C H)) U V:=
 ⟨h.hnf.congr fun a e b d=>(zA9 e d).symm,fun a e b d=>by rw[zA9 e d];exact h.mul a e b d,h.inv,fun a e b d=>by
  rw[h.back a e b d];exact yF fun t f=>by rw[zA9 f d]⟩
theorem zH0(a4:1<=M0)(a3:2*M0<=2^5)(v bv:Value)(R C:Nat)(M:List (List Int))(y:Nat->Int)(w:World)(hm:zAo w v R C M)(hF:zBe R C M)(hb:zAR w bv (qQ C y))(X:R<=4)(hC:C<=4)(hA:leM M0 R C (ent M))(b3:∀r c H U V,zD7 R C r c (ent M) H U V->leM 644972544 R C H)(hy:∀j,j<C->(y j).natAbs<=1500000):
  Calls Tryz.prog 10 #[v,bv] w fun e w'=>∃u,e= .returned (.tuple #[u,.int .i64 0])/\zKR R C (ent M) y w' u/\Below w.heap.size w w':=by
 obtain⟨Av,rfl,c9⟩:=id hm;obtain⟨ao,n,h0,rfl,e2,e3,e4,-⟩:=id c9;obtain rfl:R=n:=by rw[<-e2,hF.1]
 obtain⟨bo,bn,bc,rfl,f2,f3,f4,-⟩:=id hb;obtain rfl:C=bn:=by rw[<-f2,zO]
 have g6:decide (zAq R C M)=true:=zT hF.valid;have HM:=xgv hm;have HB:=xgv hb;have HF:=xgv hF;have HA:=xgv hA;have HY:=xgv hy;have e5:=xgv b3;clear hm c9 hb hF hA hy b3 e2 f2;go_enter Tryz.func10,Tryz.ntmps10;go_upto_region 1 with(fail)
 refine zE ?_;intro W0 b5;obtain⟨b2,W,b,h1⟩:=jW b5;obtain⟨c1,c2,c3,c4,c5,c6⟩:=W.three;clear b5;go_wp2_with fail
 refine(zBM _ R C M W0 (HM.out.I b2)).mono ?_;rintro e w1 ⟨rfl,a5⟩;rw[g6];have W:=W.I a5;have b:=b.I a5;have d:=nx b2 a5;clear c1 c2 c3 c4 c5 c6;obtain⟨c1,c2,c3,c4,c5,c6⟩:=W.three;go_wp2_with fail
 refine(zME (M0:=M0) (e:=5) a4 a3 dE _ M R C w1 (HM.out.I d) HF.out X hC HA.out).mono ?_;rintro e w3 ⟨fv,r,c,H,U,V,rfl,k,p,hU,hV,hv,b7⟩;obtain⟨f1,f2,f3,f4,f5,f6,f7,f8,f9,rfl,a7,c0⟩:=hv.aggU;have b:=b.I b7;have d:=nx d b7;have k:=k.atG;have p:leM 644972544 R C (ent (yV R C H)):=e5.out _ _ _ _ _ k;have a6:=zB7 R C H;obtain⟨f,b4⟩:∃f,yV R C H=f:=⟨_,rfl⟩;rw[b4]at k p a6 a7;have c7:=zSJ k.hnf X p HY.out;have e0:=zQw a4 a3 k X p hU HY.out;have d9:∀i,i<R->(yZ R fun t=>zDl C (ent f) y t*U t i).natAbs<2^(6*E40):=fun i hi=>(zLI a4 a3 k X p hU HY.out i hi R (xgf _)).1
 have a0:=xgv k;have e7:=xgv p;have b0:=xgv a6;have e9:=xgv c7;have g3:=xgv e0;have g2:=xgv d9;have l:=xgv a7;have m:=xgv c0;clear c1 c2 c3 c4 c5 c6 W k p hU hV hv a7 c0 b4 a6 c7 e0 d9;go_upto_region 4 with(fail)
 refine zE ?_;intro W5 b6;obtain⟨a1,o,h2⟩:=qL b6;have b:=b.I a1;have d:=nx d a1;have l:=xgv (l.out.I a1);have m:=xgv (m.out.I a1);have HB:=xgv (HB.out.I d);clear b6;obtain⟨⟨x,z,A,B,D,E,F,G,I⟩,⟨J,K,L,N,O,P,Q,S,T⟩⟩:=o.all9;go_wp2_with fail
 refine(zKl zO4 _ _ R C f y W5 l.out b0.out HB.out oM oM e9.out (by have:=zIE (a:=0) dE;exact this)).mono ?_;rintro e w7 ⟨qv,rv,rfl,c8,d0,s⟩;have b:=b.I s;have o:=o.I s;have d:=nx d s;have l:=xgv (l.out.I s);have m:=xgv (m.out.I s);have HB:=xgv (HB.out.I s);have a2:=xgv c8;clear x z A B D E F G I J K L N O P Q S T c8;obtain⟨⟨x,z,A,B,D,E,F,G,I⟩,⟨J,K,L,N,O,P,Q,S,T⟩⟩:=o.all9;have Z:∃zb:Bool,zb=true↔∀t,t<C->zD3 C (ent f) y R t=0:=by
  by_cases g:∀t,t<C->zD3 C (ent f) y R t=0
  .exact⟨true,⟨fun _=>g,fun _=>rfl⟩⟩
  exact⟨false,⟨fun h=>absurd h dE,fun h=>absurd h g⟩⟩
 obtain⟨zb,Z⟩:=Z;go_wp2_with fail
 refine(zQA _ C _ w7 d0 zb Z).mono ?_;rintro e w8 ⟨rfl,q⟩;have b:=b.I q;have o:=o.I q;have d:=nx d q;have l:=xgv (l.out.I q);have m:=xgv (m.out.I q);have HB:=xgv (HB.out.I q);have a2:=xgv (a2.out.I q);have HZ:=xgv Z;clear x z A B D E F G I J K L N O P Q S T d0 Z;obtain⟨⟨x,z,A,B,D,E,F,G,I⟩,⟨J,K,L,N,O,P,Q,S,T⟩⟩:=o.all9;have h4:=b.lt;have q8:=d.size;obtain⟨d1,d2,d3,d4,d5,d6⟩:=b.three;cases zb
 .have a8:=a0.out.nosol (y:=y) (fun g=>by have:=HZ.out.2 g;cases this)
  have g5:1<=C:=by
   rcases qY C with g|g
   exact absurd ⟨fun _=>0,fun j hj=>by omega⟩ a8;exact g
  have e8:=xgv a8;clear a8;go_wp2_with fail
  have b9:yV R C (ent f)=f:=(zPf b0.out).symm;refine(zOW (H0:=644972544) _ _ R R C r c (ent f) (ent M) y w8 (by rw[b9];exact l.out) a0.out.hnf HB.out X g5 oM dE dE e7.out (fun j hj=>by have:=HY.out j hj;omega) a0.out.rowsr e8.out).mono ?_;rintro e w9 ⟨v9,g9,rfl,hp,d7,b8,Y⟩;obtain⟨po,pn,pc,rfl,-⟩:=id hp;have b:=b.I Y;have d:=nx d Y;have HP:=xgv hp;have f0:=xgv d7;have e6:=xgv b8;clear x z A B D E F G I J K L N O P Q S T d1 d2 d3 d4 d5 d6 hp d7 b8 b9;obtain⟨d1,d2,d3,d4,d5,d6⟩:=b.three;go_wp2;refine bodyPost_ret (zG0 rfl _ rfl (b.put3 _ _ _) rfl) rfl ⟨_,rfl,.inr ⟨_,g9,rfl,HP.out.off3 b dE dE _ _ _,f0.out,e6.out⟩,yM (yM (yM d oM 0 _) oM 1 _) oM 2 _⟩
 have d8:=a0.out.sol (y:=y) (HZ.out.1 rfl);have g1:=xgv d8;clear d8;go_wp2_with fail
 refine(zJB _ _ (qQ R (zDl C (ent f) y)) (yV R R U) R R w8 a2.out m.out (zO _ _) (zB7 _ _ _) oM oM g3.out).mono ?_;rintro e w9 ⟨v9,rfl,g7,Y⟩;obtain⟨xg,rfl,h3,a9⟩:=g7;have b:=b.I Y;have d:=nx d Y;have e1:qQ R (zFm (qQ R (zDl C (ent f) y)) (yV R R U) R)=qQ R fun i=>yZ R fun t=>zDl C (ent f) y t*U t i:=qZ fun i hi=>zNc _ _ hi R (xgf _) (xgf _)
 rw[e1]at a9;have g4:=xgv a9;clear x z A B D E F G I J K L N O P Q S T d1 d2 d3 d4 d5 d6 a9 e1;obtain⟨d1,d2,d3,d4,d5,d6⟩:=b.three;go_wp2;have g8:zAR w9 (.slice (some ⟨xg,0,none⟩) R R) (qQ R fun i=>yZ R fun t=>zDl C (ent f) y t*U t i):=g4.out.vec (zO _ _) (xgf _) oM;refine bodyPost_ret (zG0 rfl _ rfl (b.put3 _ _ _) rfl) rfl ⟨_,rfl,.inl ⟨_,_,rfl,g8.off3 b dE dE _ _ _,g1.out,g2.out⟩,yM (yM (yM d oM 0 _) oM 1 _) oM 2 _⟩
theorem zIw(h:1<=M0)(g:2*M0<=2^5)(v a:Value)(R C:Nat)(M:List (List Int))(y:Nat->Int)(w:World)(m:zAo w v R C M)(hF:zBe R C M)(k:zAR w a (qQ C y))(i:R<=4)(d:C<=4)(b:leM M0 R C (ent M))(f:∀r c H U V,zD7 R C r c (ent M) H U V->leM 644972544 R C H)(n:∀j,j<C->(y j).natAbs<=1000000):
  Calls Tryz.prog 10 #[v,a] w fun e w'=>∃u,e= .returned (.tuple #[u,.int .i64 0])/\zKR R C (ent M) y w' u/\Below w.heap.size w w':=
 zH0 h g v a R C M y w m hF k i d b f fun j l=>zF (n j l) dE
theorem zN1(v a:Value)(R C:Nat)(M:List (List Int))(y:Nat->Int)(w:World)(i:zAo w v R C M)(hF:zBe R C M)(g:zAR w a (qQ C y))(d:R<=4)(f:C<=4)(b:leM 9 R C (ent M))(k:∀j,j<C->(y j).natAbs<=1500000):
  Calls Tryz.prog 10 #[v,a] w fun e w'=>∃u,e= .returned (.tuple #[u,.int .i64 0])/\zKR R C (ent M) y w' u/\Below w.heap.size w w':=
 zH0 (M0:=9) dE dE v a R C M y w i hF g d f b (fun r c H U V h=>h.bound d dE b) k
theorem zNz(v a:Value)(R C:Nat)(M:List (List Int))(y:Nat->Int)(w:World)(i:zAo w v R C M)(hF:zBe R C M)(g:zAR w a (qQ C y))(d:R<=4)(f:C<=4)(b:leM 9 R C (ent M))(k:∀j,j<C->(y j).natAbs<=1000000):
  Calls Tryz.prog 10 #[v,a] w fun e w'=>∃u,e= .returned (.tuple #[u,.int .i64 0])/\zKR R C (ent M) y w' u/\Below w.heap.size w w':=
 zIw (M0:=9) dE dE v a R C M y w i hF g d f b (fun r c H U V h=>h.bound d dE b) k
theorem zOv(v:Value)(z:Int)(w:World)(h:yA w v z):Calls Tryz.prog 93 #[v] w fun e w'=>e= .returned (.bool false)/\Below w.heap.size w w':=by
 obtain⟨p,g,o,n,rfl⟩:=h.parts;have H:=xgv h;clear h;go_enter Tryz.func93,Tryz.ntmps93;go_upto_region 1 with(fail)
 refine zE ?_;intro d b;obtain⟨a,c,m⟩:=qL b;obtain⟨i,j,k,l⟩:=c.two;clear b;go_wp2_with fail
 refine(zGc _ z d (H.out.ext (lx a))).mono ?_;rintro e q ⟨rfl,f⟩;go_wp2;go_ret;exact⟨rfl,nx a f⟩
theorem zRu(v:Value)(zs:List Int)(w:World)(h:zAR w v zs):
  Calls Tryz.prog 128 #[v,.func (.func 93) #[] #[]] w fun e w'=>e= .returned (.int .i64 (-1))/\Below w.heap.size w w':=by
 obtain⟨ao,n,cap,rfl,g,u,x,-⟩:=id h;have m:=xgv g;have H:=xgv h;clear h g;go_enter Tryz.func128,Tryz.ntmps128;go_wp2;go_loopw [8] (fun f wr=>∃i:Nat,i<=n/\f= .int .i64 i/\Below w.heap.size w wr) (fun f _=>n-(intOf f).toNat)
 case atStart=>exact⟨0,by omega,rfl,zB _ _⟩
 obtain⟨i,A,rfl,d⟩:=hrel;by_cases q:i<n
 .obtain⟨b,z,s,a,l,c,rfl,y,-,r,t,j⟩:=(H.out.I d).cell (k:=i) (by rw[m.out];exact q)
  have o:=xgv j;clear j;go_wp2_with fail
  refine(zOv _ z wr o.out).mono ?_;rintro e B ⟨rfl,p⟩;go_wp2;go_roundw
  case rel=>exact⟨i+1,by omega,by simp,nx d p⟩
  case measure=>simp[intOf];omega
 obtain rfl:i=n:=by omega
 go_wp2;go_ret;exact⟨rfl,d⟩
theorem zPR(v:Value)(zs:List Int)(w:World)(h:zAR w v zs):
  Calls Tryz.prog 92 #[v,.func (.func 93) #[] #[]] w fun e w'=>e= .returned (.bool false)/\Below w.heap.size w w':=by
 obtain⟨ao,n,cap,rfl,a,c,d,-⟩:=id h;have H:=xgv h;clear h a;go_enter Tryz.func92,Tryz.ntmps92;go_wp2_with fail
 refine(zRu _ zs w H.out).mono ?_;rintro e f ⟨rfl,b⟩;go_wp2;go_ret;exact⟨rfl,b⟩
theorem zC9(v:Value)(zs:List Int)(w:World)(h:zAR w v zs):Calls Tryz.prog 53 #[v] w fun e w'=>e= .returned (.bool true)/\Below w.heap.size w w':=by
 obtain⟨ao,n,cap,rfl,a,c,d,-⟩:=id h;have H:=xgv h;clear h a;go_enter Tryz.func53,Tryz.ntmps53;go_wp2_with fail
 refine(zPR _ zs w H.out).mono ?_;rintro e f ⟨rfl,b⟩;go_wp2;go_ret;exact⟨rfl,b⟩
theorem zK8(v:Value)(p:Int × Int)(w:World)(h:zCR w v p)(n:Sm p.1)(o:Sm p.2):Calls Tryz.prog 98 #[v] w fun e w'=>∃u,e= .returned u/\u= .bool (!zKI p)/\Below w.heap.size w w':=by
 have H:=xgv h;obtain⟨J,q,G,E,K,r,I,F,rfl,l,m⟩:=id h;obtain⟨b,a⟩:∃b,zKI p=b:=⟨_,rfl⟩;have f:qS (∀(v:Value) (w:World),zCR w v p->Calls Tryz.prog 99 #[v] w fun e w'=>∃u,e= .returned u/\u= .bool b/\Below w.heap.size w w'):=⟨fun v w k=>a ▸ zOX v p w k n o⟩;rw[a];clear h l m a;go_enter Tryz.func98,Tryz.ntmps98;go_upto_region 1 with(fail)
 refine zE ?_;intro i d;obtain⟨c,g,D⟩:=qL d;obtain⟨s,t,x,y,z,A,B,C⟩:=g.four;clear d;go_wp2_with fail
 refine(f.out _ i (H.out.I c)).mono ?_;rintro e L ⟨u,rfl,rfl,j⟩;go_wp2;go_ret;exact⟨_,rfl,rfl,nx c j⟩
theorem zRv(v:Value)(a:List (Int × Int))(w:World)(h:zDE w v a)(s:∀p∈a,Sm p.1/\Sm p.2):
  Calls Tryz.prog 79 #[v,.func (.func 98) #[] #[]] w fun e w'=>∃k:Int,e= .returned (.int .i64 k)/\((k=-1/\zGH a=true)∨(0<=k/\zGH a=false))/\Below w.heap.size w w':=by
 obtain⟨ao,n,cap,rfl,q,M,N,-⟩:=id h;have l:=xgv q;have H:=xgv h;have z:=xgv s;clear h q s;go_enter Tryz.func79,Tryz.ntmps79;go_wp2;go_loopw [8] (fun j wr=>∃i:Nat,i<=n/\j= .int .i64 i/\Below w.heap.size w wr/\qS (zGH (a.take i)=true)) (fun j _=>n-(intOf j).toNat)
 case atStart=>exact⟨0,by omega,rfl,zB _ _,⟨rfl⟩⟩
 obtain⟨i,P,rfl,c,t⟩:=hrel;by_cases D:i<n
 .obtain⟨b,p,K,B,I,F,L,C,J,G,rfl,O,g,Q,R,S,T,x,y⟩:=(H.out.I c).cell (k:=i) (by rw[l.out];exact D)
  have A:qS (zCR wr (.agg #[.bool K,.slice B I F,.bool L,.slice C J G]) p):=⟨⟨_,_,_,_,_,_,_,_,rfl,x,y⟩⟩;have m:=xgv g;have o:=xgv (z.out p (xgd g));clear x y g;go_wp2_with fail
  refine(zK8 _ p wr A.out o.out.1 o.out.2).mono ?_;rintro e U ⟨u,rfl,rfl,r⟩;cases d:zKI p with
  |true=>
   have E:=xgv (zKq t.out m.out d);clear d;go_wp2;go_roundw
   case rel=>exact⟨i+1,by omega,by simp,nx c r,E⟩
   case measure=>simp[intOf];omega
  |false=>
   have f:qS (zGH a=false):=⟨List.all_eq_false.2 ⟨p,xgd m.out,by rw[d];decide⟩⟩;clear d;go_wp2;go_ret;exact⟨_,rfl,.inr ⟨by omega,f.out⟩,nx c r⟩
 obtain rfl:i=n:=by omega
 have f:qS (zGH a=true):=⟨by
  have:=t.out;rwa[jS (by rw[l.out];omega)]at this⟩
 go_wp2;go_ret;exact⟨_,rfl,.inl ⟨rfl,f.out⟩,c⟩
theorem zPS(v:Value)(b:List (Int × Int))(w:World)(h:zDE w v b)(i:∀p∈b,Sm p.1/\Sm p.2):
  Calls Tryz.prog 97 #[v,.func (.func 98) #[] #[]] w fun e w'=>∃u,e= .returned u/\u= .bool (!zGH b)/\Below w.heap.size w w':=by
 obtain⟨ao,n,cap,rfl,m,o,q,-⟩:=id h;have H:=xgv h;have j:=xgv i;obtain⟨c,d⟩:∃c,zGH b=c:=⟨_,rfl⟩;rw[d];have f:=xgv d;clear h m i d;go_enter Tryz.func97,Tryz.ntmps97;go_wp2_with fail
 refine(zRv _ b w H.out j.out).mono ?_;rintro e r ⟨k,rfl,a,g⟩;rcases a with⟨rfl,a⟩|⟨l,a⟩
 .obtain rfl:c=true:=by rw[<-f.out,a]
  clear a;go_wp2;go_ret;exact⟨_,rfl,rfl,g⟩
 obtain rfl:c=false:=by rw[<-f.out,a]
 clear a;have:¬ k<0:=by omega
 go_wp2;go_ret;exact⟨_,rfl,by simp[l],g⟩
theorem zMt(a c:Value)(x y:Int)(w:World)(d:yA w a x)(f:yA w c y):Calls Tryz.prog 95 #[a,c] w fun e w'=>∃u,e= .returned u/\u= .bool (decide (x=y))/\Below w.heap.size w w':=by
 obtain⟨N,v,L,J,rfl⟩:=d.parts;obtain⟨O,z,M,K,rfl⟩:=f.parts;have m:=xgv d;have n:=xgv f;obtain⟨k,j⟩:∃k,zAB x y=k:=⟨_,rfl⟩;obtain⟨b,i⟩:∃b,decide (x=y)=b:=⟨_,rfl⟩;have p:qS (decide (k=0)=b):=⟨by
  rw[<-j,<-i];unfold zAB;apply decide_eq_decide.2;constructor<;>intro h<;>(split at*<;>try split at*)<;>omega⟩
 have o:qS (∀(a c:Value) (w:World),yA w a x->yA w c y->Calls Tryz.prog 96 #[a,c] w fun e w'=>e= .returned (.int .i64 k)/\Below w.heap.size w w'):=⟨fun a c w d f=>(zLx a c _ _ w d.J f.J).mono fun e w' ⟨x,y⟩=>⟨by rw[x,j],y⟩⟩;rw[i];clear d f j i;go_enter Tryz.func95,Tryz.ntmps95;go_upto_region 1 with(fail)
 refine zE ?_;intro s l;obtain⟨g,q,r,I⟩:=jW l;obtain⟨A,B,C,D⟩:=q.two;obtain⟨E,F,G,H⟩:=r.two;clear l;go_wp2_with fail
 refine(o.out _ _ s (m.out.ext (lx g)) (n.out.ext (lx g))).mono ?_;rintro e P ⟨rfl,t⟩;go_wp2;go_ret;refine⟨_,rfl,?_,nx g t⟩;rw[<-p.out];rfl
theorem zT6(Q R:Value)(xs ys:List Int)(w:World)(j:zAR w Q xs)(p:zAR w R ys):
  Calls Tryz.prog 94 #[Q,R,.func (.func 95) #[] #[]] w fun e w'=>∃u,e= .returned u/\u= .bool (decide (xs=ys))/\Below w.heap.size w w':=by
 obtain⟨ao,n,cap,rfl,F,e3,e4,-⟩:=id j;obtain⟨bo,m,a0,rfl,G,f3,f4,-⟩:=id p;have v:=xgv F;have x:=xgv G;have T:=xgv j;have U:=xgv p;obtain⟨h,C⟩:∃h,decide (xs=ys)=h:=⟨_,rfl⟩;have r:=xgv C;rw[C];clear F G j p C;by_cases a3:(n:Int)=m
 .obtain rfl:n=m:=by omega
  go_enter Tryz.func94,Tryz.ntmps94;go_wp2;go_loopw [17] (fun X wr=>∃k:Nat,k<=n/\X= .int .i64 k/\Below w.heap.size w wr/\qS (xs.take k=ys.take k)) (fun i _=>n-(intOf i).toNat)
  case atStart=>exact⟨0,by omega,rfl,zB _ _,⟨by rw[zAW,zAW]⟩⟩
  obtain⟨k,hk,rfl,d,M⟩:=hrel;by_cases K:k<n
  .obtain⟨b,z,a7,a,a6,c,rfl,a1,g,D,E,N⟩:=(T.out.I d).cell (k:=k) (by rw[v.out];exact K)
   obtain⟨b',S,s',Z,l',c',rfl,a2,P,A,B,O⟩:=(U.out.I d).cell (k:=k) (by rw[x.out];exact K);have o:=xgv (And.intro g P);have f:=xgv (And.intro N O);clear g P N O;go_upto_region 6 with(fail)
   refine zE ?_;intro Y H;obtain⟨l,y,a4⟩:=qL H;have A:=qK A l;have B:=qK B l;have f:=xgv (And.intro (f.out.1.ext (lx l)) (f.out.2.ext (lx l)));have d:=nx d l;clear H D E;go_upto_region 7 with(fail)
   refine zE ?_;intro W I;obtain⟨q,V,a5⟩:=qL I;have y:=y.I q;have f:=xgv (And.intro (f.out.1.ext (lx q)) (f.out.2.ext (lx q)));have d:=nx d q;obtain⟨D,E,c3,c4⟩:=y.two;obtain⟨z1,z2,z3,z4⟩:=V.two;clear I A B;go_wp2_with fail
   refine(zMt _ _ z S W f.out.1 f.out.2).mono ?_;rintro e w1 ⟨_,rfl,rfl,J⟩;cases g:decide (z=S)
   .have L:=zIY o.out.1 o.out.2 (of_decide_eq_false g)
    have s:qS (h=false):=⟨by rw[<-r.out];exact zR L⟩;clear L g;go_wp2;go_ret;exact⟨_,rfl,by rw[s.out];rfl,nx d J⟩
   have t:=xgv (zLN M.out o.out.1 o.out.2 (jM g));clear g;go_wp2;go_roundw
   case rel=>exact⟨k+1,by omega,by simp,nx d J,t⟩
   case measure=>simp[intOf];omega
  obtain rfl:k=n:=by omega
  have t:qS (h=true):=⟨by
   rw[<-r.out];have:=M.out;rw[jS (by rw[v.out];omega),jS (by rw[x.out];omega)]at this;exact zT this⟩
  go_wp2;go_ret;exact⟨_,rfl,by rw[t.out];rfl,d⟩
 have s:qS (h=false):=⟨by
  rw[<-r.out];exact zR fun e=>by
   have j:=v.out;have p:=x.out;rw[e]at j;omega⟩
 go_enter Tryz.func94,Tryz.ntmps94;go_wp2;go_ret;exact⟨_,rfl,by rw[s.out];rfl,zB _ _⟩
theorem zM9(bv yv:Value)(C:Nat)(x:Nat->Int)(q:Nat->Rat)(w:World)(A:zAR w bv (qQ C x))(hy:zDE w yv (zAZ C fun t=>prQ (q t)))(c3:∀j,j<C->(x j).natAbs<2^h)(hh:1<=h)(hq:∀j,j<C->HQ e (q j))(hC:C<=1000)(he:e+h+1<=900):
  Calls Tryz.prog 100 #[bv,yv] w (zBW w (zD6 C x q)):=by
 obtain⟨xo,xn,xc,rfl,f2,f3,f4,-⟩:=id A;obtain rfl:C=xn:=by rw[<-f2,zO]
 obtain⟨yo,yn,yc,rfl,g2,g3,g4,-⟩:=id hy;obtain rfl:C=yn:=by rw[<-g2,zU]
 have HX:=xgv A;have HY:=xgv hy;have b3:=xgv c3;have b0:=xgv hq;have HE:qS (∀n,n<=C->n*(e+h+1)+1<=900001):=⟨fun n hn=>by
  have:n*(e+h+1)<=1000*900:=qP oM he;omega⟩
 clear A hy c3 hq f2 g2;go_enter Tryz.func100,Tryz.ntmps100;go_upto_region 1 with(fail)
 refine zE ?_;intro W0 b6;obtain⟨b4,d,e6⟩:=qL b6;clear b6;go_wp2_with fail
 refine(zG2 _ 0 W0 (zCe W0) (jX (e:=1) dE dE)).mono ?_;rintro U u ⟨rv,rfl,⟨s5,Q,l5,Y,s6,R,l6,Z,rfl,B,D⟩,a4⟩;have d:=d.I a4;have l:=nx b4 a4;have I:zAx u (.agg #[.bool s5,.slice Q l5 Y,.bool s6,.slice R l6 Z]) 0:=⟨_,_,_,_,_,_,_,_,rfl,B,D⟩;have p:=xgv I;clear B D I;go_upto_region 2 with(fail)
 refine zE ?_;intro W2 a1;have W:Below u.heap.size u W2:=by rw[a1.out];exact(zB _ _).alloc (xgf _) _
 have f:Blk W2 u.heap.size tQ #[.bool s5,.slice Q l5 Y,.bool s6,.slice R l6 Z]:=by rw[a1.out];exact yJ _ _ _
 have d:=d.I W;have p:=xgv (p.out.I W);have q1:=l.size;have q0:=b4.size;have l:=nx l W;have d0:w.heap.size<u.heap.size:=by have:=a4.size;omega
 obtain⟨b5,b9⟩:∃g,u.heap.size=g:=⟨_,rfl⟩;rw[b9]at f d0 ⊢
 clear a1 b9 q1 q0 W;go_wp2;go_loopw [12] (fun iv wr=>∃i:Nat,i<=C/\iv= .int .i64 i/\Below w.heap.size w wr/\Blk wr w.heap.size tQ #[.bool false,.slice none 0 0,.bool false,.slice none 0 0]/\∃(y1 y3:Bool) (y2 y4:Option Addr) (l2 S l4 T:Nat),Blk wr b5 tQ #[.bool y1,.slice y2 l2 S,.bool y3,.slice y4 l4 T]/\qS (zAx wr (.agg #[.bool y1,.slice y2 l2 S,.bool y3,.slice y4 l4 T]) (zAw i fun j=>(x j:Rat)*q j))) (fun iv _=>C-(intOf iv).toNat)
 case atStart=>exact⟨0,by omega,rfl,l,d,_,_,_,_,_,_,_,_,f,p⟩
 clear l d f p;obtain⟨i,hi,rfl,l,d,y1,y3,y2,y4,l2,S,l4,T,f,p⟩:=hrel;have d4:=f.lt;by_cases z:i<C
 .obtain⟨bx,f5,s1,o1,n1,k1,rfl,d7,X,d1,d2,hv⟩:=(HX.out.I l).cell (k:=i) (by rw[zO];exact z)
  obtain⟨d6,e8,o,e7,c,s',o',l',c',rfl,d8,U,e2,e3,e4,c1⟩:=zB1 (HY.out.I l) z;rw[qU z]at X;injection X with X
  subst X;have P:=xgv hv;have O:=xgv c1;have N:=xgv (b3.out i z);have a0:=xgv (b0.out i z);have b2:=xgv (HQ.dot (n:=i) (fun j hj=>b3.out j oM) hh (fun j hj=>b0.out j oM));have c7:=xgv (HE.out i oM);obtain⟨SS,V⟩:∃SS,(zAw i fun j=>(x j:Rat)*q j)=SS:=⟨_,rfl⟩;have d5:=xgv V;rw[V]at p b2;obtain⟨m,a9⟩:∃m,x i=m:=⟨_,rfl⟩;obtain⟨s,a8⟩:∃s,q i=s:=⟨_,rfl⟩;have c6:qS ((zAw (i+1) fun j=>(x j:Rat)*q j)=SS+(m:Rat)*s):=⟨by rw[<-V,<-a9,<-a8];rfl⟩;rw[a9]at P N;rw[a8]at O a0;obtain⟨E,F,G,H,J,K,L,M⟩:=f.four;have d9:=jK (m:Rat);have e0:=jK ((m:Rat)*s);have e5:=jK (SS+(m:Rat)*s);have c8:qS (Sm m):=⟨jX N.out oM⟩;clear hv c1 V a9 a8;go_upto_region 5 with(fail)
  refine zE ?_;intro W3 b8;obtain⟨r,T7,d3⟩:=qL b8;have U:=qK U r;have e2:=qK e2 r;have e3:=qK e3 r;have e4:=qK e4 r;have P:=xgv (P.out.ext (lx r));have O:=xgv (O.out.I r);have p:=xgv (p.out.I r);have d:=d.I r;have f:=f.I r;have l:=nx l r;obtain⟨b7,c0⟩:∃g,wr.heap.size=g:=⟨_,rfl⟩;rw[c0]at T7 d4 ⊢
  obtain⟨z1,z2,z3,z4⟩:=T7.two;clear b8 d1 d2 c0 E F G H J K L M d3;obtain⟨E,F,G,H,J,K,L,M⟩:=f.four;refine yD 9 [pcD 2 [] (fun w v=>zAx w v (m:Rat)),pcD 7 [2] (fun w v=>zAx w v ((m:Rat)*s)),pcD 8 [7] (fun w v=>zAx w v (SS+(m:Rat)*s))] ?_;refine sRd ?_;refine sRc (fun wS hI Gk y=>by go_simp;exact ck y (zG2 _ m _ (P.out.ext (lx hI.bel)) c8.out)) (fun e9 _=>?_);refine sRd ?_;refine sRc (fun wS hI a2 Gk y=>by go_simp;exact ck y (zSe (a:=h) (b:=e) _ _ _ s _ a2 (O.out.I hI.bel) (HQ.int N.out hh) a0.out oM)) (fun f0 _=>?_);refine sRc (fun wS hI a3 Gk y=>by go_simp;exact ck y (zSY _ _ SS _ _ (p.out.I hI.bel) a3 b2.out (HQ.mul (HQ.int N.out hh) a0.out) (by have:=c7.out;omega))) (fun f1 _=>?_);refine sRe ?_;intro w2 a7 a2 a3 c9;obtain⟨s5,Q,l5,Y,s6,R,l6,Z,rfl,B,D⟩:=(show zAx _ _ _ from c9);have I:zAx w2 (.agg #[.bool s5,.slice Q l5 Y,.bool s6,.slice R l6 Z]) (SS+(m:Rat)*s):=⟨_,_,_,_,_,_,_,_,rfl,B,D⟩;have c5:=xgv I;have d:=d.I a7;have f:=f.I a7;have l:=nx l a7;clear B D I E F G H J K L M U e2 e3 e4 a2 a3 z1 z2 z3 z4;obtain⟨E,F,G,H,J,K,L,M⟩:=f.four;go_wp2;go_roundw
  case rel=>exact⟨i+1,by omega,by simp,zA8 l oM 0 _ _ _ _,(zFS _ _ _ _ _ _ _ _ oM).trans d,_,_,_,_,_,_,_,_,f.put4 _ _ _ _,⟨by rw[c6.out];exact c5.out.ext (f.lext4 dE 0 _ _ _ _)⟩⟩
  case measure=>simp[intOf];omega
 obtain rfl:i=C:=by omega
 obtain⟨E,F,G,H,J,K,L,M⟩:=f.four;obtain⟨t1,t2,t3,t4,t5,t6,t7,t8⟩:=d.four;go_wp2;have A:=d.lext4 dE 0 (.bool y1) (.slice y2 l2 S) (.bool y3) (.slice y4 l4 T);exact jQ rfl rfl rfl (d.put4 _ _ _ _) (p.out.ext A) (zA8 l oM 0 _ _ _ _)
theorem zSf(zs:List Int)(M:List (List Int))(m j:Nat):zFm zs M m j=yZ m fun i=>zs.getD i 0*ent M i j:=by
 unfold zFm;rw[zG3]
theorem zOe(v t k:Value)(zs:List Int)(M:List (List Int))(R C:Nat)(y:Nat->Int)(w:World)(f:zAR w v zs)(d:zAo w t R C M)(c:zAR w k (qQ C y))(q:zs.length=R)(hF:zBe R C M)(Q:R<=1000000)(P:C<=1000000)(m:zGi zs M R C):
  Calls Tryz.prog 56 #[v,t,k] w fun e w'=>∃u,e= .returned u/\u= .bool (decide (qQ C (fun j=>yZ R fun i=>zs.getD i 0*ent M i j)=qQ C y))/\Below w.heap.size w w':=by
 have A:=xgv d;obtain⟨W,rfl,s⟩:=id d;obtain⟨ao,mn,X,rfl,L,e3,e4,-⟩:=id s;have h:=xgv f;have HB:=xgv c;have x:=xgv hF;have B:=xgv m;have z:=xgv q;have p:qQ C (fun j=>yZ R fun i=>zs.getD i 0*ent M i j)=qQ C (zFm zs M R):=qZ fun j _=>(zSf zs M R j).symm
 rw[p];obtain⟨xo,xn,xc,rfl,O,g3,g4,-⟩:=id f;obtain⟨bo,Z,Y,rfl,N,f3,f4,-⟩:=id c;clear d s f c hF m q p L O N;go_enter Tryz.func56,Tryz.ntmps56;go_upto_region 1 with(fail)
 refine zE ?_;intro E n;obtain⟨l,b,a0⟩:=qL n;clear n;go_wp2_with fail
 refine(zC9 _ zs E (h.out.I l)).mono ?_;rintro e U ⟨rfl,o⟩;have b:=b.I o;have a:=nx l o;obtain⟨F,G,H,I,J,K⟩:=b.three;go_wp2_with fail
 refine(zJB _ _ zs M R C U (h.out.I a) (A.out.I a) z.out x.out Q P B.out).mono ?_;rintro e V ⟨u,rfl,⟨g,rfl,hg,r⟩,S⟩;have a:=nx a S;have D:=xgv (r.vec (zO _ _) (xgf _) oM);clear r F G H I J K;go_wp2_with fail
 refine(zT6 _ _ _ _ V D.out (HB.out.I a)).mono ?_;rintro e w3 ⟨_,rfl,rfl,T⟩;go_wp2;go_ret;exact⟨_,rfl,rfl,nx a T⟩
theorem zMk{e h:Nat}(yv mv X:Value)(R C:Nat)(M:List (List Int))(y:Nat->Int)(c:List (Int × Int))(w:World)(J:zAo w mv R C M)(hF:zBe R C M)(d:zAR w X (qQ C y))(l:zDE w yv c)(hl:c.length=C)(hC:C<=1000)
  (t:∀p∈c,p.1.natAbs<2^e/\p.2.natAbs<2^e) (hM:∀a,a<R->∀b,b<C->(ent M a b).natAbs<2^h) (hy:∀j,j<C->(y j).natAbs<2^h) (hh:1<=h) (he:e+h+1<=900):
  Calls Tryz.prog 58 #[yv,mv,X] w fun e w'=>∃u,e= .returned u/\u= .bool (zGH c && ((List.range R).all fun i=>isZ (zD6 C (ent M i) (rqL c))) && !isZ (zD6 C y (rqL c)))/\Below w.heap.size w w':=by
 have HM:=xgv J;obtain⟨Av,rfl,L⟩:=id J;obtain⟨ao,mn,b5,rfl,Y,e3,e4,-⟩:=id L;obtain rfl:R=mn:=by rw[<-Y,hF.1]
 have b0:=xgv L;have U:=xgv hF;have HB:=xgv d;have W:=xgv l;have a8:=xgv t;have a7:=xgv hM;have b3:=xgv hy;obtain⟨bo,bn,bc,rfl,Z,f3,f4,-⟩:=id d;obtain rfl:C=bn:=by rw[<-Z,zO]
 obtain⟨yo,yn,yc,rfl,k2,k3,k4,-⟩:=id l;obtain rfl:C=yn:=by omega
 have V:=xgv hl;have b2:qS (∀p∈c,Sm p.1/\Sm p.2):=⟨fun p l=>⟨jX (t p l).1 oM,jX (t p l).2 oM⟩⟩;obtain⟨D,E⟩:∃D,(zGH c && ((List.range R).all fun i=>isZ (zD6 C (ent M i) (rqL c))) && !isZ (zD6 C y (rqL c)))=D:=⟨_,rfl⟩;rw[E];have S:=xgv E;have F:=fun w h=>zPS (.slice yo C yc) c w h b2.out
 obtain⟨O,H⟩:∃O,zGH c=O:=⟨_,rfl⟩;rw[H]at F;have T:=xgv F;have m:=xgv H;clear L hF J d l Y Z k2 E t hM hy hl F H;go_enter Tryz.func58,Tryz.ntmps58;go_upto_region 1 with(fail)
 refine zE ?_;intro W0 a1;obtain⟨a0,B,b7⟩:=qL a1;clear a1;go_wp2_with fail
 refine(T.out W0 (W.out.I a0)).mono ?_;rintro e1 P ⟨_,rfl,rfl,a3⟩;have B:=B.I a3;have f:=nx a0 a3;obtain⟨c1,c2,c3,c4,c5,c6⟩:=B.three;cases O
 .go_wp2
  go_ret;refine⟨_,rfl,?_,f⟩;rw[<-S.out,m.out];rfl
 have K:=zNG m.out;rw[V.out]at K;have hq:∀j,j<C->HQ e (rqL c j):=fun j hj=>zTV m.out a8.out (by have:=V.out;omega)
 have a4:zDE P (.slice yo C yc) (zAZ C fun b4=>prQ (rqL c b4)):=by rw[<-K];exact W.out.I f
 have x:=xgv a4;have z:=xgv hq;have v:qS ((((List.range R).all fun i=>isZ (zD6 C (ent M i) (rqL c))) && !isZ (zD6 C y (rqL c)))=D):=⟨by rw[<-S.out,m.out];simp⟩;obtain⟨q,a5⟩:∃q,rqL c=q:=⟨_,rfl⟩;rw[a5]at x z v;clear K hq a4 a5 m T;go_wp2;go_loopw [14] (fun N wr=>∃i:Nat,i<=R/\N= .int .i64 i/\Below P.heap.size P wr/\qS (∀k,k<i->isZ (zD6 C (ent M k) q)=true)) (fun N _=>R-(intOf N).toNat)
 case atStart=>exact⟨0,by omega,rfl,zB _ _,⟨fun k G=>by omega⟩⟩
 obtain⟨i,hi,rfl,d,a2⟩:=hrel;by_cases I:i<R
 .obtain⟨bm,ra,rn,rc,zs,rfl,b6,o,p1,n⟩:=(b0.out.I (nx f d)).row (k:=i) (by rw[U.out.1];exact I)
  obtain rfl:=U.out.row_eq o;have A:=xgv n;clear o n;go_wp2_with fail
  refine(zM9 (e:=e) (h:=h) _ _ C (ent M i) q wr A.out (x.out.I d) (fun j hj=>a7.out i I j hj) hh z.out hC he).mono ?_;rintro e5 Q ⟨rv,rfl,a6,r⟩;have a9:=xgv a6;clear a6;go_wp2_with fail
  refine(zEm _ _ Q a9.out).mono ?_;rintro e6 w6 ⟨_,rfl,rfl,s⟩;cases o:isZ (zD6 C (ent M i) q)
  .go_wp2
   go_ret;refine⟨_,rfl,?_,nx f (nx (nx d r) s)⟩;rw[<-v.out];have:((List.range R).all fun i=>isZ (zD6 C (ent M i) q))=false:=List.all_eq_false.2 ⟨i,yR.2 I,by rw[o];decide⟩;rw[this];rfl
  go_wp2;go_roundw
  case rel=>exact⟨i+1,by omega,by simp,nx (nx d r) s,⟨fun k G=>by
   rcases zJ k i with g|g
   exact a2.out k g;obtain rfl:k=i:=by omega
   exact o⟩⟩
  case measure=>simp[intOf];omega
 obtain rfl:i=R:=by omega
 have f:=nx f d;go_wp2_with fail
 refine(zM9 (e:=e) (h:=h) _ _ C y q wr (HB.out.I f) (x.out.I d) b3.out hh z.out hC he).mono ?_;rintro e5 Q ⟨rv,rfl,n,r⟩;have A:=xgv n;clear n;go_wp2_with fail
 refine(zEm _ _ Q A.out).mono ?_;rintro e6 w6 ⟨_,rfl,rfl,s⟩;go_wp2;go_ret;refine⟨_,rfl,?_,nx (nx f r) s⟩;rw[<-v.out];have:((List.range i).all fun i=>isZ (zD6 C (ent M i) q))=true:=zW.2 fun k G=>a2.out k (yR.1 G)
 rw[this];rfl
theorem zGn(h r:Option Addr)(g f d q:Nat)(w:World):
  Calls Tryz.prog 54 #[.agg #[.bool true,.slice h g f,.slice r d q]] w fun e w'=>e= .returned (if d=0 then .iface 104 (.slice h g f)else .nilIface)/\Below w.heap.size w w':=by
 by_cases s:(d:Int)=0
 .rw[zC oM]
  go_enter Tryz.func54,Tryz.ntmps54;go_upto_region 1 with(fail)
  refine zE ?_;intro i a;obtain⟨c,b,p⟩:=qL a;obtain⟨j,k,l,m,n,o⟩:=b.three;clear a;go_wp2;go_ret;exact⟨rfl,c⟩
 rw[zA oM];go_enter Tryz.func54,Tryz.ntmps54;go_upto_region 1 with(fail)
 refine zE ?_;intro i a;obtain⟨c,b,p⟩:=qL a;obtain⟨j,k,l,m,n,o⟩:=b.three;clear a;go_wp2;go_ret;exact⟨rfl,c⟩
theorem zJr(r h:Option Addr)(d q g f:Nat)(w:World):
  Calls Tryz.prog 54 #[.agg #[.bool false,.slice r d q,.slice h g f]] w fun e w'=>e= .returned (if d=0 then .iface 83 (.slice h g f)else .nilIface)/\Below w.heap.size w w':=by
 by_cases s:(d:Int)=0
 .rw[zC oM]
  go_enter Tryz.func54,Tryz.ntmps54;go_upto_region 1 with(fail)
  refine zE ?_;intro i a;obtain⟨c,b,p⟩:=qL a;obtain⟨j,k,l,m,n,o⟩:=b.three;clear a;go_wp2;go_ret;exact⟨rfl,c⟩
 rw[zA oM];go_enter Tryz.func54,Tryz.ntmps54;go_upto_region 1 with(fail)
 refine zE ?_;intro i a;obtain⟨c,b,p⟩:=qL a;obtain⟨j,k,l,m,n,o⟩:=b.three;clear a;go_wp2;go_ret;exact⟨rfl,c⟩
theorem zHu(v:Value)(W:World):(Instr.typeAssert (.iface 104 v) 102 104 true).run Tryz.prog W= .ok (.tuple #[v,.bool true]) W:=by kernel_rfl
theorem zHt(v:Value)(W:World):(Instr.typeAssert (.iface 83 v) 102 104 true).run Tryz.prog W= .ok (.tuple #[.slice none 0 0,.bool false]) W:=by kernel_rfl
theorem zHs(v:Value)(W:World):(Instr.typeAssert (.iface 83 v) 102 83 true).run Tryz.prog W= .ok (.tuple #[v,.bool true]) W:=by kernel_rfl
theorem zHD(W:World):(Instr.typeAssert .nilIface 102 104 true).run Tryz.prog W= .ok (.tuple #[.slice none 0 0,.bool false]) W:=by kernel_rfl
theorem zHE(W:World):(Instr.typeAssert .nilIface 102 83 true).run Tryz.prog W= .ok (.tuple #[.slice none 0 0,.bool false]) W:=by kernel_rfl
theorem zJJ(o:Option Addr)(n c:Nat)(w:World):Calls Tryz.prog 55 #[.slice o n c] w fun e w'=>∃u,e= .returned u/\u= .int .i64 n/\Below w.heap.size w w':=by
 go_enter Tryz.func55,Tryz.ntmps55;go_wp2;go_ret;exact⟨_,rfl,rfl,zB _ _⟩
theorem zIt(o:Option Addr)(n c:Nat)(w:World):Calls Tryz.prog 57 #[.slice o n c] w fun e w'=>∃u,e= .returned u/\u= .int .i64 n/\Below w.heap.size w w':=by
 go_enter Tryz.func57,Tryz.ntmps57;go_wp2;go_ret;exact⟨_,rfl,rfl,zB _ _⟩
theorem zKc(S F V W:Value)(R C:Nat)(M:List (List Int))(y:Nat->Int)(xs:List Int)(o:List (Int × Int))(w:World)(B:zAo w S R C M)(hF:zBe R C M)(t:zAR w F (qQ C y))(D:zAR w V xs)(P:zDE w W o)(hR:R<=1000)(hC:C<=1000)(I:xs.length=R->zGi xs M R C)(n:xs.length=R)(O:o.length=0):
  Calls Tryz.prog 22 #[S,F,.agg #[.bool true,V,W]] w fun e w'=>∃u,e= .returned u/\u= .bool (zJZ R C (ent M) y xs o.length)/\Below w.heap.size w w':=by
 have E:=xgv B;obtain⟨Av,rfl,Q⟩:=id B;obtain⟨ao,mn,a1,rfl,q,e3,e4,-⟩:=id Q;obtain rfl:R=mn:=by rw[<-q,hF.1]
 have Z:=xgv hF;have HB:=xgv t;have HX:=xgv D;obtain⟨bo,bn,bc,rfl,G,f3,f4,-⟩:=id t;obtain rfl:C=bn:=by rw[<-G,zO]
 obtain⟨U,xn,T,rfl,g2,g3,g4,-⟩:=id D;obtain⟨yo,yn,yc,rfl,k2,k3,k4,-⟩:=id P;obtain rfl:R=xn:=by omega
 obtain rfl:yn=0:=by omega
 have N:decide (zAq R C M)=true:=zT hF.valid;have HL:=xgv n;have HS:=xgv (I n);have L:zJZ R C (ent M) y xs o.length=decide (qQ C (fun j=>yZ R fun i=>xs.getD i 0*ent M i j)=qQ C y):=by
  unfold zJZ;rw[n,O];simp
 rw[L];obtain⟨p,s⟩:∃p,decide (qQ C (fun j=>yZ R fun i=>xs.getD i 0*ent M i j)=qQ C y)=p:=⟨_,rfl⟩;have Y:=xgv s;rw[s];clear Q hF B t D P I n O L s q G g2 k2;go_enter Tryz.func22,Tryz.ntmps22;go_upto_region 1 with(fail)
 refine zE ?_;intro W0 J;obtain⟨H,a,d,a2⟩:=jW J;obtain⟨f,g,h,k,l,m⟩:=a.three;clear J;go_wp2_with fail
 refine(zBM _ R C M W0 (E.out.I H)).mono ?_;rintro e1 w1 ⟨rfl,x⟩;rw[N];have a:=a.I x;have d:=d.I x;have b:=nx H x;clear f g h k l m N;go_wp2_with fail
 refine(zC9 _ _ w1 (HB.out.I b)).mono ?_;rintro q w2 ⟨rfl,z⟩;have a:=a.I z;have d:=d.I z;have b:=nx b z;obtain⟨f,g,h,k,l,m⟩:=a.three;obtain⟨d1,d2,d3,d4,d5,d6⟩:=d.three;go_wp2_with fail
 refine(zGn U yo R T 0 yc w2).mono ?_;rintro e3 w3 ⟨rfl,K⟩;have a:=a.I K;have b:=nx b K;clear f g h k l m d1 d2 d3 d4 d5 d6 d;obtain⟨f,g,h,k,l,m⟩:=a.three;rw[zC rfl];have a3:=zHu;go_upto_region 6 with(fail)
 refine zBK [pcD 1 [] (fun _ v=>v= .int .i64 R),pcD 9 [] (fun _ v=>v= .bool p)] ?_;refine sRd ?_;refine sRc (fun wS hI X r=>?_) (fun _ c=>?_)
 .go_simp
  refine(zJJ U R T _).mono ?_;rintro e wa ⟨v,rfl,c,A⟩;exact⟨_,rfl,r _ _ c,A⟩
 obtain⟨_,-,rfl⟩:=c;refine sRd ?_;refine sRc (fun wS hI X r=>?_) (fun _ c=>?_)
 .go_simp
  refine(Y.out ▸ zOe _ _ _ xs M R C y _ (HX.out.I (nx b hI.bel)) (E.out.I (nx b hI.bel)) (HB.out.I (nx b hI.bel)) HL.out Z.out oM oM HS.out).mono ?_;rintro e wa ⟨v,rfl,c,A⟩;exact⟨_,rfl,r _ _ c,A⟩
 obtain⟨_,-,rfl⟩:=c;refine sRd ?_;refine sRe ?_;intro w4 a0 _ _;go_wp2;go_ret;exact⟨_,rfl,rfl,nx b a0⟩
theorem zN0(v f:Value)(R C:Nat)(M:List (List Int))(zs:List Int)(w:World)(d:zAo w v R C M)(hF:zBe R C M)(q:zAR w f zs)(A:zs.length≠C):
  Calls Tryz.prog 10 #[v,f] w fun e w'=>e= .returned (.tuple #[.agg #[.bool false,.slice none 0 0,.slice none 0 0],.int .i64 50])/\Below w.heap.size w w':=by
 have s:=xgv d;obtain⟨B,rfl,r⟩:=id d;obtain⟨ao,n,D,rfl,m,N,O,-⟩:=id r;obtain rfl:R=n:=by rw[<-m,hF.1]
 obtain⟨F,u,E,rfl,x,P,Q,-⟩:=id q;have z:decide (zAq R C M)=true:=zT hF.valid;have S:¬ (u:Int)=(C:Int):=by omega
 clear d r q hF m x A;go_enter Tryz.func10,Tryz.ntmps10;go_upto_region 1 with(fail)
 refine zE ?_;intro t p;obtain⟨o,b,a,T⟩:=jW p;obtain⟨g,h,i,j,k,l⟩:=b.three;clear p;go_wp2_with fail
 refine(zBM _ R C M t (s.out.I o)).mono ?_;rintro e V ⟨rfl,c⟩;rw[z];have b:=b.I c;have a:=a.I c;have y:=nx o c;clear g h i j k l;obtain⟨g,h,i,j,k,l⟩:=b.three;obtain⟨G,H,I,J,K,L⟩:=a.three;have U:=a.lt;go_wp2;refine bodyPost_ret (zG0 rfl _ rfl (a.put3 _ _ _) rfl) rfl ⟨rfl,yM (yM (yM y oM 0 _) oM 1 _) oM 2 _⟩
theorem zCO(v:Value)(a:List Int)(w:World)(h:zEt w v a)(r:a.length<=1000):
  Calls Tryz.prog 16 #[v] w fun e w'=>∃u,e= .returned u/\zAR w' u a/\Below w.heap.size w w':=by
 obtain⟨ao,n,cap,rfl,b,A,B,-,-⟩:=id h;have H:=xgv h;have m:=xgv b;have d:n<=1000:=by omega
 have l:qS (yV 1 n (fun i j=>a.getD (i*n+j) 0)= [a]):=⟨by
  have:qQ a.length (fun i=>a.getD i 0)=a:=by
   refine qI (by simp[qQ]) fun j z b=>?_
   simp[qQ,xgb,b]
  rw[b]at this;conv=>rhs;rw[<-this]
  simp[yV,qQ,Nat.zero_mul,Nat.zero_add]⟩
 clear h b r;go_enter Tryz.func16,Tryz.ntmps16;go_wp2_with fail
 refine(zRx _ a 1 n _ _ [a] w H.out rfl rfl (by rw[m.out];omega) oM d l.out).mono ?_;rintro e L ⟨u,rfl,q,p⟩;obtain⟨x,rfl,c⟩:=q;obtain⟨F,s,E,rfl,d,-⟩:=id c;obtain rfl:1=s:=d;obtain⟨y,I,K,J,t,rfl,C,g,G,f⟩:=c.row (k:=0) (Nat.zero_lt_one);obtain rfl:a=t:=qC g;have o:=xgv f;have D:=zFJ;clear c f g;go_wp2;go_ret;exact⟨_,rfl,o.out,p⟩
theorem zJf(I t L N:Value)(R C:Nat)(M:List (List Int))(y:Nat->Int)(xs:List Int)(k:List (Int × Int))(w:World)(q:zAo w I R C M)(hF:zBe R C M)(n:zAR w t (qQ C y))(s:zAR w L xs)(G:zDE w N k)(F:xs.length≠R)(hk:k.length=0):
  Calls Tryz.prog 22 #[I,t,.agg #[.bool true,L,N]] w fun e w'=>∃u,e= .returned u/\u= .bool (zJZ R C (ent M) y xs k.length)/\Below w.heap.size w w':=by
 have O:=xgv q;obtain⟨Av,rfl,H⟩:=id q;obtain⟨ao,mn,a2,rfl,m,Y,e4,-⟩:=id H;obtain rfl:R=mn:=by rw[<-m,hF.1]
 have HF:=xgv hF;have HB:=xgv n;have HX:=xgv s;obtain⟨bo,Q,bc,rfl,x,f3,f4,-⟩:=id n;obtain rfl:C=Q:=by rw[<-x,zO]
 obtain⟨K,l,J,rfl,Z,g3,g4,-⟩:=id s;obtain⟨yo,yn,yc,rfl,k2,k3,k4,-⟩:=id G;obtain rfl:yn=0:=by omega
 have a5:((l:Int)==(R:Int))=false:=beq_eq_false_iff_ne.2 oM;have E:decide (zAq R C M)=true:=zT hF.valid;have D:zJZ R C (ent M) y xs k.length=false:=by
  unfold zJZ;rw[zR F];simp
 rw[D];clear H hF q n s G F hk D m x Z k2;go_enter Tryz.func22,Tryz.ntmps22;go_upto_region 1 with(fail)
 refine zE ?_;intro P A;obtain⟨z,a,b,a3⟩:=jW A;obtain⟨d,f,g,h,i,j⟩:=a.three;clear A;go_wp2_with fail
 refine(zBM _ R C M P (O.out.I z)).mono ?_;rintro e1 w1 ⟨rfl,o⟩;rw[E];have a:=a.I o;have b:=b.I o;have c:=nx z o;clear d f g h i j E;go_wp2_with fail
 refine(zC9 _ _ w1 (HB.out.I c)).mono ?_;rintro m w2 ⟨rfl,p⟩;have a:=a.I p;have b:=b.I p;have c:=nx c p;obtain⟨d,f,g,h,i,j⟩:=a.three;obtain⟨S,T,U,V,W,X⟩:=b.three;go_wp2_with fail
 refine(zGn K yo l J 0 yc w2).mono ?_;rintro Y w3 ⟨rfl,B⟩;have a:=a.I B;have c:=nx c B;clear d f g h i j S T U V W X b;obtain⟨d,f,g,h,i,j⟩:=a.three;rw[zC rfl];have a4:=zHu;go_upto_region 6 with(fail)
 refine zBK [pcD 1 [] (fun _ v=>v= .int .i64 l)] ?_;refine sRd ?_;refine sRc (fun wS hI Gk hG=>?_) (fun _ r=>?_)
 .go_simp
  refine(zJJ K l J _).mono ?_;rintro e wa ⟨v,rfl,r,a0⟩;exact⟨_,rfl,hG _ _ r,a0⟩
 obtain⟨_,-,rfl⟩:=r;refine sRd ?_;refine sRe ?_;intro w4 a1 _;go_wp2;go_ret;exact⟨_,rfl,rfl,nx c a1⟩
theorem zLz(I t J N:Value)(R C:Nat)(M:List (List Int))(y:Nat->Int)(xs:List Int)(k:List (Int × Int))(w:World)(q:zAo w I R C M)(hF:zBe R C M)(n:zAR w t (qQ C y))(s:zAR w J xs)(G:zDE w N k)(hl:xs.length=0)(F:k.length≠C):
  Calls Tryz.prog 22 #[I,t,.agg #[.bool false,J,N]] w fun e w'=>∃u,e= .returned u/\u= .bool (zJa R C (ent M) y xs.length k)/\Below w.heap.size w w':=by
 have O:=xgv q;obtain⟨Av,rfl,H⟩:=id q;obtain⟨ao,mn,a2,rfl,m,Y,e4,-⟩:=id H;obtain rfl:R=mn:=by rw[<-m,hF.1]
 have HF:=xgv hF;have HB:=xgv n;have HX:=xgv s;obtain⟨bo,Q,bc,rfl,x,f3,f4,-⟩:=id n;obtain rfl:C=Q:=by rw[<-x,zO]
 obtain⟨xo,xn,xc,rfl,Z,g3,g4,-⟩:=id s;obtain⟨L,l,K,rfl,k2,k3,k4,-⟩:=id G;obtain rfl:xn=0:=by omega
 have a6:((l:Int)==(C:Int))=false:=beq_eq_false_iff_ne.2 oM;have E:decide (zAq R C M)=true:=zT hF.valid;have D:zJa R C (ent M) y xs.length k=false:=by
  unfold zJa;rw[zR F];simp
 rw[D];clear H hF q n s G hl F D m x Z k2;go_enter Tryz.func22,Tryz.ntmps22;go_upto_region 1 with(fail)
 refine zE ?_;intro P A;obtain⟨z,a,b,a3⟩:=jW A;obtain⟨d,f,g,h,i,j⟩:=a.three;clear A;go_wp2_with fail
 refine(zBM _ R C M P (O.out.I z)).mono ?_;rintro e1 w1 ⟨rfl,o⟩;rw[E];have a:=a.I o;have b:=b.I o;have c:=nx z o;clear d f g h i j E;go_wp2_with fail
 refine(zC9 _ _ w1 (HB.out.I c)).mono ?_;rintro m w2 ⟨rfl,p⟩;have a:=a.I p;have b:=b.I p;have c:=nx c p;obtain⟨d,f,g,h,i,j⟩:=a.three;obtain⟨S,T,U,V,W,X⟩:=b.three;go_wp2_with fail
 refine(zJr xo L 0 xc l K w2).mono ?_;rintro Y w3 ⟨rfl,B⟩;have a:=a.I B;have c:=nx c B;clear d f g h i j S T U V W X b;obtain⟨d,f,g,h,i,j⟩:=a.three;rw[zC rfl];have a4:=zHt;have a5:=zHs;go_upto_region 9 with(fail)
 refine zBK [pcD 1 [] (fun _ v=>v= .int .i64 l)] ?_;refine sRd ?_;refine sRc (fun wS hI Gk hG=>?_) (fun _ r=>?_)
 .go_simp
  refine(zIt L l K _).mono ?_;rintro e wa ⟨v,rfl,r,a0⟩;exact⟨_,rfl,hG _ _ r,a0⟩
 obtain⟨_,-,rfl⟩:=r;refine sRd ?_;refine sRe ?_;intro w4 a1 _;go_wp2;go_ret;exact⟨_,rfl,rfl,nx c a1⟩
theorem zWf(b:1<=e):5^k*e+(5^k*e+5^k*e+5^k*e)+1<=5^(k+1)*e:=by
 have h:1<=5^k*e:=zDF (jH dE) b;have a:5^(k+1)*e=5*(5^k*e):=by rw[qE,zN,Nat.mul_left_comm]
 rw[a];omega
theorem zF3(h:k<=m):5^k*e<=5^m*e:=zK _ (zX dE h)
theorem HQ.rd1{a b:Nat->Rat}(i:1<=e)(h:zDY n b<N)(l:b (zDY n b)≠0)(d:∀j,j<N->HQ (5^k*e) (a j))(f:∀j,j<N->HQ (5^k*e) (b j)):
  (HQ (5^k*e+5^k*e) (a (zDY n b)/b (zDY n b)))/\∀j,j<N->HQ (5^(k+1)*e) (rd1 n b a j):=by
 have c:=(d _ h).div (f _ h) l;refine⟨c,fun j g=>?_⟩;exact((d j g).sub (c.mul (f j g))).mono (by have:=zWf (k:=k) i;omega)
theorem zQZ{B:Nat->Nat->Rat}{a:Nat->Rat}(f:1<=e)(o:n<=N)(h:EcB n m B)(c:∀k,k<m->∀j,j<N->HQ (5^k*e) (B k j))(d:∀j,j<N->HQ e (a j)):
  ∀k,k<=m->∀j,j<N->HQ (5^k*e) (rdB n B k a j):=by
 intro k;induction k with
 |zero=>intro _ j b;rw[zBq,yU];exact d j b
 |succ k i=>
  intro l j b;have g:=h.piv k oM;exact(HQ.rd1 f oM (zE0 g) (i oM) (c k oM)).2 j b
theorem zEd(lo:Nat)(a:List (Int × Int)):zAA (fun w v=>zBa w lo v a):=fun _ _ _ e h=>h.I e
theorem zGR{e:Nat}(U lv:Value)(lo n N m:Nat)(a:Nat->Rat)(B:Nat->Nat->Rat)(w:World)(Z:zBa w lo U (zAZ N fun t=>prQ (a t)))(L:LqV w lo lv (zEK m N B))(a1:n<=N)(Y:N<=1000000)(hm:m<=1000000)(c6:lo<=w.heap.size)
  (G:EcB n m B) (A:1<=e) (F:∀k,k<m->∀j,j<N->HQ (5^k*e) (B k j)) (X:∀j,j<N->HQ e (a j)) (b4:5^m*e<=1000000):
  Calls Tryz.prog 29 #[U,lv,.int .i64 n] w fun e w'=>∃u,e= .returned u/\zBa w' lo u (zAZ N fun t=>prQ (rdB n B m a t))/\Below w.heap.size w w':=by
 obtain⟨bo,bn,bc,rfl,W,f3,f4,-⟩:=id L;obtain rfl:m=bn:=by rw[<-W,zCP]
 have a4:=xgv Z;have a8:=xgv L;have HE:=xgv G;have a5:=xgv F;have b2:=xgv (zQZ A a1 G F X);have a6:qS (∀k,k<m->5^k*e+(5^k*e+5^k*e+5^k*e)+1<=1000000):=⟨fun k q=>by
  have h1:=zWf (k:=k) A;have h2:=zF3 (e:=e) (show k+1<=m by omega);omega⟩
 have c0:=xgw A;clear Z L W G F X b4 A;go_enter Tryz.func29,Tryz.ntmps29;go_wp2;go_loopw [0,7] (fun u O wr=>∃i:Nat,i<=m/\O= .int .i64 i/\zBa wr lo u (zAZ N fun t=>prQ (rdB n B i a t))/\Below w.heap.size w wr) (fun _ O _=>m-(intOf O).toNat)
 case atStart=>exact⟨0,by omega,rfl,a4.out,zB _ _⟩
 obtain⟨i,hi,rfl,z,d⟩:=hrel;by_cases C:i<m
 .obtain⟨uo,uc,rfl⟩:∃o k,u0= .slice o N k:=by
   obtain⟨o,k,e,-,-⟩:=z.shape;rw[zU]at e;exact⟨_,_,e⟩
  obtain⟨bl,ra,rc,rfl,J,D,M⟩:=(a8.out.I d).row (zEL C);rw[zU]at D M;have h:=xgv M;have g:=xgv z;have R:qS (zDY n (B i)<n):=⟨HE.out.piv i C⟩;obtain⟨k,q⟩:∃k,zDY n (B i)=k:=⟨_,rfl⟩;have Q:=xgw q;have a7:qS (∀(v:Value) (w:World),zBa w lo v (zAZ N fun t=>prQ (B i t))->Calls Tryz.prog 30 #[v,.int .i64 n] w fun e w'=>e= .returned (.int .i64 k)/\Below w.heap.size w w'):=⟨fun v w hv=>q ▸ zEj v n N (B i) w hv.prs a1 Y⟩;have c3:k<n:=by rw[<-q];exact R.out
  clear M z q;go_wp2_with fail
  refine(a7.out _ wr h.out).mono ?_;rintro V w1 ⟨rfl,l⟩;have h:=xgv (h.out.I l);have g:=xgv (g.out.I l);have d:=nx d l;have D:=(l.cell (p:=⟨bl,i,none⟩) J).trans D;have J:=zI J l.size;obtain⟨ba,c8,o,c7,c,s',o',l',c',rfl,c1,V,e2,e3,e4,a2⟩:=zB1 g.out.prs (show k<N by omega);obtain⟨bb,t,d0,y,r,t',x',y',r',rfl,c2,d1,d2,d3,d4,a3⟩:=zB1 h.out.prs (show k<N by omega);have S:=xgv a2;have b0:=xgv a3;have x:k<N:=by omega
  obtain⟨f,K⟩:∃f,rdB n B i a=f:=⟨_,rfl⟩;have s:=xgv (b2.out i oM);have E:=xgv (a5.out i C);have P:=xgv (a6.out i C);have a9:qS (rdB n B (i+1) a=fun j=>f j-f k/B i k*B i j):=⟨by
   have:=Q.out;rw[<-K,<-this];rfl⟩
  have T:qS (B i k≠0):=⟨by
   have:=zE0 R.out;rw[Q.out]at this;exact this⟩
  rw[K]at s g S;have c4:=jK (f k/B i k);have c5:=zEd lo (zAZ N fun j=>prQ (f j-f k/B i k*B i j));clear a2 a3 K;go_upto_region 5 with(fail)
  refine yD 18 [pcD 16 [] (fun w v=>zAx w v (f k/B i k)),pcD 17 [16] (fun w v=>zBa w lo v (zAZ N fun j=>prQ (f j-f k/B i k*B i j)))] ?_;refine sRd ?_;refine sRc (fun wS hI Gk H=>by go_simp;exact ck H (zFQ (a:=5^i*e) (b:=5^i*e) _ _ (f k) (B i k) _ (S.out.I hI.bel) (b0.out.I hI.bel) (s.out k x) (E.out k x) (by have:=P.out;omega) T.out)) (fun c9 _=>?_);refine sRc (fun wS hI I Gk H=>by go_simp;exact ck H (((zJF (ea:=5^i*e) (eb:=5^i*e) (ec:=5^i*e+5^i*e) _ _ _ N N f (B i) (f k/B i k) _ (g.out.I hI.bel).prs (h.out.I hI.bel).prs I (xgf _) Y s.out E.out ((s.out k x).div (E.out k x) T.out) (by have:=P.out;omega)).mono fun e w' hh=>by obtain⟨u,b6,b7,b8⟩:=hh;exact⟨u,b6,b7.mono (by have:=hI.bel.size;have:=d.size;omega),b8⟩))) (fun b9 _=>?_);refine sRe ?_;intro w2 b5 I a0;have b3:zBa w2 lo b9 (zAZ N fun t=>prQ (rdB n B (i+1) a t)):=by rw[a9.out];exact a0
  have d:=nx d b5;clear I a0 d1 d2 d3 d4 V e2 e3 e4 D;go_wp2;go_roundw
  case rel=>exact⟨i+1,by omega,by simp,b3,d⟩
  case measure=>simp[intOf];omega
 obtain rfl:i=m:=by omega
 go_wp2;go_ret;exact⟨_,rfl,z,d⟩
theorem zDV.typ(h:zDV w base v xs)(a:v.ownBlock=some g):∃b,w.heap[g]?=some (.cells b tNn (0,0)):=by
 rcases h.2.2 with⟨rfl,-⟩|⟨d,cap,b,rfl,e,c,f⟩
 cases a;injection a with a
 subst a;exact⟨_,c⟩
theorem LqO.type{M:List (List (Int × Int))}(h:LqO w lo base v M)(a:v.ownBlock=some g):∃b,w.heap[g]?=some (.cells b tLq (0,0)):=by
 obtain⟨j,c,-⟩:=h;rcases c.2 with⟨rfl,-⟩|⟨e,cap,b,rfl,f,d,i⟩
 cases a;injection a with a
 subst a;exact⟨_,d⟩
theorem zDV.grown{row:Option Nat}(h:zDV w base v xs)(f:w.grownBy w' row)(i:∀g,row=some g->∃(cs:Array Value) (T:TypeId),w.heap[g]?=some (.cells cs T (0,0))/\T≠tNn):zDV w' base v xs:=by
 refine⟨h.1,h.2.kept f ?_⟩;by_cases e:v.ownBlock=row
 .cases b:v.ownBlock with
  |none=>exact .inl rfl
  |some g=>
   obtain⟨j,c⟩:=h.typ b;obtain⟨cs,T,a,d⟩:=i g (e.symm.trans b);rw[c]at a;injection a with a
   injection a with _ a
   exact absurd a.symm d
 exact .inr e
theorem zBa.grown{c:List (Int × Int)}{row:Option Nat}(h:zBa w lo v c)(f:w.grownBy w' row)(j:∀g,row=some g->∃(cs:Array Value) (T:TypeId),w.heap[g]?=some (.cells cs T (0,0))/\T≠tQ)(k:zBC w w'):zBa w' lo v c:=
 h.old (fun g i=>by
  obtain⟨l,b⟩:=h.type i;refine f.block g (Array.getElem?_eq_some_iff.1 b).1 fun e=>?_
  obtain⟨cs,T,a,d⟩:=j g e.symm;rw[b]at a;injection a with a
  injection a with _ a
  exact d a.symm) k
def zIo(C R:Nat)(A:Nat->Nat->Rat)(w:World)(v:Value):Prop:=∃o m k l B,v= .slice o m k/\zBI w o l/\l.length=m/\m<=k/\k<=9223372036854775807/\zHS C R m A (fun k=>l.getD k 0) B
theorem zIo.I{A:Nat->Nat->Rat}(h:zIo C R A w v)(d:Below w.heap.size w w'):zIo C R A w' v:=by
 obtain⟨o,m,k,l,B,a,b,c⟩:=h;exact⟨o,m,k,l,B,a,b.I d,c⟩
theorem zFx(C R:Nat)(A:Nat->Nat->Rat):zAA (zIo C R A):=fun _ _ _ e h=>h.I e
theorem zPm{l:List Nat}:(fun k=>if k=l.length then i else l.getD k 0)=fun k=>(l++ [i]).getD k 0:=by
 funext k
 simp only[xgb];split
 .rename_i e
  subst e;simp
 rcases zJ k l.length with g|g
 rw[List.getElem?_append_left g];rw[List.getElem?_eq_none oM,List.getElem?_eq_none (by simp;omega)]
theorem zIP(v:Value)(R C:Nat)(M:List (List Int))(w:World)(h:zAo w v R C M)(hF:zBe R C M)(hR:R<=1000)(hC:C<=1000)(he:1<=e)(hM:∀a,a<R->∀b,b<C->(ent M a b).natAbs<2^e)(f1:5^R*e<=1000000):
  Calls Tryz.prog 24 #[v] w fun e w'=>∃u,e= .returned u/\zIo C R (fun i j=>(ent M i j:Rat)) w' u/\Below w.heap.size w w':=by
 obtain⟨A,rfl,h⟩:=h;obtain⟨ao,n,cap,rfl,e2,e3,e4,-⟩:=id h;obtain rfl:R=n:=by rw[<-e2,hF.1]
 have e7:=xgv h;have HF:=xgv hF;have e0:qS (∀a,a<R->∀j,j<C->HQ e ((ent M a j:Int):Rat)):=⟨fun a ha j H=>HQ.int (hM a ha j H) he⟩;have b6:=xgw he;have d6:qS (∀m,m<=R->5^m*e<=1000000):=⟨fun m hm=>by have:=zF3 (e:=e) hm;omega⟩;clear h hF e2 hM he f1;go_enter Tryz.func24,Tryz.ntmps24;go_upto_region 1 with(fail)
 refine zE ?_;intro f c7;obtain⟨b9,c,f8⟩:=qL c7;clear c7;go_upto_region 2 with(fail)
 refine zE ?_;intro W1 a1;have c8:=((zB f.heap.size f).alloc (xgf _) (.cells #[] tNn)).alloc sI (.cells #[] tLq);have N:zDV W1 f.heap.size (.slice (some ⟨f.heap.size,0,none⟩) 0 0) []:=by rw[a1.out];exact(zDV.empty f _ (xgf _)).alloc _
 have S:LqO W1 0 f.heap.size (.slice (some ⟨f.heap.size+1,0,none⟩) 0 0) []:=by
  rw[a1.out];have:=LqO.made (lo:=0) (base:=f.heap.size) (f.alloc (.cells #[] tNn)) sI;simpa using this
 have a2:Below f.heap.size f W1:=by rw[a1.out];exact c8
 have c:=c.I a2;have d:=nx b9 a2;have q0:=b9.size;obtain⟨base,d0⟩:∃g,f.heap.size=g:=⟨_,rfl⟩;rw[d0]at S N f8 q0 ⊢
 have q:base<=W1.heap.size:=by have:=a2.size;omega
 clear a1 a2 d0 c8;have F:qS (zHS C 0 0 (fun i j=>((ent M i j:Int):Rat)) (fun k=>([]:List Nat).getD k 0) fun _ _=>0):=⟨zHS.start _ _ _ _⟩;go_wp2;go_loopw [3,4,5] (fun u b iv wr=>∃(i m:Nat) (l:List Nat) (B:Nat->Nat->Rat),i<=R/\iv= .int .i64 i/\zDV wr base u l/\l.length=m/\LqO wr 0 base b (zEK m C B)/\qS (zHS C i m (fun i j=>((ent M i j:Int):Rat)) (fun k=>l.getD k 0) B)/\qS (∀k,k<m->∀j,j<C->HQ (5^k*e) (B k j))/\m<=i/\Below w.heap.size w wr/\Blk wr w.heap.size 29 #[.int .i64 R,.int .i64 C,.slice ao R cap]/\base<=wr.heap.size) (fun _ _ iv _=>R-(intOf iv).toNat)
 case atStart=>exact⟨0,0,[],_,by omega,rfl,N,rfl,S,F,⟨fun k I=>by omega⟩,by omega,d,c,q⟩
 clear d c S N q F;obtain⟨i,m,l,B,hi,rfl,N,a9,S,F,a0,g6,d,c,q⟩:=hrel;obtain⟨c1,c2,c3,c4,c5,c6⟩:=c.three;by_cases d2:i<R
 .obtain⟨bm,ra,rn,rc,zs,rfl,g5,hz,p1,b3⟩:=(e7.out.I d).row (k:=i) (by rw[HF.out.1];exact d2)
  obtain rfl:=HF.out.row_eq hz;have b2:=b3.len;rw[zO]at b2;have f7:=b2.1;subst f7;have e6:=xgv b3;have z:=xgv N;have D:=xgv S;have g7:=d.size;obtain⟨x,hx⟩:∃x:Nat->Rat,(fun j=>((ent M i j:Int):Rat))=x:=⟨_,rfl⟩;have HX:qS (∀j,j<C->HQ e (x j)):=⟨fun j H=>by rw[<-hx];exact e0.out i d2 j H⟩;have e5:qS (∀(v:Value) (w:World),zAR w v (qQ C (ent M i))->Calls Tryz.prog 59 #[v] w fun e w'=>∃u,e= .returned u/\zBa w' 0 u (zAZ C fun j=>prQ (x j))/\Below w.heap.size w w'):=⟨fun v w t=>(zJG v C (ent M i) w t oM).mono fun e w' hh=>by
   obtain⟨u,K,W,h3⟩:=hh;exact⟨u,K,by rw[<-hx];exact W.mono (zG _),h3⟩⟩
  obtain⟨y,hy⟩:∃y,rdB C B m x=y:=⟨_,rfl⟩;have e1:qS (∀(r lv:Value) (w:World),zBa w 0 r (zAZ C fun j=>prQ (x j))->LqV w 0 lv (zEK m C B)->Calls Tryz.prog 29 #[r,lv,.int .i64 C] w fun e w'=>∃u,e= .returned u/\zBa w' 0 u (zAZ C fun j=>prQ (y j))/\Below w.heap.size w w'):=⟨fun r lv w K W=>hy ▸ zGR r lv 0 C C m x B w K W (xgf _) oM oM (zG _) F.out.ec b6.out a0.out HX.out (d6.out m oM)⟩;have e9:qS (∀j,j<C->HQ (5^m*e) (y j)):=⟨fun j H=>hy ▸ zQZ b6.out (xgf _) F.out.ec a0.out HX.out m (xgf _) j H⟩;obtain⟨k,I⟩:∃k,zDY C y=k:=⟨_,rfl⟩;have b5:qS (∀(r:Value) (w:World),zBa w 0 r (zAZ C fun j=>prQ (y j))->Calls Tryz.prog 30 #[r,.int .i64 C] w fun e w'=>∃v,e= .returned v/\v= .int .i64 k/\Below w.heap.size w w'):=⟨fun r w K=>(zEj r C C y w K.prs (xgf _) oM).mono fun e w' hh=>⟨_,hh.1,by rw[I],hh.2⟩⟩;have U:qS (rdB C B m (fun j=>((ent M i j:Int):Rat))=y/\zDY C y=k):=⟨by rw[hx];exact hy,I⟩;have f2:=zEd 0 (zAZ C fun j=>prQ (x j));have f3:=zEd 0 (zAZ C fun j=>prQ (y j));clear hz b3 b2 N S hx hy I;go_upto_region 5 with(fail)
  refine yD 10 [pcD 5 [] (fun w v=>zBa w 0 v (zAZ C fun j=>prQ (x j))),pcD 9 [5] (fun w v=>zBa w 0 v (zAZ C fun j=>prQ (y j)))] ?_;refine sRd ?_;refine sRc (fun wS hI Gk L=>by go_simp;exact ck L (e5.out _ _ (e6.out.I hI.bel))) (fun h4 _=>?_);refine sRd ?_;refine sRc (fun wS hI a4 Gk L=>by go_simp;exact ck L (e1.out _ _ _ a4 (D.out.I hI.bel).vs)) (fun g4 _=>?_);refine sRe ?_;intro w2 X a4 a5;obtain⟨ro,rk,g2⟩:∃o k,g4= .slice o C k:=by
   obtain⟨o,k,e,-,-⟩:=(show zBa _ _ _ _ from a5).shape;rw[zU]at e;exact⟨_,_,e⟩
  subst g2;have P:=xgv (show zBa w2 0 (.slice ro C rk) (zAZ C fun j=>prQ (y j)) from a5);have z:=xgv (z.out.I X);have D:=xgv (D.out.I X);have c:=c.I X;have d:=nx d X;have q:=zF q X.size;clear c1 c2 c3 c4 c5 c6 p1 a4 a5 f2 f3;obtain⟨c1,c2,c3,c4,c5,c6⟩:=c.three;go_upto_region 6 with(fail)
  by_cases d1:k<C
  .have a8:(k:Int)<(C:Int):=by omega
   refine zBK [pcD 3 [] (fun _ v=>v= .int .i64 k)] ?_;refine sRd ?_;refine sRc (fun wS hI Gk L=>?_) (fun _ t=>?_)
   .go_simp
    refine(b5.out _ _ (P.out.I hI.bel)).mono ?_;rintro e wa ⟨v,rfl,t,a7⟩;exact⟨_,rfl,L _ _ t,a7⟩
   obtain⟨_,-,rfl⟩:=t;refine sRd ?_;refine sRe ?_;intro J p _;have P:=xgv (P.out.I p);have z:=xgv (z.out.I p);have D:=xgv (D.out.I p);have c:=c.I p;have d:=nx d p;have q:=zF q p.size;have f5:=xgw a9;have g9:=c.lt;have c9:=(zB J.heap.size J).alloc (xgf _) (.cells #[.int .i64 i] tNn);have b8:=xgv (P.out.I c9);have Z:=xgv (D.out.I c9);have d5:zBI (J.alloc (.cells #[.int .i64 i] tNn)) (some ⟨J.heap.size,0,none⟩) [i]:=⟨by simp;omega,fun _=>⟨_,0,_,rfl,heap_alloc_new J _,fun k x I=>by
    match k with
    |0=>simp at I;subst I;rfl
    |k+1=>simp at I⟩⟩
   clear c1 c2 c3 c4 c5 c6 a8;go_upto_region 8 with(at_builtin;refine zV9 rfl _ _ rfl base u3 l rfl (z.out.alloc _) (some ⟨J.heap.size,0,none⟩) 1 1 [i] rfl d5 rfl (by simp;omega) (by simp;omega) ?_;intro v4 O d3 G)
   have G:World.grownBy (J.alloc (.cells #[.int .i64 i] tNn)) O (Value.ownBlock u3):=G;have Q:=z.out.alloc (.cells #[.int .i64 i] tNn);have d4:=zCA Q.2 dE G;have b7:=xgv (Z.out.grown G (fun g s=>by obtain⟨V,Y⟩:=Q.typ s;exact⟨V,_,Y,by decide,by decide⟩) d4);have e8:=xgv (b8.out.grown G (fun g s=>by obtain⟨V,Y⟩:=Q.typ s;exact⟨V,_,Y,by decide⟩) d4);have T4:Blk O w.heap.size 29 #[.int .i64 R,.int .i64 C,.slice (some ⟨bm,0,none⟩) R cap]:=(G.block _ (by simp;omega) (fun e=>by have:=Q.own _ e.symm;omega)).trans (c.alloc _);have c0:Below w.heap.size w O:=(d.alloc d.size _).grown G (by simp;omega) (fun g s=>by have:=Q.own g s;omega);have f9:=G.size;simp at f9;have d8:=xgv d3;have a6:=(zB O.heap.size O).alloc (xgf _) (.cells #[.slice ro C rk] tLq);clear d3 d5 Q P D z b8 Z c;go_wp2_with (at_builtin;go_loud (refine zTn rfl _ _ rfl 0 base u4 (zEK m C B) rfl (b7.out.I a6) O.heap.size 1 _ (zAZ C fun j=>prQ (y j)) rfl (yJ _ _ _) (e8.out.I a6) (by rw[zCP];omega) (by simp;omega) ?_;intro v5 w5 f6 T g8))
   have T:World.grownBy (O.alloc (.cells #[.slice ro C rk] tLq)) w5 (Value.ownBlock u4):=T;have a3:=b7.out.I a6;have d9:=(d8.out.alloc (.cells #[.slice ro C rk] tLq)).grown T (fun g s=>by obtain⟨V,Y⟩:=a3.type s;exact⟨V,_,Y,by decide⟩);have h0:=T4.lt;have T5:Blk w5 w.heap.size 29 #[.int .i64 R,.int .i64 C,.slice (some ⟨bm,0,none⟩) R cap]:=(T.block _ (by simp;omega) (fun e=>by have:=a3.own _ e.symm;omega)).trans (T4.alloc _);have f0:Below w.heap.size w w5:=(c0.alloc c0.size _).grown T (by simp;omega) (fun g s=>by have:=a3.own g s;omega);have g1:=T.size;simp at g1;go_roundw
   case rel=>
    have b0:=F.out.push (by rw[U.out.1,U.out.2];exact d1);rw[U.out.1]at b0;have f4:=f5.out;subst f4;rw[zPm]at b0;refine⟨i+1,l.length+1,l++ [i],upB B l.length y,by omega,by simp,d9,by simp,?_,⟨b0⟩,⟨fun b4 ht j H=>?_⟩,by omega,f0,T5,by omega⟩
    .rw[zG1,zFo,zIT (E:=B) fun b4 ht=>zEP ht]
     exact f6
    by_cases e:b4=l.length
    .subst e;rw[zFo];exact e9.out j H
    rw[zEP oM];exact a0.out b4 oM j H
   case measure=>simp[intOf];omega
  have a8:¬ (k:Int)<(C:Int):=by omega
  refine zBK [pcD 3 [] (fun _ v=>v= .int .i64 k)] ?_;refine sRd ?_;refine sRc (fun wS hI Gk L=>?_) (fun _ t=>?_)
  .go_simp
   refine(b5.out _ _ (P.out.I hI.bel)).mono ?_;rintro e wa ⟨v,rfl,t,a7⟩;exact⟨_,rfl,L _ _ t,a7⟩
  obtain⟨_,-,rfl⟩:=t;refine sRd ?_;refine sRe ?_;intro J p _;have d7:=z.out.I p;have Z:=D.out.I p;have c:=c.I p;have d:=nx d p;have q:=zF q p.size;have g3:=xgv (F.out.skip (by rw[U.out.1,U.out.2];exact d1));clear c1 c2 c3 c4 c5 c6 a8;go_wp2;go_roundw
  case rel=>exact⟨i+1,m,l,B,by omega,by simp,d7,a9,Z,g3,a0,by omega,d,c,q⟩
  case measure=>simp[intOf];omega
 obtain rfl:i=R:=by omega
 obtain⟨o,k,rfl,K,W,h3⟩:=N.at_;go_wp2;go_ret;exact⟨_,rfl,⟨o,_,k,l,B,rfl,h3,rfl,K,W,a9 ▸ F.out⟩,d⟩
def zLc(w:World)(lo:Nat)(v:Value)(ps:List (Int × Int)):Prop:=
 ∃ao n cap,v= .slice ao n cap/\ps.length=n/\n<=cap/\cap<=9223372036854775807/\(ps≠ []->∃b,ao=some ⟨b,0,none⟩/\lo<=b/\zCB w b ps)
theorem zLc.I{c:List (Int × Int)}(h:zLc w lo v c)(j:Below w.heap.size w w'):zLc w' lo v c:=by
 obtain⟨ao,n,cap,d,e,f,g,i⟩:=h;exact⟨ao,n,cap,d,e,f,g,fun k=>(i k).elim fun b a=>⟨b,a.1,a.2.1,a.2.2.I j⟩⟩
theorem zBa.prsW{d:List (Int × Int)}(h:zBa w lo v d):zLc w lo v d:=by
 obtain⟨ao,n,cap,c,f,g,i,j⟩:=h.prs;refine⟨ao,n,cap,c,f,g,i,fun k=>?_⟩;obtain⟨b,a,e⟩:=j k;exact⟨b,a,(h.own b (by rw[c,a];rfl)).1,e⟩
theorem zLc.at_{a:List (Int × Int)}(h:zLc w lo (.slice ao n cap) a)(s:k<n):∃b,ao=some ⟨b,0,none⟩/\lo<=b/\zCB w b a/\a.length=n:=by
 obtain⟨m,t,o,j,c,q,r,l⟩:=h;injection j with d f p
 subst d f;obtain⟨b,e,g,i⟩:=l (by rintro rfl;simp at c;omega);exact⟨b,e,g,i,c⟩
theorem zCB.prsW{a:List (Int × Int)}(h:zCB w b a)(f:lo<=b)(c:a.length=n)(d:n<=cap)(e:cap<=9223372036854775807):zLc w lo (.slice (some ⟨b,0,none⟩) n cap) a:=⟨_,n,cap,rfl,c,d,e,fun _=>⟨b,rfl,f,h⟩⟩
theorem zOT(n:Nat)(k:Int)(w:World)(hn:n<=1000)(hk:-1<=k)(a2:k<=1000):
  Calls Tryz.prog 27 #[.int .i64 n,.int .i64 k] w fun e w'=>∃u,e= .returned u/\zLc w' w.heap.size u (zAZ n fun t=>prQ (if(t:Int)=k then 1 else 0))/\Below w.heap.size w w':=by
 go_enter Tryz.func27,Tryz.ntmps27;go_upto_region 2 with(fail)
 refine zE ?_;intro P E;have a:Below w.heap.size w P:=by rw[E.out];exact(zB _ _).alloc (xgf _) _
 have d:zBa P w.heap.size (.slice (some ⟨w.heap.size,0,none⟩) 0 0) []:=by rw[E.out];exact zBa.made w (xgf _)
 clear E;go_wp2;go_loopw [5,6] (fun u I wr=>∃i:Nat,i<=n/\I= .int .i64 i/\zBa wr w.heap.size u (zAZ i fun _=>prQ (((0:Int)):Rat))/\Below w.heap.size w wr) (fun _ I _=>n-(intOf I).toNat)
 case atStart=>exact⟨0,by omega,rfl,d,a⟩
 clear a d;obtain⟨i,hi,rfl,d,a⟩:=hrel;by_cases a7:i<n
 .obtain⟨z,y,rfl⟩:∃o k,u5= .slice o i k:=by
   obtain⟨o,k,e,-,-⟩:=d.shape;rw[zU]at e;exact⟨_,_,e⟩
  go_wp2_with fail
  refine(zCm 0 wr dE dE).mono ?_;rintro e s ⟨rv,rfl,⟨N,C,L,J,O,D,M,K,rfl,q,r⟩,j⟩;have F:=(zB s.heap.size s).alloc (xgf _) (.cells #[.bool N,.slice C L J,.bool O,.slice D M K] tQ);have A:=xgv (q.ext (lx F));have B:=xgv (r.ext (lx F));have U:=xgv d;have Z:=(d.I j).I F;have a:=nx a j;have a8:=a.size;clear q r;go_wp2_with (at_builtin;go_loud (refine zTo rfl _ _ rfl w.heap.size (.slice z i y) (zAZ i fun _=>prQ (((0:Int)):Rat)) rfl Z s.heap.size 1 _ _ _ _ _ _ _ _ (prQ (((0:Int)):Rat)) rfl (yJ _ _ _) A.out B.out (by rw[zU];omega) (by simp;omega) ?_;intro v' w' a1 H a9))
  have H:World.grownBy (s.alloc (.cells #[.bool N,.slice C L J,.bool O,.slice D M K] tQ)) w' (Value.ownBlock (.slice z i y)):=H;have Y:Below w.heap.size w w':=(a.alloc a.size _).grown H (by simp;omega) (fun g hg=>by have:=U.out.own g hg;omega);go_roundw
  case rel=>exact⟨i+1,by omega,by simp,by rw[zEC];exact a1,Y⟩
  case measure=>simp[intOf];omega
 obtain rfl:i=n:=by omega
 have l:=d.prsW;obtain⟨z,un,y,rfl,Q,W,X,-⟩:=id l;obtain rfl:i=un:=by rw[<-Q,zU]
 by_cases a0:0<=k/\k<i
 .obtain⟨c,rfl⟩:∃m:Nat,k=(m:Int):=⟨k.toNat,by omega⟩
  have x:c<i:=by omega
  have a3:(c:Int)<(i:Int):=by omega
  have S:(0:Int)<=(c:Int):=by omega
  have v:=xgv l;clear l Q d;go_upto_region 7 with(fail)
  go_wp2_with fail
  refine(zCm 1 wr dE dE).mono ?_;rintro e s ⟨rv,rfl,⟨N,C,L,J,O,D,M,K,rfl,q,r⟩,j⟩;obtain⟨b,rfl,T,G,a4⟩:=(v.out.I j).at_ x;have A:=xgv q;have B:=xgv r;have a:=nx a j;obtain⟨_,_,_,_,_,_,_,_,e1,e2,e3,e4,f,-⟩:=G.cell (k:=c) (zBP x);have f1:=f (c*4);have f2:=f (c*4+1);have f3:=f (c*4+2);have f4:=f (c*4+3);have V:=xgv (G.set (k:=c) (p:=prQ (((1:Int)):Rat)) (by rw[zU];exact x) A.out B.out);have HB:=xgv a;clear q r f G a;go_wp2;go_ret;refine⟨_,rfl,?_,zA8 HB.out T _ _ _ _ _⟩;have R:=V.out.1;rw[zHW]at R;rw[show zAZ i (fun t=>prQ (if(t:Int)=(c:Int)then 1 else 0))=zAZ i fun t=>if t=c then prQ (((1:Int)):Rat)else prQ (((0:Int)):Rat) from zBL fun t _=>by
   by_cases e:t=c
   .rw[zC e,zC oM];rfl
   rw[zA e,zA oM];rfl]
  exact R.prsW T (by rw[zU]) W X
 have v:qS (zLc wr w.heap.size (.slice z i y) (zAZ i fun t=>prQ (if(t:Int)=k then 1 else 0))):=⟨by
  rw[show zAZ i (fun t=>prQ (if(t:Int)=k then 1 else 0))=zAZ i fun t=>prQ (((0:Int)):Rat) from zBL fun t ht=>by
   rw[zA oM];rfl]
  exact l⟩
 clear l d;by_cases S:0<=k
 .have x:¬ k<(i:Int):=fun h=>a0 ⟨S,h⟩
  go_wp2;go_ret;exact⟨_,rfl,v.out,a⟩
 go_wp2;go_ret;exact⟨_,rfl,v.out,a⟩
theorem zPb(hF:zBe R C M)(h:¬ (i<R/\j<C)):ent M i j=0:=by
 unfold ent;rcases zJ i R with g|g
 .have a:i<M.length:=by rw[hF.1];exact g
  have b:M.getD i []=M[i]:=by simp[xgb,a]
  have c:=hF.2 _ (jE a);rw[b,xgb,List.getElem?_eq_none oM];rfl
 have:M.getD i []= []:=by rw[xgb,List.getElem?_eq_none (by rw[hF.1];exact g)];rfl
 rw[this];rfl
theorem zVT(hF:zBe R C M):(fun i j=>((ent (yV C R fun a b=>ent M b a) i j:Int):Rat))=fun i j=>((ent M j i:Int):Rat):=by
 funext i j
 by_cases h:i<C/\j<R
 .rw[zA9 h.1 h.2]
 rw[zPb (zB7 C R _) h,zPb hF fun c=>h ⟨c.2,c.1⟩]
theorem zOS(v:Value)(R C:Nat)(M:List (List Int))(w:World)(h:zAo w v R C M)(hF:zBe R C M)(E:R<=1000)(D:C<=1000)(o:1<=e)(m:∀a,a<R->∀b,b<C->(ent M a b).natAbs<2^e)(J:5^R*e<=1000000)(K:5^C*e<=1000000):
  Calls Tryz.prog 7 #[v] w fun e w'=>∃u1 u2,e= .returned (.tuple #[u1,u2])/\zIo C R (fun i j=>(ent M i j:Rat)) w' u1/\zIo R C (fun i j=>(ent M j i:Rat)) w' u2/\Below w.heap.size w w':=by
 obtain⟨A,rfl,L⟩:=id h;obtain⟨ao,n,cap,rfl,r,-,-,-⟩:=id L;obtain rfl:R=n:=by rw[<-r,hF.1]
 have H:=xgv h;have p:qS (∀(v:Value) (w:World),zAo w v R C M->Calls Tryz.prog 24 #[v] w fun e w'=>∃u,e= .returned u/\zIo C R (fun i j=>(ent M i j:Rat)) w' u/\Below w.heap.size w w'):=⟨fun v w k=>zIP v R C M w k hF E D o m J⟩;have N:qS (∀(v:Value) (w:World),zAo w v R C M->Calls Tryz.prog 25 #[v] w fun e w'=>∃v,e= .returned v/\zAo w' v C R (yV C R (fun a b=>ent M b a))/\Below w.heap.size w w'):=⟨fun v w k=>zFA v R C M w k hF oM oM⟩;have q:qS (∀(v:Value) (w:World),zAo w v C R (yV C R (fun a b=>ent M b a))->Calls Tryz.prog 24 #[v] w fun e w'=>∃u,e= .returned u/\zIo R C (fun i j=>(ent M j i:Rat)) w' u/\Below w.heap.size w w'):=⟨fun v w k=>by
  have:=zIP v C R (yV C R (fun a b=>ent M b a)) w k (zB7 _ _ _) D E o (fun a G b I=>by rw[zA9 G I];exact m b I a G) K;rw[zVT hF]at this;exact this⟩
 obtain⟨d,y⟩:∃d:Nat->Nat->Rat,(fun i j=>((ent M i j:Int):Rat))=d:=⟨_,rfl⟩;obtain⟨f,z⟩:∃f:Nat->Nat->Rat,(fun i j=>((ent M j i:Int):Rat))=f:=⟨_,rfl⟩;rw[y]at p ⊢
 rw[z]at q ⊢
 have a0:=zFx C R d;have a1:=zFx R C f;have a2:=zAl C R (yV C R fun a b=>ent M b a);clear h L r hF m J K o y z;go_enter Tryz.func7,Tryz.ntmps7;go_upto_region 1 with(fail)
 refine zE ?_;intro T F;obtain⟨B,O,a3⟩:=qL F;have H:=xgv (H.out.I B);obtain⟨U,V,W,X,Y,Z⟩:=O.three;clear F;refine zBK [pcD 1 [] (zIo C R d),pcD 3 [] (fun w v=>zAo w v C R (yV C R fun a b=>ent M b a)),pcD 4 [3] (zIo R C f),pcD 5 [1] (zIo C R d),pcD 6 [4] (zIo R C f)] ?_;refine sRd ?_;refine sRc (fun l hI g c=>by go_simp;exact ck c (p.out _ _ (H.out.I hI.bel))) (fun a4 _=>?_);refine sRd ?_;refine sRc (fun l hI g c=>by go_simp;exact ck c (N.out _ _ (H.out.I hI.bel))) (fun a5 _=>?_);refine sRc (fun l hI t g c=>by go_simp;exact ck c (q.out _ _ t)) (fun a6 _=>?_);refine sRc (fun l hI s g c=>by go_simp;exact⟨c _ _ s,zB _ _⟩) (fun a7 _=>?_);refine sRc (fun l hI x g c=>by go_simp;exact⟨c _ _ x,zB _ _⟩) (fun a8 _=>?_);refine sRe ?_;intro w1 S s t x P Q;go_wp2;go_ret2;exact⟨_,_,rfl,P,Q,nx B S⟩
def zIc(w:World)(lo b n m:Nat)(E:Nat->Nat->Rat):Prop:=∃cs:Array Value,Blk w b tLq cs/\n<=cs.size/\∀i,i<n->∃o c,cs[i]?=some (.slice o m c)/\zBa w lo (.slice o m c) (zAZ m fun t=>prQ (E i t))
theorem zIc.I{E:Nat->Nat->Rat}(h:zIc w lo b n m E)(a:Below w.heap.size w w'):zIc w' lo b n m E:=by
 obtain⟨cs,f,g,j⟩:=h;refine⟨cs,f.I a,g,fun i k=>?_⟩;obtain⟨o,c,d,e⟩:=j i k;exact⟨o,c,d,e.I a⟩
theorem zBa.neLq{f:List (Int × Int)}(h:zBa w lo v f)(a:Blk w b tLq cs):∀g,v.ownBlock=some g->g≠b:=fun g d e=>by
 obtain⟨i,c⟩:=h.type d;unfold Blk at a;rw[<-e,c]at a;injection a with a
 injection a with _ a
 exact absurd a dE
theorem zIc.put{E:Nat->Nat->Rat}{x:Nat->Rat}{c:Nat}(h:zIc w lo b n m E)(y:k<n)(hv:zBa w lo (.slice o m c) (zAZ m fun t=>prQ (x t))):
  zIc (w.setCell ⟨b,k,none⟩ (.slice o m c)) lo b n m (fun i=>if i=k then x else E i)/\zBC w (w.setCell ⟨b,k,none⟩ (.slice o m c))/\∀g,g≠b->(w.setCell ⟨b,k,none⟩ (.slice o m c)).heap[g]?=w.heap[g]?:=by
 obtain⟨cs,d,r,s⟩:=h;have j:=d.lext (by decide:tLq≠tU) k (.slice o m c);have f:∀g,g≠b->(w.setCell ⟨b,k,none⟩ (.slice o m c)).heap[g]?=w.heap[g]?:=fun g a=>yO w b k g _ a
 refine⟨⟨cs.setIfInBounds k (.slice o m c),d.set_ k _,by simpa using r,fun i u=>?_⟩,j,f⟩;by_cases e:i=k
 .subst e
  refine⟨o,c,Array.getElem?_setIfInBounds_self_of_lt oM,?_⟩;show zBa _ _ _ (zAZ m fun t=>prQ ((if i=i then x else E i) t));rw[zC rfl];exact hv.old (fun g a=>f g (hv.neLq d g a)) j
 obtain⟨v,p,q,l⟩:=s i u;refine⟨v,p,by rw[xgc (zL e)];exact q,?_⟩;show zBa _ _ _ (zAZ m fun t=>prQ ((if i=k then x else E i) t));rw[zA e];exact l.old (fun g a=>f g (l.neLq d g a)) j
theorem zIc.row{E:Nat->Nat->Rat}(h:zIc w lo b n m E)(g:i<n):∃o c,w.cell? ⟨b,i,none⟩=some (.slice o m c)/\w.frozen? ⟨b,i,none⟩=false/\zBa w lo (.slice o m c) (zAZ m fun t=>prQ (E i t)):=by
 obtain⟨cs,a,j,f⟩:=h;obtain⟨o,c,d,e⟩:=f i g;exact⟨o,c,(a.cell i).trans d,a.frozen i,e⟩
theorem zIc.congr{E F:Nat->Nat->Rat}(h:zIc w lo b n m E)(e:∀i,i<n->∀j,j<m->E i j=F i j):zIc w lo b n m F:=by
 obtain⟨cs,l,p,q⟩:=h;refine⟨cs,l,p,fun i a=>?_⟩;obtain⟨o,c,d,k⟩:=q i a;exact⟨o,c,d,by rw[<-zBL (f:=fun t=>prQ (E i t)) (g:=fun t=>prQ (F i t)) fun j r=>by rw[e i a j r]];exact k⟩
theorem LqV.hdq{c:Nat}{F:Nat->Nat->Rat}(h:LqV w lo (.slice o n c) (zEK n m F))(z:0<n):∃b,o=some ⟨b,0,none⟩/\zIc w lo b n m F:=by
 obtain⟨ao,A,cap,j,v,x,y,k⟩:=h;injection j with g t u
 subst g;obtain⟨b,cs,e,p,f⟩:=k (by rintro e;have:=zCP n m F;rw[e]at this;simp at this;omega);refine⟨b,e,cs,p,?_,fun i l=>?_⟩
 .obtain⟨s,a,-⟩:=f (n-1) _ (zEL oM)
  have:=(Array.getElem?_eq_some_iff.1 a).1;omega
 obtain⟨s,a,d⟩:=f i _ (zEL l);obtain⟨q,r,rfl,-,-⟩:=d.shape;rw[zU]at a d;exact⟨q,r,a,d⟩
def zId(w:World)(g:Nat)(q:Rat):Prop:=∃s a l c s' a' l' c',Blk w g tQ #[.bool s,.slice a l c,.bool s',.slice a' l' c']/\zAx w (.agg #[.bool s,.slice a l c,.bool s',.slice a' l' c']) q
theorem zId.I{q:Rat}(h:zId w g q)(b:Below w.heap.size w w'):zId w' g q:=by
 obtain⟨s,a,l,c,k,d,j,e,f,i⟩:=h;exact⟨s,a,l,c,k,d,j,e,f.I b,i.I b⟩
theorem zId.old{q:Rat}(h:zId w g q)(e:w'.heap[g]?=w.heap[g]?)(x:zBC w w'):zId w' g q:=by
 obtain⟨s,a,l,c,k,b,j,d,f,i⟩:=h;exact⟨s,a,l,c,k,b,j,d,e.trans f,i.ext x⟩
theorem zId.lt{q:Rat}(h:zId w g q):g<w.heap.size:=by
 obtain⟨s,a,l,c,i,d,f,e,b,-⟩:=h;exact b.lt
theorem zId.put{q p:Rat}(h:zId w g q){s a l c s' a' l' c'}(hv:zAx w (.agg #[.bool s,.slice a l c,.bool s',.slice a' l' c']) p):
  zId ((((w.setCell ⟨g,0,none⟩ (.bool s)).setCell ⟨g,1,none⟩ (.slice a l c)).setCell ⟨g,2,none⟩ (.bool s')).setCell ⟨g,3,none⟩ (.slice a' l' c')) g p/\zBC w ((((w.setCell ⟨g,0,none⟩ (.bool s)).setCell ⟨g,1,none⟩ (.slice a l c)).setCell ⟨g,2,none⟩ (.bool s')).setCell ⟨g,3,none⟩ (.slice a' l' c')):=by
 obtain⟨_,_,_,_,_,_,_,_,b,-⟩:=h;have d:=b.lext4 dE 0 (.bool s) (.slice a l c) (.bool s') (.slice a' l' c');exact⟨⟨_,_,_,_,_,_,_,_,b.put4 _ _ _ _,hv.ext d⟩,d⟩
theorem zIc.box{E:Nat->Nat->Rat}(h:zIc w lo b n m E)(d:∀k,k≠g->w'.heap[k]?=w.heap[k]?)(s:zBC w w')(t:g<lo)(p:b≠g):zIc w' lo b n m E:=by
 obtain⟨cs,f,j,l⟩:=h;refine⟨cs,(d b p).trans f,j,fun i q=>?_⟩;obtain⟨o,c,e,a⟩:=l i q;exact⟨o,c,e,a.old (fun k r=>d k (by have:=a.own k r;omega)) s⟩
structure zJT(w wr:World)(n:Nat)(ao:Option Addr)(cap:Nat):Prop where
 bel:Below w.heap.size w wr
 mat:Blk wr w.heap.size 29 #[.int .i64 n,.int .i64 n,.slice ao n cap]
 res:Blk wr (w.heap.size+1) tI #[.bool false,.slice none 0 0]
theorem zJT.I{wr:World}(h:zJT w wr n ao cap)(a:Below wr.heap.size wr wr'):zJT w wr' n ao cap:=⟨nx h.bel a,h.mat.I a,h.res.I a⟩
theorem zJT.set{wr:World}(h:zJT w wr n ao cap)(a:w.heap.size+1<g)(i:Nat)(u:Value):zJT w (wr.setCell ⟨g,i,none⟩ u) n ao cap:=⟨yM h.bel oM _ _,h.mat.far oM _ _,h.res.far oM _ _⟩
theorem zJT.set4{wr:World}(h:zJT w wr n ao cap)(a:w.heap.size+1<g)(i:Nat)(x y z u:Value):zJT w ((((wr.setCell ⟨g,i,none⟩ x).setCell ⟨g,i+1,none⟩ y).setCell ⟨g,i+2,none⟩ z).setCell ⟨g,i+3,none⟩ u) n ao cap:=(((h.set a _ _).set a _ _).set a _ _).set a _ _
theorem zJT.grown{wr:World}{row:Option Nat}(h:zJT w wr n ao cap)(a:wr.grownBy wr' row)(b:∀g,row=some g->base<=g)(d:w.heap.size+1<base):zJT w wr' n ao cap:=⟨h.bel.grown a h.bel.size (fun g c=>by have:=b g c;omega),(a.block _ h.mat.lt fun e=>by have:=b _ e.symm;omega).trans h.mat,(a.block _ h.res.lt fun e=>by have:=b _ e.symm;omega).trans h.res⟩
theorem zJI{fn:Func}{p u:Tmp}(h:fn.results=#[.cell p tI,.tmp u])(tmps:Array Value){W:World}{r:Nat}{v:Array Value}
  (c:tmps.getD p undef= .pointer (some ⟨r,0,none⟩)) (b:Blk W r tI v) (a:v.size=2):
  (results fn tmps).run Tryz.prog W= .ok (.tuple #[.agg v,tmps.getD u undef]) W:=by
 have d:tmps[p]?.getD undef= .pointer (some ⟨r,0,none⟩):=by simpa using c
 simp[results,h,d,asAddr,zCQ b a]
end Go.Proofs.YtniiekppgdkknaaGreat
