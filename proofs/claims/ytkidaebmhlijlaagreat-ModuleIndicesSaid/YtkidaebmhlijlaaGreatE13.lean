/- Joined. -/
import Derived.Defers
import Derived.Recover
import Derived.Test.YtkidaebmhlijlaaGreatE11
set_option linter.unusedVariables false
set_option linter.unusedSimpArgs false
set_option linter.unusedSectionVars false
set_option maxHeartbeats 16000000
set_option maxRecDepth 100000
variable{cs:Array Go.Value}{m0 m1 m2 m3:Int}{q r:List Int}{bS bU bV bW bX bs bs':List Nat}{B C C' CS Cs Ct Cu Cw R R' RS b base bi bj c g i j k n o wb:Nat}{F F' G f:Nat->Nat->Int}{Z:Nat->Prop}{t:Go.TypeId}{A A' AS AU AV AW AX Ai As At mv:Go.Value}{W w w':Go.World}
namespace Go.Proofs.YtkidaebmhlijlaaGreat
open Go.RowKit
theorem zQa(a:BSm B){x:Bst}{rr:Int}(rank:Nat){y:Bst}(f:∀b,Z b->b<w.heap.size)(h:zCh Z w As At Ai n Cs Ct x)(i:okB B n Cs Ct x)
  (j:rank<=n) (g:n<=1000000) (c:Cs<=1000000) (d:Ct<=1000000) (l:zKS B n Cs Ct rank x=some y) (k:rr=rank):
  CPq 186 #[.agg #[As,At,Ai],niq rr] w fun e w'=>(∃u,e= .returned u)/\qK Z w w'/\zCh Z w' As At Ai n Cs Ct y/\okB B n Cs Ct y:=by
 subst k;exact zR5 a f h i j g c d l
theorem zJt(C:BSm B){f:Nat}{x y:Bst}(q:∀b,Z b->b<w.heap.size)(h:zCh Z w As At Ai n Cs Ct x)(d:okB B n Cs Ct x)
  (G:n<=1000000) (D:Cs<=1000000) (E:Ct<=1000000) (R:qAM B n Cs Ct f x=some y):
  CPq 158 #[.agg #[As,At,Ai]] w fun e w'=>(∃u,e= .returned u)/\qK Z w w'/\zCh Z w' As At Ai n Cs Ct y/\okB B n Cs Ct y:=by
 obtain⟨V,U,X,W,T,S,rfl,rfl,rfl,a4,a5,hg⟩:=h.shape;have J:=xgv (And.intro d R);clear d R;go_enter Tryz.func158,Tryz.ntmps158;go_upto_region 1 with(fail)
 refine zF ?_;intro W0 P;obtain⟨N,a,a3⟩:=qJ P;have g:=h.I N;have c:=qK.of Z N;have o:=a.three;clear P h;go_wp2;clear o;go_loopw [2,7] (fun rv mv wt=>∃(k m:Nat) (A:Bst),rv=niq k/\mv=niq m/\k<=m/\m<=n/\qK Z w wt/\Blk wt w.heap.size 176 #[.slice V n U,.slice X n W,.slice T n S]/\zCh Z wt (.slice V n U) (.slice X n W) (.slice T n S) n Cs Ct A/\jI (okB B n Cs Ct A/\zRC B n Cs Ct f (n-m) m k A=some y)) (fun _ mv _=>n-(intOf mv).toNat)
 case atStart=>exact⟨0,0,x,rfl,rfl,xgf _,zH _,c,a,g,⟨⟨J.out.1,by rw[Nat.sub_zero];exact J.out.2⟩⟩⟩
 rename World=>wt
 obtain⟨k,m,A,rfl,rfl,a1,a2,c,a,g,t⟩:=hrel;have o:=a.three;by_cases a0:m<n
 .obtain⟨l,hl⟩:∃l,n-m=l+1:=⟨n-m-1,oM⟩
  have Q:n-(m+1)=l:=oM;have i:=t.out.2;rw[hl]at i;unfold zRC at i;rw[zAW]at i;obtain⟨⟨x1,bb⟩,h4,K⟩:=i;rw[zAW]at K;obtain⟨Y,L,M⟩:=K;have I:=xgv h4;have z:=xgv L;have v:=xgv M;have j:=xgv t.out.1;clear L M t;have r:∀b,Z b->b<wt.heap.size:=fun b F=>by have:=q b F;have:=c.bel.size;omega
  go_wp2_with fail
  refine(zWm C r g j.out a0 a1 G D E I.out).mono ?_;rintro e w1 ⟨rfl,O,g,d⟩;have j:=xgv d;have c:=c.trans O;have a:=O.blk a (fun s=>by have:=q _ s;omega);clear o d r I;have o:=a.three;have r:∀b,Z b->b<w1.heap.size:=fun b F=>by have:=q b F;have:=c.bel.size;omega
  cases bb with
  |true=>
   rw[zB rfl]at z v;go_wp2_with fail
   refine(zQa C (k+1) r g j.out oM G D E z.out sI).mono ?_;rintro e w2 ⟨⟨uu,rfl⟩,p,g,d⟩;have j:=xgv d;have c:=c.trans p;have a:=p.blk a (fun s=>by have:=q _ s;omega);clear o d;go_wp2;go_roundw
   case rel=>exact⟨k+1,m+1,Y,by simp,by simp,oM,oM,c,a,g,⟨⟨j.out,by rw[Q];exact v.out⟩⟩⟩
   case measure=>exact meq
  |false=>
   rw[zA dE]at z v;go_wp2_with fail
   refine(zQa C k r g j.out oM G D E z.out rfl).mono ?_;rintro e w2 ⟨⟨uu,rfl⟩,p,g,d⟩;have j:=xgv d;have c:=c.trans p;have a:=p.blk a (fun s=>by have:=q _ s;omega);clear o d;go_wp2;go_roundw
   case rel=>exact⟨k,m+1,Y,by simp,by simp,oM,oM,c,a,g,⟨⟨j.out,by rw[Q];exact v.out⟩⟩⟩
   case measure=>exact meq
 obtain rfl:m=n:=oM;have i:=t.out.2;rw[zAL]at i;injection i with i
 have H:=xgv i;clear i;go_wp2;exact bodyPost_end (results_none rfl _ _ _) rfl ⟨⟨_,rfl⟩,c,by rw[<-H.out];exact g,by rw[<-H.out];exact t.out.1⟩
theorem qH.rows2{M:List (List Int)}{p q:List Int}(h:qH w base A C bs M)(f:bs[i]?=some bi)(l:bs[j]?=some bj)(Y:i≠j)(B:zB0 [bi,bj] w w')
  (Q:jY w' bi p) (R:jY w' bj q) (O:p.length=C) (P:q.length=C):qH w' base A C bs ((M.set i p).set j q):=by
 have K:=(xge.1 f).1;have L:=(xge.1 l).1;have x:i<M.length:=by rw[h.len];exact K
 have y:j<M.length:=by rw[h.len];exact L
 obtain⟨W,r2,X⟩:=h.row i bi M[i] f (xga x);obtain⟨T,q2,U⟩:=h.row j bj M[j] l (xga y);refine⟨⟨h.own.1,?_⟩,by simp[h.len],?_,h.nodup,h.cb⟩
 .rcases h.own.2 with o|⟨g,D,E,s,F,u,G⟩
  .exact .inl o
  refine .inr ⟨g,D,E,s,F,?_,G⟩;refine(B.old g (Array.getElem?_eq_some_iff.1 u).1 ?_).trans u;intro v;have c:=zGw h.own X;have d:=zGw h.own U;rw[s]at c d;simp at v;rcases v with rfl|rfl
  exact c rfl;exact d rfl
 intro k r V a b;by_cases n:k=j
 .subst n
  rw[l]at a;injection a with a
  subst a;rw[List.getElem?_set_self (by simpa using y)]at b;injection b with b
  subst b;exact⟨T,P,R⟩
 rw[List.getElem?_set_ne (qF n)]at b;by_cases e:k=i
 .subst e
  rw[f]at a;injection a with a
  subst a;rw[List.getElem?_set_self x]at b;injection b with b
  subst b;exact⟨W,O,Q⟩
 rw[List.getElem?_set_ne (qF e)]at b;obtain⟨c,d,H⟩:=h.row k r V a b;have Z:=(xge.1 a).1;have z:∀{t m:Nat},bs[t]?=some m->k≠t->r≠m:=by
  intro t m S N J;subst J;have o:=(xge.1 a).2;have I:=(xge.1 S).2;exact N ((jN h.nodup).1 (o.trans I.symm))
 exact⟨c,d,H.only B (by simp;exact⟨z f e,z l n⟩)⟩
theorem zIu{R C:Nat}{F:Nat->Nat->Int}{m0 m1 m2 m3:Int}(f:i≠j):
  ((genM R C F).set i (yV C (fun t=>m0*F i t+m1*F j t))).set j (yV C (fun t=>m2*F i t+m3*F j t))=genM R C (jQ F i j m0 m1 m2 m3):=by
 apply qX;simp[genM];intro a g k;by_cases b:a=j
 .subst b
  rw[zBG];have:¬ a=i:=fun h=>f h.symm
  simp[genM,yV,jQ,this]
 have c:j≠a:=fun h=>b h.symm
 rw[zBb c];by_cases e:a=i
 .subst e
  rw[zBG];simp[genM,yV,jQ]
 have d:i≠a:=fun h=>e h.symm
 rw[zBb d];simp[genM,jQ,e,b]
theorem zM4(h:Wri w A R C bs F)(n:i<R)(o:j<R)(c:i≠j)(a:bs[i]?=some bi)(b:bs[j]?=some bj)(p:M4V w mv m0 m1 m2 m3)
  (k:C<=1000000) (l:zSc C (F i) (F j) m0 m1 m2 m3) (q:Sm m0/\Sm m1/\Sm m2/\Sm m3):
  CPq 204 #[.slice (some ⟨bi,0,none⟩) C C,.slice (some ⟨bj,0,none⟩) C C,mv] w fun e w'=>(∃u,e= .returned u)/\zB0 [bi,bj] w w'/\Wri w' A R C bs (jQ F i j m0 m1 m2 m3):=by
 have r:bi≠bj:=by
  intro m;subst m;obtain⟨x,f⟩:=xge.1 a;obtain⟨y,g⟩:=xge.1 b;exact c ((jN (qH.nodup h)).1 (f.trans g.symm))
 refine(zSs bi bj C C C (F i) (F j) mv m0 m1 m2 m3 w (h.rowAt n a) (h.rowAt o b) r p k (xgf _) oM (xgf _) oM l q).mono ?_;rintro e w' ⟨v,d,s,t⟩;refine⟨v,d,?_⟩;unfold Wri;rw[<-zIu c];exact qH.rows2 h a b c d s t (qN _ _) (qN _ _)
theorem Wri.only2(h:Wri w A R C bs F)(j:zB0 [b,c] w w')(f:b ∉ bs)(i:c ∉ bs)(l:jY w b r)(k:jY w c q):Wri w' A R C bs F:=
 qH.only h j (fun x e=>by
  intro d;simp at d;rcases d with rfl|rfl
  exact f e;exact i e) (fun g a=>by
  simp at a;rcases a with rfl|rfl
  exact⟨_,l⟩;exact⟨_,k⟩)
def M2V(m0 m1:Int):World->Value->Prop:=fun w v=>∃s0 a0 l0 c0 s1 a1 l1 c1,v= .agg #[.bool s0,.slice a0 l0 c0,.bool s1,.slice a1 l1 c1]/\jE w (.agg #[.bool s0,.slice a0 l0 c0]) m0/\jE w (.agg #[.bool s1,.slice a1 l1 c1]) m1
theorem zEG(a b:Int):zG2 (M2V a b):=by
 rintro w w' v e ⟨l,c,j,f,m,d,k,g,rfl,h,i⟩;exact⟨l,c,j,f,m,d,k,g,rfl,h.ext e,i.ext e⟩
theorem zGV(a b c d:Int):zG2 (fun w v=>M4V w v a b c d):=fun _ _ _ e h=>h.ext e
theorem zOG(a8:Option Addr)(al ac:Nat)(W V mv:Value)(n C i j:Nat)(x v:List Nat)(N M:Nat->Nat->Int)(m0 m1 m2 m3:Int)(w:World)(c:Wri w W n C x N)(a:Wri w V n C v M)(P:Far x v)(D:M4V w mv m0 m1 m2 m3)
  (r:i<n) (s:j<n) (b5:i≠j) (F:n<=1000000) (hC:C<=1000000) (hT:zSc C (N i) (N j) m0 m1 m2 m3) (hI:zSc C (M i) (M j) m3 (-m2) (-m1) m0) (E:Sm m0/\Sm m1/\Sm m2/\Sm m3):
  CPq 189 #[.agg #[.slice a8 al ac,W,V],niq i,niq j,mv] w fun e w'=>(∃u,e= .returned u)/\qK (fun b=>b∈x∨b∈v) w w'∧
   Wri w' W n C x (jQ N i j m0 m1 m2 m3)/\Wri w' V n C v (jQ M i j m3 (-m2) (-m1) m0):=by
 obtain⟨uo,tn,tc,rfl,t1,t2,t3,-⟩:=id (qH.rows c);obtain⟨io,d3,ic,rfl,i1,i2,i3,-⟩:=id (qH.rows a);have HT:=xgv hT;have HI:=xgv hI;have X:=xgv E;have b8:Sm m3/\Sm (-m2)/\Sm (-m1)/\Sm m0:=⟨E.2.2.2,E.2.2.1.mono (by rw[zY];exact xgf _),E.2.1.mono (by rw[zY];exact xgf _),E.1⟩;have c6:=xgv b8;have G:=xgv D;obtain⟨s0,a0,l0,c0,s1,a1,l1,c1,s2,a2,l2,c2,s3,a3,l3,c3,rfl,y,z,A,B⟩:=id D;clear hT hI E D b8;have e2:n=tn:=by rw[<-t1];simp[genM]
 have e3:n=d3:=by rw[<-i1];simp[genM]
 subst e2;subst e3;clear t1 i1;obtain⟨gt,bi,rfl,f1,J,e8,-,-⟩:=qH.at_ c (i:=i) (by rw[c.len];exact r);obtain⟨bj,K,-⟩:=qH.rowAt c s;obtain⟨gi,ci,rfl,f0,Q,e9,-,-⟩:=qH.at_ a (i:=i) (by rw[a.len];exact r);obtain⟨cj,R,-⟩:=qH.rowAt a s;have f6:=(c.rowAt r J).lt;have f7:=(c.rowAt s K).lt;go_enter Tryz.func189,Tryz.ntmps189;go_upto_region 1 with(fail)
 refine zF ?_;intro W0 a9;obtain⟨t,g,f,f5⟩:=zAU a9;have c:=c.I t;have a:=a.I t;have D:=G.out.ext (lx t);have z:=z.ext (lx t);have A:=A.ext (lx t);have B:=B.ext (lx t);have y:=y.ext (lx t);have G:=xgv D;have q:=qK.of (fun b=>b∈x∨b∈v) t;have x1:=g.three;obtain⟨k0,k1,k2,k3,k4,k5,k6,k7⟩:=f.eight;have lx0:=g.lt;have d4:=f.lt;have b6:=xgd J;have b7:=xgd K;have b9:=xgd Q;have c4:=xgd R;obtain⟨g1,Y,m,d0,H,c7,o1,-⟩:=qH.at_ c (i:=i) (by rw[c.len];exact r);obtain⟨g2,Z,o,d1,I,c8,o2,-⟩:=qH.at_ c (i:=j) (by rw[c.len];exact s);obtain rfl:gt=g1:=by injection m with m;injection m
 obtain rfl:gt=g2:=by injection o with o;injection o
 obtain rfl:bi=Y:=qD (J.symm.trans H);obtain rfl:bj=Z:=qD (K.symm.trans I);clear a9 D H I m o;refine yA 11 [] ?_;refine sRd ?_;refine sRf ?_;intro w9 l;have q:=q.trans (qK.of _ l);have c:=c.I l;have a:=a.I l;have g:=g.I l;have f:=f.I l;have G:=xgv (G.out.ext (lx l));have z:=z.ext (lx l);have A:=A.ext (lx l);have B:=B.ext (lx l);have y:=y.ext (lx l);clear o1 o2 x1 k0 k1 k2 k3 k4 k5 k6 k7;go_wp2_with fail
 refine(zM4 c r s b5 J K G.out hC HT.out X.out).mono ?_;rintro e a7 ⟨⟨uu,rfl⟩,d,L⟩;have S:=c.rowAt r J;have T:=c.rowAt s K;have q:=q.trans (⟨d.bel,d.lext,fun k hk F=>d.old k hk (by simp;exact⟨fun h=>F (.inl (h ▸ b6)),fun h=>F (.inl (h ▸ b7))⟩)⟩:qK (fun b=>b∈x∨b∈v) w9 a7);have a:=a.only2 d (P _ b6) (P _ b7) S T;have g:=(d.old _ g.lt (by simp;omega)).trans g;have f:=(d.old _ f.lt (by simp;omega)).trans f;have z:=z.ext d.lext;have A:=A.ext d.lext;have B:=B.ext d.lext;have y:=y.ext d.lext;clear S T;replace g:Blk a7 w.heap.size 176 #[.slice a8 al ac,slq gt n tc,slq gi n ic]:=g;replace f:Blk a7 (w.heap.size+1) 191 #[.bool s0,.slice a0 l0 c0,.bool s1,.slice a1 l1 c1,.bool s2,.slice a2 l2 c2,.bool s3,.slice a3 l3 c3]:=f;have x1:=g.three;obtain⟨k0,k1,k2,k3,k4,k5,k6,k7⟩:=f.eight;have lx0:=g.lt;have d4:=f.lt;obtain⟨g1,Y,m,d0,H,c7,o1,-⟩:=qH.at_ a (i:=i) (by rw[a.len];exact r);obtain⟨g2,Z,o,d1,I,c8,o2,-⟩:=qH.at_ a (i:=j) (by rw[a.len];exact s);obtain rfl:gi=g1:=by injection m with m;injection m
 obtain rfl:gi=g2:=by injection o with o;injection o
 obtain rfl:ci=Y:=qD (Q.symm.trans H);obtain rfl:cj=Z:=qD (R.symm.trans I);clear H I m o;have f2:=zEG m3 (-m2);have f3:=zEG (-m1) m0;have f4:=zGV m3 (-m2) (-m1) m0;go_upto_region 2 with(fail)
 refine yA 27 [pcI 16 (-m2),pcD 17 [16] (M2V m3 (-m2)),pcI 21 (-m1),pcD 25 [21] (M2V (-m1) m0),pcD 26 [17,25] (fun w d5=>M4V w d5 m3 (-m2) (-m1) m0)] ?_;refine sRd ?_;refine sRc (fun U hI O p=>by go_simp;exact ck p (zBk _ m2 _ (A.ext hI.lext).J X.out.2.2.1)) (fun g8 _=>?_);refine sRc (fun U hI a4 O p=>?_) (fun g9 _=>?_)
 .obtain⟨d8,e0,e4,e6,h2,rfl,h4⟩:=id a4
  go_simp;exact⟨p _ _ ⟨_,_,_,_,_,_,_,_,rfl,B.ext hI.lext,a4⟩,zC _ _⟩
 refine sRd ?_;refine sRc (fun U hI O p=>by go_simp;exact ck p (zBk _ m1 _ (z.ext hI.lext).J X.out.2.1)) (fun h0 _=>?_);refine sRd ?_;refine sRc (fun U hI a5 O p=>?_) (fun h1 _=>?_)
 .obtain⟨d9,e1,e5,e7,h3,rfl,h5⟩:=id a5
  go_simp;exact⟨p _ _ ⟨_,_,_,_,_,_,_,_,rfl,a5,y.ext hI.lext⟩,zC _ _⟩
 refine sRc (fun U hI b0 b3 O p=>?_) (fun d6 _=>?_)
 .obtain⟨p0,p1,p2,p3,p4,p5,p6,p7,rfl,p8,p9⟩:=b0
  obtain⟨q0,q1,q2,q3,q4,q5,q6,q7,rfl,q8,q9⟩:=b3;go_simp;exact⟨p _ _ ⟨_,_,_,_,_,_,_,_,_,_,_,_,_,_,_,_,rfl,p8,p9,q8,q9⟩,zC _ _⟩
 refine sRe ?_;intro c5 a6 a4 b0 a5 b3 c9;have q:=q.trans (qK.of _ a6);have L:=L.I a6;have a:=a.I a6;clear o1 o2 x1 k0 k1 k2 k3 k4 k5 k6 k7;have b4:M4V c5 d6 m3 (-m2) (-m1) m0:=c9;obtain⟨p0,p1,p2,p3,p4,p5,p6,p7,p8,p9,f8,f9,g3,g4,g5,g6,rfl,-⟩:=id b4;go_wp2_with fail
 refine(zM4 a r s b5 Q R b4 hC HI.out c6.out).mono ?_;rintro e d7 ⟨⟨g7,rfl⟩,d,d2⟩;have S:=a.rowAt r Q;have T:=a.rowAt s R;have q:=q.trans (⟨d.bel,d.lext,fun k hk F=>d.old k hk (by simp;exact⟨fun h=>F (.inr (h ▸ b9)),fun h=>F (.inr (h ▸ c4))⟩)⟩:qK (fun b=>b∈x∨b∈v) c5 d7);have L:=L.only2 d (fun h=>P _ h b9) (fun h=>P _ h c4) S T;go_wp2;exact bodyPost_end (results_none rfl _ _ _) rfl ⟨⟨_,rfl⟩,q,L,d2⟩
theorem zT0(w:World):
  CallsD Tryz.prog 153 #[] .returning w fun e c w'=>e= .returned (.tuple #[])/\c= .returning/\w'=w:=by
 refine callsD_of_wpS Tryz.func153 rfl fun a cs b=>?_
 apply wpS_region;simp[wpOpsS,go_sem,recoverD,b,Tryz.ntmps153,bodyPostS,results,Tryz.results153];cases a;simp_all
theorem mkR(m:Int)(n:Nat)(b:m=n)(h:n<=1099511627776)(W:World):
  (Instr.makeSlice 30 (.int .i64 m) (.int .i64 m)).run Tryz.prog W= .ok (.slice (some ⟨W.heap.size,0,none⟩) n n) (W.alloc (.cells (madeCells (Value.slice none 0 0).cells (n*1)) tR)):=by
 subst b;obtain⟨f,a,c,d,e⟩:=info_parts zDp;have:=zCn (P:=Tryz.prog) 30 tR f _ zA5 a c .i64 .i64 n n (xgf _) (by rw[e];omega) oM W;rw[this,d]
def zBO(n C:Nat)(bs:List Nat):Array Value:=(zBV C bs++List.replicate (n-bs.length) (Value.slice none 0 0)).toArray
theorem zE7(n C:Nat):madeCells #[Value.slice none 0 0] n=zBO n C []:=by
 apply zCd;simp[madeCells,zBO,zBV];intro i a b;simp[madeCells,zBO,zBV,Nat.mod_one,Value.cells]
theorem zDB(h:bs.length<=n):(zBO n C bs).size=n:=by simp[zBO,zBV];omega
theorem zGE(h:bs.length<n):(zBO n C bs).setIfInBounds bs.length (slq b C C)=zBO n C (bs++ [b]):=by
 apply zCd;simp[zBO,zBV];omega;intro i a k;have l:i<n:=by simpa[zDB (C:=C) (Nat.le_of_lt h)]using a
 by_cases e:i=bs.length
 .subst e
  simp[zBO,zBV]
 have c:bs.length≠i:=fun g=>e g.symm
 rw[Array.getElem_setIfInBounds_ne (by simpa using a) c];rcases zK i bs.length with hl|hl
 simp[zBO,zBV,hl,List.getElem_append,Nat.lt_succ_of_lt hl];have d:¬ i<bs.length:=oM;have f:¬ i<bs.length+1:=oM;obtain⟨p,j⟩:∃p,i-bs.length=p+1:=⟨i-bs.length-1,oM⟩;simp[zBO,zBV,List.getElem_append,d,f,j]
theorem zJL(R C:Nat)(w:World)(hR:R<=1000000)(hC:C<=1000000):
  CPq 108 #[.int .i64 R,.int .i64 C] w (zDl w R C (zDi R C)):=by
 have a0:∀(t:Fn) (first s:Array Value) (w:World),(Instr.makeFunc t first s).run Tryz.prog w= .ok (.func t first s) w:=fun _ _ _ _=>rfl
 have S:=fun W=>mkR (R:Int) R rfl oM W
 have A:=fun W=>mkI (C:Int) C rfl oM W
 go_enter_defers Tryz.func108,Tryz.ntmps108;go_upto_region 4 with(fail)
 refine zF ?_;intro V y;obtain⟨M,d,c,a1⟩:=zAU y;rw[zE7 R C]at c;clear y S;go_wp2;go_loopw [15] (fun p wr=>∃(k:Nat) (bs:List Nat),k<=R/\p= .int .i64 k/\bs.length=k/\bs.Nodup/\(∀b∈bs,w.heap.size+1<b/\jY wr b (yV C (fun _=>0)))/\BWq w wr/\Blk wr w.heap.size 32 #[.int .i64 0,.int .i64 0,.slice none 0 0]/\Blk wr (w.heap.size+1) tR (zBO R C bs)) (fun p _=>R-(intOf p).toNat)
 case atStart=>exact⟨0,[],oM,rfl,rfl,by simp,by simp,M,d,c⟩
 obtain⟨k,bs,hk,rfl,a,B,E,m,d,c⟩:=hrel;have a2:=m.size;have h:=xgv (And.intro B E);clear B E;by_cases P:k<R
 .have A:=A wr
  have lA:=c.lt;have lr:=d.lt;have q:Blk (wr.alloc (.cells (zeroCells C) tI)) (w.heap.size+1) tR (zBO R C bs):=c.I ((zC _ _).alloc (xgf _) _);have Y:=q.frozen k;obtain⟨u,Z⟩:∃u,(wr.alloc (.cells (zeroCells C) tI)).cell? ⟨w.heap.size+1,k,none⟩=some u:=by
   rw[q.cell k];exact⟨_,Array.getElem?_eq_getElem (by rw[zDB oM];exact P)⟩
  go_wp2;go_roundw
  case rel=>
   have F:=c.set_ k (.slice (some ⟨wr.heap.size,0,none⟩) C C);rw[<-a,zGE oM,a]at F;have T:(wr.setCell ⟨w.heap.size+1,k,none⟩ (.slice (some ⟨wr.heap.size,0,none⟩) C C)).heap.size=wr.heap.size:=by simp[World.setCell]
   have U:=c.lext dE k (.slice (some ⟨wr.heap.size,0,none⟩) C C);have n:Below (wr.setCell ⟨w.heap.size+1,k,none⟩ (.slice (some ⟨wr.heap.size,0,none⟩) C C)).heap.size (wr.setCell ⟨w.heap.size+1,k,none⟩ (.slice (some ⟨wr.heap.size,0,none⟩) C C)) ((wr.setCell ⟨w.heap.size+1,k,none⟩ (.slice (some ⟨wr.heap.size,0,none⟩) C C)).alloc (.cells (zeroCells C) tI)):=(zC _ _).alloc (xgf _) _;refine⟨k+1,bs++ [wr.heap.size],oM,by simp,by simp[a],?_,?_,(yB m oM _ _).alloc oM _,?_,F.I n⟩
   .rw[jG]
    refine⟨h.out.1,by simp,fun x o a4 G=>?_⟩;simp at G;subst G;have:=(h.out.2 x o).2.lt;omega
   .intro b N
    rcases List.mem_append.1 N with g|g
    .obtain⟨j,K⟩:=h.out.2 b g
     exact⟨j,(K.old (qC _ _ _ _ _ oM) U).I n⟩
    simp at g;subst g;refine⟨oM,?_⟩;have v:=zH2 (wr.setCell ⟨w.heap.size+1,k,none⟩ (.slice (some ⟨wr.heap.size,0,none⟩) C C)) C;have L:List.replicate C (0:Int)=yV C (fun _=>0):=by
     apply qX;simp[yV];intro i g j;simp[yV]
    rw[L,T]at v;exact v
   exact Blk.I (Blk.far d oM _ _) n
  case measure=>exact meq
 obtain rfl:k=R:=oM;have X:=d.three;have H:List.replicate C (0:Int)=yV C (fun _=>0):=by
  apply qX;simp[yV];intro i g j;simp[yV]
 have J:=xgv H;have D:(zBO k C bs).toList=zBV C bs:=by simp[zBO,a]
 have I:=xgv D;clear H D;go_wp2;refine leaves_cons (f:=153) (args:=#[]) sI (by simp[go_sem]) ?_;refine(zT0 _).mono ?_;rintro e u' a3 ⟨rfl,rfl,rfl⟩;have o:=d.lext3 dE (.int .i64 k) (.int .i64 C) (.slice (some ⟨w.heap.size+1,0,none⟩) k k);refine⟨_,results_cell_row rfl _ _ w.heap.size _ _ _ _ rfl (d.put3 _ _ _) zDF rfl (by rw[zFa];rfl),_,bs,rfl,⟨a,_,rfl,?_⟩,yB (yB (yB m oM 0 _) oM 1 _) oM 2 _⟩;refine⟨⟨by simp[zBV],.inr ⟨w.heap.size+1,k,zBO k C bs,by rw[a],oM,(zAm _ _ _ _ _ _ oM).trans c,oM,by simp[maxLen];omega,by rw[zDB oM];omega,?_⟩⟩,by simp[zDi,a],?_,h.out.1,oM⟩;rw[I.out,a,jS,jM (by simp[zBV,a])];intro i b r z l;have Q:=xgd z;obtain⟨g,j⟩:=h.out.2 b Q;have O:i<k:=by have:=(xge.1 z).1;omega
 obtain rfl:r=List.replicate C 0:=by
  unfold zDi at l;rw[List.getElem?_replicate,zB O]at l;injection l with l
  exact l.symm
 refine⟨oM,by simp,?_⟩;rw[J.out];exact j.old (zAm _ _ _ _ _ _ oM) o
theorem zMS(n:Nat)(w:World)(C:n<=1000000):CPq 148 #[niq n] w (zDl w n n (genM n n idf)):=by
 go_enter Tryz.func148,Tryz.ntmps148;go_upto_region 1 with(fail)
 refine zF ?_;intro u y;obtain⟨x,d,a0⟩:=qJ y;go_wp2_with fail
 refine(zJL n n u C C).mono ?_;rintro e S ⟨a3,bs,rfl,⟨O,T,rfl,c⟩,q⟩;obtain⟨J,on,I,rfl,E,-,-,-⟩:=id c.rows;obtain rfl:n=on:=by rw[<-E];simp[zDi]
 clear E;have P:=c.lts;go_upto_region 2 with(fail)
 refine zF ?_;intro W z;obtain⟨p,f,a1⟩:=qJ z;have d:=(d.I q).I p;have c:=c.I p;have H:zDi n n=genM n n (zON 0):=by rw[zFX];exact jX fun i _ j _=>by unfold zON;rw[zA oM]
 rw[H]at c;have L:=nx (nx x q) p;have R:=x.size;have q2:=q.size;have v:=f.three;clear z y H;go_wp2;clear v;go_loopw [11] (fun t wr=>∃i:Nat,i<=n/\t=niq i/\BWq w wr/\Blk wr w.heap.size 32 #[niq 0,niq 0,.slice none 0 0]/\Blk wr S.heap.size 32 #[niq n,niq n,.slice J n I]/\qH wr u.heap.size (.slice J n I) n bs (genM n n (zON i))) (fun t _=>n-(intOf t).toNat)
 case atStart=>exact⟨0,oM,rfl,L,d,f,c⟩
 obtain⟨i,hi,rfl,B,d,f,c⟩:=hrel;have v:=f.three;by_cases o:i<n
 .obtain⟨g,K,rfl,Z,r,X,o1,Q⟩:=c.at_ (i:=i) oM
  clear Q;have a2:=f.lt;go_upto_region 5 with(fail)
  refine yA 8 [pcI 6 (1)] ?_;refine sRd ?_;refine sRc (fun wS hI U M=>by go_simp;exact ck M (zGt 1 _ oM oM)) (fun a4 _=>?_);refine sRd ?_;refine sRe ?_;intro w9 m A;obtain⟨pn,pa,pl,pc,px,rfl,F⟩:=id A;have V:=xgw F;clear F;have D:=c.I m;obtain⟨sn,sa,sl,sc,z1,z2,z3,z4,-⟩:=D.cellAt r o;have Y:=P i K r;have G:=D.set r o A;go_wp2;go_roundw
  case rel=>
   have s:zQf (genM n n (zON i)) i i 1=genM n n (zON (i+1)):=by
    rw[zDx _ o o];exact jX fun a _ b _=>by
     unfold zON;by_cases h:a=i/\b=i
     .rw[zB h,zB oM]
     rw[zA h];by_cases l:a=b/\a<i
     .rw[zB l,zB oM]
     rw[zA l,zA oM]
   rw[s]at G;exact⟨i+1,oM,by simp,yB (yB (nx B m) oM _ _) oM _ _,(yL _ _ _ _ _ _ _ oM).trans (d.I m),(yL _ _ _ _ _ _ _ oM).trans (f.I m),G.1⟩
  case measure=>exact meq
 obtain rfl:i=n:=oM;have s:genM i i (zON i)=genM i i idf:=jX fun a N b _=>by
  unfold zON idf;by_cases h:a=b
  .rw[zB ⟨h,N⟩,zB h]
  rw[zA (fun l=>h l.1),zA h]
 rw[s]at c;have r1:=d.three;go_wp2;refine zAD rfl rfl rfl (d.put3 _ _ _) ⟨_,bs,rfl,⟨O,_,rfl,?_⟩,yB (yB (yB B oM 0 _) oM 1 _) oM 2 _⟩;exact(c.keep (fun k hk=>zAm _ _ k _ _ _ oM) (d.lext3 dE _ _ _)).mono R
def zSa(f:Nat->Nat->Int)(i j:Nat):Nat->Nat->Int:=fun a b=>if b<i∨(b=i/\a<j)then f a b else 0
theorem zSS(R C:Nat)(f:Nat->Nat->Int):zDi R C=genM R C (zSa f 0 0):=by
 rw[zFX];exact jX fun i _ j _=>by unfold zSa;rw[zA oM]
theorem zWz:genM R C (zSa f i R)=genM R C (zSa f (i+1) 0):=
 jX fun a c b d=>by
  unfold zSa;by_cases h:b<i∨(b=i/\a<R)
  .rw[zB h,zB oM]
  rw[zA h,zA oM]
theorem zWy:genM R C (zSa f C 0)=genM R C f:=
 jX fun a c b d=>by unfold zSa;rw[zB oM]
theorem zVB(d:i<C)(e:j<R):zQf (genM R C (zSa f i j)) j i (f j i)=genM R C (zSa f i (j+1)):=by
 rw[zDx _ e d];exact jX fun a _ b _=>by
  unfold zSa;by_cases h:a=j/\b=i
  .obtain⟨rfl,rfl⟩:=h
   rw[zB ⟨rfl,rfl⟩,zB oM]
  rw[zA h];by_cases c:b<i∨(b=i/\a<j)
  .rw[zB c,zB oM]
  rw[zA c,zA oM]
theorem zGr(v:Value)(R C:Nat)(M:List (List Int))(w:World)(h:zAQ w v R C M)(hF:zBW R C M)(hR:R<=1000000)(hC:C<=1000000)(V:∀r∈M,∀z∈r,Sm z):
  CPq 151 #[v] w (zDl w C R (genM C R (fun a b=>ent M b a))):=by
 have h0:=h;obtain⟨A,rfl,h⟩:=h;obtain⟨ao,n,b9,rfl,G,e3,e4,-⟩:=id h;have HX:=xgw G;have HS:=xgv V;have HF:=xgv hF;obtain rfl:n=R:=by rw[<-G,hF.1]
 have a0:decide (zBX n C M)=true:=zQ hF.valid;obtain⟨f,J⟩:∃f:Nat->Nat->Int,(fun a b=>ent M b a)=f:=⟨_,rfl⟩;rw[J];have a1:∀i j,f i j=ent M j i:=fun i j=>by rw[<-J]
 have a7:=xgv a1;clear J a1 G V hF;go_enter Tryz.func151,Tryz.ntmps151;go_upto_region 1 with(fail)
 refine zF ?_;intro W0 W;obtain⟨H,o,e,c9⟩:=zAU W;have p:=o.three;clear W;go_wp2_with fail
 refine(zDf _ n C M W0 (h0.I H)).mono ?_;rintro a8 T ⟨rfl,u⟩;rw[a0];have o:=o.I u;have e:=e.I u;clear p a0;have p:=o.three;go_wp2_with fail
 refine(zJL C n T hC hR).mono ?_;rintro a8 w2 ⟨e0,bs,rfl,⟨a9,A2,rfl,d⟩,x⟩;obtain⟨E,on,D,rfl,a4,-,-,-⟩:=id d.rows;obtain rfl:C=on:=by rw[<-a4];simp[zDi]
 clear a4;have b2:=d.lts;have t:=nx H u;have d3:=t.size;have c0:=H.size;have c2:=u.size;clear p;go_upto_region 4 with(fail)
 refine zF ?_;intro W3 X;obtain⟨s,l,d0⟩:=qJ X;have o:=(o.I x).I s;have e:=(e.I x).I s;have d:=d.I s;rw[zSS C n f]at d;have t:=nx (nx t x) s;have q2:=x.size;have p:=o.three;clear X;go_wp2;clear p;go_loopw [20] (fun P wr=>∃i:Nat,i<=n/\P=niq i/\BWq w wr∧
  Blk wr (w.heap.size+1) 32 #[niq 0,niq 0,.slice none 0 0]/\Blk wr w2.heap.size 32 #[niq C,niq n,.slice E C D]/\qH wr T.heap.size (.slice E C D) n bs (genM C n (zSa f i 0))) (fun P _=>n-(intOf P).toNat)
 case atStart=>exact⟨0,oM,rfl,t,e,l,d⟩
 obtain⟨i,hi,rfl,m,e,l,d⟩:=hrel;by_cases B:i<n
 .obtain⟨b,ra,rn,rc,zs,rfl,c4,L,S,hv⟩:=h.row (k:=i) (by rw[HX.out];exact B)
  have a6:=HF.out.2 zs (xgd L);have b4:=hv.len;obtain rfl:C=rn:=oM;have F:=xgv (And.intro L a6);have S:=jP S m;obtain⟨b5,d4,d5⟩:=b4;clear L a6 b5;go_wp2;clear S;go_loopw [27] (fun Q wt=>∃j:Nat,j<=C/\Q=niq j/\BWq w wt∧
   Blk wt (w.heap.size+1) 32 #[niq 0,niq 0,.slice none 0 0]/\Blk wt w2.heap.size 32 #[niq C,niq n,.slice E C D]/\qH wt T.heap.size (.slice E C D) n bs (genM C n (zSa f i j))) (fun Q _=>C-(intOf Q).toNat)
  case atStart=>exact⟨0,oM,rfl,m,e,l,d⟩
  rename World=>wt
  obtain⟨j,hj,rfl,m,e,l,d⟩:=hrel;by_cases a2:j<C
  .obtain⟨b',z,d9,a,d6,c,rfl,c3,N,q1,b7,O⟩:=(hv.I m).cell (k:=j) (by rw[F.out.2];exact a2)
   have b0:=xgw ((a7.out j i).trans (zFE F.out.1 N));have SZ:jI (Sm z):=⟨HS.out _ (xgd F.out.1) _ (xgd N)⟩;clear N;have d7:=e.lt;have b6:=l.lt;have c8:=m.size;go_upto_region 10 with(fail)
   refine zF ?_;intro W6 Y;obtain⟨q,U,d2⟩:=qJ Y;have d1:=U.two;have e:=e.I q;have l:=l.I q;have d:=d.I q;have O:=O.ext (lx q);have m:=nx m q;clear q1 b7 Y;obtain⟨g,bo,rfl,hg,I,c5,o1,b3⟩:=d.at_ (i:=j) oM;have f1:=l.three;clear b3;have b6:=l.lt;have d8:=U.lt;refine yA 9 [pcI 7 (z)] ?_;refine sRd ?_;refine sRc (fun wS hI Gk hG=>by go_simp;exact ck hG (zPK _ z _ (O.ext hI.lext) SZ.out)) (fun e1 _=>?_);refine sRd ?_;refine sRe ?_;intro w9 y Z;obtain⟨pn,pa,pl,pc,px,rfl,a5⟩:=id Z;have b8:=xgw a5;clear a5;have a3:=d.I y;obtain⟨sn,sa,sl,sc,z1,z2,z3,z4,-⟩:=a3.cellAt I B;have c7:=b2 j bo I;have K:=a3.set I B Z;have c6:=K.2.2;go_wp2;go_roundw
   case rel=>
    have hq:z=f j i:=b0.out.symm;rw[hq,zVB B a2]at K;exact⟨j+1,oM,by simp,yB (yB (nx m y) oM _ _) oM _ _,(yL _ _ _ _ _ _ _ oM).trans (e.I y),(yL _ _ _ _ _ _ _ oM).trans (l.I y),K.1⟩
   case measure=>exact meq
  obtain rfl:j=C:=oM;rw[zWz]at d;go_wp2;go_roundw
  case rel=>exact⟨i+1,oM,by simp,m,e,l,d⟩
  case measure=>exact meq
 obtain rfl:i=n:=oM;rw[zWy]at d;have f1:=l.three;have r1:=e.three;go_wp2;refine zAD rfl rfl rfl (e.put3 _ _ _) ⟨_,bs,rfl,⟨a9,_,rfl,?_⟩,yB (yB (yB m oM 0 _) oM 1 _) oM 2 _⟩;exact(d.keep (fun k hk=>zAm _ _ k _ _ _ oM) (e.lext3 dE _ _ _)).mono oM
def Zn(A:Value)(bs:List Nat)(b:Nat):Prop:=b∈bs∨A.ownBlock=some b
def Ap(A:Value)(bs:List Nat)(A':Value)(bs':List Nat):Prop:=∀b,Zn A bs b->¬ Zn A' bs' b
theorem Ap.far(h:Ap A bs A' bs'):Far bs bs':=fun b a c=>h b (.inl a) (.inl c)
theorem Ap.own(h:Ap A bs A' bs'):∀g,A.ownBlock=some g->A'.ownBlock≠some g:=fun g a b=>h g (.inr a) (.inr b)
theorem Wri.zlt(h:Wri w A R C bs F)(hb:Zn A bs b):b<w.heap.size:=by
 rcases hb with hb|hb
 exact(h.blk hb).elim fun r c=>c.lt
 rcases(qH.own h).2 with⟨rfl,-⟩|⟨g,d,e,rfl,-,a,-⟩
 cases hb;simp only[Value.ownBlock,Option.some.injEq]at hb;subst hb;exact(Array.getElem?_eq_some_iff.1 a).1
theorem Wri.keepZ(h:Wri w A R C bs F)(a:qK Z w w')(e:∀b,Zn A bs b->¬ Z b):Wri w' A R C bs F:=
 qH.same h (fun b c=>a.old b (h.zlt (.inl c)) (e b (.inl c))) (fun g d=>a.old g (h.zlt (.inr d)) (e g (.inr d))) a.lext
theorem Wri.rown(h:Wri w A R C bs F)(a:Wri w A' R' C' bs' F')(c:b∈bs):A'.ownBlock≠some b:=by
 intro e;obtain⟨r,d⟩:=h.blk c;exact zGw (qH.own a) d e.symm
theorem Ap.of(h:Wri w A R C bs F)(c:Wri w A' R' C' bs' F')(d:Far bs bs')(e:∀g,A.ownBlock=some g->A'.ownBlock≠some g):Ap A bs A' bs':=by
 intro b a h2;rcases a with a|a
 .rcases h2 with h2|h2
  .exact d b a h2
  exact h.rown c a h2
 rcases h2 with h2|h2
 exact c.rown h h2 a;exact e b a h2
theorem Wri.mat(h:Wri w A R C bs F):zAQ w (.agg #[niq R,niq C,A]) R C (genM R C F):=⟨A,rfl,qH.rows h⟩
abbrev tW:TypeId:=136
structure zCu(w:World)(base wb RS CS R C Cu Cw:Nat)(AS AU AV AW AX:Value)(bS bU bV bW bX:List Nat)(z:W5):Prop where
 blk:Blk w wb tW #[niq RS,niq CS,AS,niq R,niq Cu,AU,niq R,niq Cu,AV,niq C,niq Cw,AW,niq C,niq Cw,AX]
 wbb:base<=wb
 mS:Wri w AS RS CS bS z.s
 mU:Wri w AU R Cu bU z.u
 mV:Wri w AV R Cu bV z.v
 mW:Wri w AW C Cw bW z.w
 mX:Wri w AX C Cw bX z.x
 zb:∀b,Zn AS bS b∨Zn AU bU b∨Zn AV bV b∨Zn AW bW b∨Zn AX bX b->base<=b
 su:Ap AS bS AU bU
 sv:Ap AS bS AV bV
 sw:Ap AS bS AW bW
 sx:Ap AS bS AX bX
 uv:Ap AU bU AV bV
 uw:Ap AU bU AW bW
 ux:Ap AU bU AX bX
 vw:Ap AV bV AW bW
 vx:Ap AV bV AX bX
 wx:Ap AW bW AX bX
theorem zCu.I{z:W5}(h:zCu w base wb RS CS R C Cu Cw AS AU AV AW AX bS bU bV bW bX z)(a:BWq w w'):zCu w' base wb RS CS R C Cu Cw AS AU AV AW AX bS bU bV bW bX z:=
 ⟨h.blk.I a,h.wbb,h.mS.I a,h.mU.I a,h.mV.I a,h.mW.I a,h.mX.I a,h.zb,h.su,h.sv,h.sw,h.sx,h.uv,h.uw,h.ux,h.vw,h.vx,h.wx⟩
theorem Wri.nwb(h:Wri w A R C bs F)(f:Blk w wb tW cs):¬ Zn A bs wb:=by
 intro a;have e:w.heap[wb]?=some (.cells cs tW (0,0)):=f;rcases a with b|b
 .obtain⟨r,j,c,-⟩:=h.blk b
  rw[e]at c;injection c with c
  injection c with _ d
  exact absurd d dE
 rcases(qH.own h).2 with⟨rfl,-⟩|⟨g,i,k,rfl,-,a,-⟩
 cases b;simp only[Value.ownBlock,Option.some.injEq]at b;subst b;rw[e]at a;injection a with a
 injection a with _ d
 exact absurd d dE
theorem Blk.fifteen{a b e m n f o p i q j c k l d:Value}(h:Blk w g t #[a,b,e,m,n,f,o,p,i,q,j,c,k,l,d]):
  w.cell? ⟨g,0,none⟩=some a/\w.cell? ⟨g,1,none⟩=some b/\w.cell? ⟨g,2,none⟩=some e/\w.cell? ⟨g,5,none⟩=some f/\w.cell? ⟨g,8,none⟩=some i/\w.cell? ⟨g,11,none⟩=some c/\w.cell? ⟨g,14,none⟩=some d∧
   w.frozen? ⟨g,0,none⟩=false/\w.frozen? ⟨g,1,none⟩=false/\w.frozen? ⟨g,2,none⟩=false:=
 ⟨h.cell 0,h.cell 1,h.cell 2,h.cell 5,h.cell 8,h.cell 11,h.cell 14,h.frozen 0,h.frozen 1,h.frozen 2⟩
structure BSd(B:Nat):Prop where
 smd:∀z:Int,z.natAbs<B->Smd z
theorem BSd.bsm(h:BSd B):BSm B:=⟨fun z a=>(h.smd z a).sm⟩
def zWL(B C:Nat)(F:Nat->Nat->Int)(i j:Nat)(m0 m1 m2 m3:Int):Prop:=
 m0.natAbs<B/\m1.natAbs<B/\m2.natAbs<B/\m3.natAbs<B/\∀t,t<C->(F i t).natAbs<B/\(F j t).natAbs<B/\(m0*F i t).natAbs<B/\(m1*F j t).natAbs<B/\(m2*F i t).natAbs<B/\(m3*F j t).natAbs<B
theorem zWL.bl(a:BSm B)(h:zWL B C F i j m0 m1 m2 m3):zSc C (F i) (F j) m0 m1 m2 m3:=fun t c=>by
 obtain⟨-,-,-,-,b⟩:=h;obtain⟨d,e,f,g,k,l⟩:=b t c;exact⟨a.sm _ d,a.sm _ e,a.sm _ f,a.sm _ g,a.sm _ k,a.sm _ l⟩
theorem zWL.ms(a:BSm B)(h:zWL B C F i j m0 m1 m2 m3):Sm m0/\Sm m1/\Sm m2/\Sm m3:=⟨a.sm _ h.1,a.sm _ h.2.1,a.sm _ h.2.2.1,a.sm _ h.2.2.2.1⟩
structure zSd(B C Cu Cw:Nat)(z:W5)(i j:Nat):Prop where
 sz:(z.s i i).natAbs<B/\(z.s j j).natAbs<B
 g0:Int.gcd (z.s i i) (z.s j j)≠0
 all:∀g u v s t:Int,g=((Int.gcd (z.s i i) (z.s j j):Nat):Int)->u=z.s i i/g->v=z.s j j/g->Bez (z.s i i) (z.s j j) s t->
  (z.s i i*v).natAbs<B/\(t*v).natAbs<B/\zWL B Cu z.u i j s t (-v) u/\zWL B Cu z.v i j u v (-t) s/\zWL B Cw z.w i j 1 1 (-(t*v)) (1-t*v)/\zWL B Cw z.x i j (1-t*v) (t*v) (-1) 1
section
variable {P:Program} {ops:Array Oper} {Q:Exit->Act->World->Prop}
def zI9(ops:Array Oper):Nat->Nat->Nat->Bool
 |0,j,k=>j==k
 |f+1,j,k=>j==k||((ops[j]?).map (fun o=>o.after.any fun e=>Region.binds .any e && zI9 ops f e.on k)).getD false
theorem zD7{L:Array Bool}(d:zC2 ops L):∀{f j k:Nat},zI9 ops f j k=true->L[j]?=some true->L[k]?=some true:=by
 intro f;induction f with
 |zero=>
  intro j k h a;unfold zI9 at h;rw[<-(beq_iff_eq.1 h)];exact a
 | succ f i=>
  intro j k h a;unfold zI9 at h;rw[Bool.or_eq_true]at h;rcases h with h|h
  .rw[<-(beq_iff_eq.1 h)]
   exact a
  cases c:ops[j]? with
  |none=>rw[c]at h;simp at h
  |some o=>
   rw[c]at h;simp only[Option.map_some,Option.getD_some]at h;rw[<-zBC,zAz]at h;obtain⟨e,g,b⟩:=h;rw[zDU]at b;refine i b.2 (d j o c a e.on ?_);unfold zDz;rw[<-zBC,zAz];exact⟨e,g,by simp[b.1]⟩
variable {W:World} {n0:Nat} {T0:Array Value} {tB:TypeId} {vs:List VS} {bs:List BS} {es:List ES} {L:Array Bool} {T:Array Value} {w w':World}
theorem RI.skip(h:RI W n0 T0 tB vs bs es L T w)(h1:∀s∈vs,s.op≠k)(h2:∀s∈bs,s.al≠k/\s.st≠k)(m:∀s∈es,s.st≠k):RI W n0 T0 tB vs bs es (L.setIfInBounds k true) T w:=
 ⟨h.wf,h.tb,h.lv,h.lb,h.le,h.eb,h.ed,h.size,h.keep,h.bel0,h.old,h.lext,h.ge,
  fun s a g=>zCK (h.sto s a (zAE g (qF (h2 s a).2))),
  fun s a g=>h.val s a (zAE g (qF (h1 s a))),
  fun s a g=>by
   obtain⟨b,x,y,d,e,i,l⟩:=h.box s a (zAE g (qF (h2 s a).1));exact⟨b,x,y,d,e,i,fun f=>l (zAE f (qF (h2 s a).2))⟩,
  fun s a t j n o p b c d e=>h.far s a t j n (zAE o (qF (h2 s a).1)) (zAE p (qF (h2 t j).1)) b c d e,
  fun s a=>by
   obtain⟨⟨x,y,d,e⟩,i⟩:=h.ex s a;exact⟨⟨x,y,d,fun f=>e (zAE f (qF (m s a)))⟩,fun f=>i (zQg f)⟩⟩
theorem zFe(h:w.heap[b]?=W.heap[b]?):w.frozen? ⟨b,o,none⟩=W.frozen? ⟨b,o,none⟩:=by
 simp only[World.frozen?,h]
theorem zHX(h:w.heap[b]?=W.heap[b]?):w.cell? ⟨b,o,none⟩=W.cell? ⟨b,o,none⟩:=by
 simp only[World.cell?,h]
def zNA(T:Array Value)(sl k:Nat):Value:=match T[sl]? with
 |some (.agg cs)=>cs.getD k undef
 |_=>undef
def zXb(sl b o:Nat):Array Value->World->World:=fun T w=>(w.setCell ⟨b,o,none⟩ (zNA T sl 0)).setCell ⟨b,o+1,none⟩ (zNA T sl 1)
theorem zQ1{T:Array Value}{a:Nat}{x y:Value}(h:T[a]?=some (.agg #[x,y])):zNA T a 0=x/\zNA T a 1=y:=by
 unfold zNA;rw[h];exact⟨rfl,rfl⟩
structure RIS(W:World)(n0:Nat)(T0:Array Value)(tB:TypeId)(vs:List VS)(bs:List BS)(es:List ES)(k1 k2:Nat)(p1:World->World)(p2:Array Value->World->World)(L:Array Bool)(T:Array Value)(w:World):Prop where
 ex:∃w0,RI W n0 T0 tB vs bs es L T w0/\(L[k1]?≠some true->w=w0)/\(L[k1]?=some true->L[k2]?≠some true->w=p1 w0)/\(L[k2]?=some true->w=p2 T (p1 w0))
variable {n k1 k2:Nat} {p1:World->World} {p2:Array Value->World->World}
theorem RIS.start(h:RI W n0 T0 tB vs bs es (Array.replicate n false) T w):RIS W n0 T0 tB vs bs es k1 k2 p1 p2 (Array.replicate n false) T w:=by
 have b:∀k:Nat,(Array.replicate n false)[k]?≠some true:=by
  intro k h;rw[Array.getElem?_replicate]at h;split at h<;>simp at h
 exact⟨w,h,fun _=>rfl,fun a=>absurd a (b _),fun a=>absurd a (b _)⟩
theorem zAO.lift{d:List Deferred}{o:Oper}(m:zI9 ops 9 k1 k=true)(n:zI9 ops 9 k2 k1=true)(f:k≠k1/\k≠k2)(h:zAO P ops Q d (RI W n0 T0 tB vs bs es) k o):zAO P ops Q d (RIS W n0 T0 tB vs bs es k1 k2 p1 p2) k o:=by
 intro L T w e hd b hI K hK;obtain⟨s,p,i,q,r⟩:=hI.ex;have c:L[k1]?≠some true:=fun a=>by
  have:=zD7 b m a;rw[e]at this;cases this
 have l:L[k2]?≠some true:=fun a=>c (zD7 b n a)
 obtain rfl:=i c;exact h L T w e @hd b p K (fun g w' j=>hK g w' ⟨w',j,fun _=>rfl,fun a=>absurd (zAE a f.1) c,fun a=>absurd (zAE a f.2) l⟩)
theorem RIS.value{v:Value}(h:RIS W n0 T0 tB vs bs es k1 k2 p1 p2 L T w)(i:zC2 ops L)(m:zI9 ops 9 k2 k=true)(f:L[k]?=some false)(b:k≠k1/\k≠k2)(s:VS)(o:s∈vs)(p:s.op=k)(g:∀w,s.P w v):
  RIS W n0 T0 tB vs bs es k1 k2 p1 p2 (L.setIfInBounds k true) (T.setIfInBounds s.slot v) w:=by
 obtain⟨c,n,d,e,q⟩:=h.ex;have l:L[k2]?≠some true:=fun a=>by
  have:=zD7 i m a;rw[f]at this;cases this
 exact⟨c,n.value s o p (g c),fun a=>d (zQg a),fun a j=>e (zAE a b.1) (zQg j),fun a=>absurd (zAE a b.2) l⟩
theorem RIS.val{s:VS}(h:RIS W n0 T0 tB vs bs es k1 k2 p1 p2 L T w)(f:s∈vs)(d:L[s.op]?=some true)(c:∀w w' v,s.P w v->s.P w' v):∃v,T[s.slot]?=some v/\∀w,s.P w v:=by
 obtain⟨g,e,-⟩:=h.ex;obtain⟨v,a,b⟩:=e.val s f d;exact⟨v,a,fun w=>c _ _ _ b⟩
theorem RIS.keep(h:RIS W n0 T0 tB vs bs es k1 k2 p1 p2 L T w)(h1:∀s∈vs,s.slot≠j)(h2:∀s∈bs,s.slot≠j):T[j]?=T0[j]?:=by
 obtain⟨b,a,-⟩:=h.ex;exact a.keep j h1 h2
theorem RIS.first(h:RIS W n0 T0 tB vs bs es k1 k2 p1 p2 L T w)(g:zC2 ops L)(k:zI9 ops 9 k2 k1=true)(b:L[k1]?=some false)(j:k1≠k2)(h1:∀s∈vs,s.op≠k1)(h2:∀s∈bs,s.al≠k1/\s.st≠k1)(f:∀s∈es,s.st≠k1):
  RI W n0 T0 tB vs bs es L T w/\RIS W n0 T0 tB vs bs es k1 k2 p1 p2 (L.setIfInBounds k1 true) T (p1 w):=by
 obtain⟨m,d,e,n,o⟩:=h.ex;have c:L[k1]?≠some true:=by rw[b];simp
 have i:L[k2]?≠some true:=fun a=>c (zD7 g k a)
 have l:w=m:=e c;subst l;refine⟨d,⟨w,d.skip h1 h2 f,fun a=>absurd (Array.getElem?_setIfInBounds_self_of_lt (Array.getElem?_eq_some_iff.1 b).1) a,fun _ _=>rfl,fun a=>absurd (zAE a j) i⟩⟩
theorem RIS.second(h:RIS W n0 T0 tB vs bs es k1 k2 p1 p2 L T w)(d:L[k1]?=some true)(c:L[k2]?=some false)(h1:∀s∈vs,s.op≠k2)(h2:∀s∈bs,s.al≠k2/\s.st≠k2)(g:∀s∈es,s.st≠k2):
  ∃a,w=p1 a/\RI W n0 T0 tB vs bs es L T a/\RIS W n0 T0 tB vs bs es k1 k2 p1 p2 (L.setIfInBounds k2 true) T (p2 T (p1 a)):=by
 obtain⟨a,e,j,f,k⟩:=h.ex;have i:L[k2]?≠some true:=by rw[c];simp
 refine⟨a,f d i,e,⟨a,e.skip h1 h2 g,fun b=>absurd (zCK d) b,fun _ b=>absurd (Array.getElem?_setIfInBounds_self_of_lt (Array.getElem?_eq_some_iff.1 c).1) b,fun _=>rfl⟩⟩
theorem RIS.fin(h:RIS W n0 T0 tB vs bs es k1 k2 p1 p2 (Array.replicate n true) T w)(c:k2<n):∃a,RI W n0 T0 tB vs bs es (Array.replicate n true) T a/\w=p2 T (p1 a):=by
 obtain⟨a,d,e,f,b⟩:=h.ex;exact⟨a,d,b (by simp[c])⟩
end
theorem zUj{g p:Int}(b:i<R)(d:j<R)(c:i<C)(e:j<C)(a:g=((Int.gcd (F i i) (F j j):Nat):Int))(f:p=F i i*(F j j/((Int.gcd (F i i) (F j j):Nat):Int))):
  zQf (zQf (genM R C F) i i g) j j p=genM R C (zI2 F i j):=by
 rw[zDx _ b c,zDx _ d e,a,f];rfl
theorem zX1{z:W5}{s t G u v:Int}(a:G=((Int.gcd (z.s i i) (z.s j j):Nat):Int))(b:u=z.s i i/G)(hv:v=z.s j j/G):
  qAL z i j s t=⟨zI2 z.s i j,jQ z.u i j s t (-v) u,jQ z.v i j u (-(-v)) (-t) s,jQ z.w i j 1 1 (-(t*v)) (1-t*v),jQ z.x i j (1-t*v) (-(-(t*v))) (-1) 1⟩:=by
 rw[zCJ,zCJ];subst b;subst hv;subst a;rfl
theorem zCu.twUV{z:W5}(h:zCu w base wb RS CS R C Cu Cw AS AU AV AW AX bS bU bV bW bX z)(d:qK (fun b=>b∈bU∨b∈bV) w w')(e:Wri w' AU R Cu bU F)(hv:Wri w' AV R Cu bV G):
  zCu w' base wb RS CS R C Cu Cw AS AU AV AW AX bS bU bV bW bX ⟨z.s,F,G,z.w,z.x⟩/\qK (fun b=>base<=b) w w':=by
 refine⟨⟨d.blk h.blk ?_,h.wbb,h.mS.keepZ d ?_,e,hv,h.mW.keepZ d ?_,h.mX.keepZ d ?_,h.zb,h.su,h.sv,h.sw,h.sx,h.uv,h.uw,h.ux,h.vw,h.vx,h.wx⟩,d.mono ?_⟩
 .rintro(a|a)
  .exact h.mU.nwb h.blk (.inl a)
  exact h.mV.nwb h.blk (.inl a)
 .rintro b c (a|a)
  .exact h.su b c (.inl a)
  exact h.sv b c (.inl a)
 .rintro b c (a|a)
  .exact h.uw b (.inl a) c
  exact h.vw b (.inl a) c
 .rintro b c (a|a)
  .exact h.ux b (.inl a) c
  exact h.vx b (.inl a) c
 rintro b-(a|a);exact h.zb b (.inr (.inl (.inl a)));exact h.zb b (.inr (.inr (.inl (.inl a))))
theorem zCu.twWX{z:W5}(h:zCu w base wb RS CS R C Cu Cw AS AU AV AW AX bS bU bV bW bX z)(d:qK (fun b=>b∈bW∨b∈bX) w w')(e:Wri w' AW C Cw bW F)(hv:Wri w' AX C Cw bX G):
  zCu w' base wb RS CS R C Cu Cw AS AU AV AW AX bS bU bV bW bX ⟨z.s,z.u,z.v,F,G⟩/\qK (fun b=>base<=b) w w':=by
 refine⟨⟨d.blk h.blk ?_,h.wbb,h.mS.keepZ d ?_,h.mU.keepZ d ?_,h.mV.keepZ d ?_,e,hv,h.zb,h.su,h.sv,h.sw,h.sx,h.uv,h.uw,h.ux,h.vw,h.vx,h.wx⟩,d.mono ?_⟩
 .rintro(a|a)
  .exact h.mW.nwb h.blk (.inl a)
  exact h.mX.nwb h.blk (.inl a)
 .rintro b c (a|a)
  .exact h.sw b c (.inl a)
  exact h.sx b c (.inl a)
 .rintro b c (a|a)
  .exact h.uw b c (.inl a)
  exact h.ux b c (.inl a)
 .rintro b c (a|a)
  .exact h.vw b c (.inl a)
  exact h.vx b c (.inl a)
 rintro b-(a|a);exact h.zb b (.inr (.inr (.inr (.inl (.inl a)))));exact h.zb b (.inr (.inr (.inr (.inr (.inl a)))))
theorem zB9.blw{z:Int}(h:zB9 w b z)(a:qK Z w w')(c:¬ Z b):zB9 w' b z:=h.old (a.old b h.lt c) a.lext
theorem zPq(hB:BSd B){z:W5}(h:zCu w base wb R C R C Cu Cw AS AU AV AW AX bS bU bV bW bX z){i j:Nat}
  (hij:i<j) (hjR:j<R) (hjC:j<C) (hR:R<=1000000) (hC:C<=1000000) (hCu:Cu<=1000000) (hCw:Cw<=1000000) (hok:zSd B C Cu Cw z i j):
  CPq 161 #[.pointer (some ⟨wb,0,none⟩),.int .i64 i,.int .i64 j] w fun e w'=>(∃u,e= .returned u)/\qK (fun b=>base<=b) w w'∧
   ∃s t,Bez (z.s i i) (z.s j j) s t/\zCu w' base wb R C R C Cu Cw AS AU AV AW AX bS bU bV bW bX (qAL z i j s t):=by
 have hBm:=hB.bsm;obtain⟨so,sn,sc,rfl,s1,s2,s3,-⟩:=id (qH.rows h.mS);obtain⟨uo,un,uc,rfl,u1,u2,u3,-⟩:=id (qH.rows h.mU);obtain⟨vo,vn,vc,rfl,v1,v2,v3,-⟩:=id (qH.rows h.mV);obtain⟨wo,wn,wc,rfl,w1,w2,w3,-⟩:=id (qH.rows h.mW);obtain⟨xo,xn,xc,rfl,x1,x2,x3,-⟩:=id (qH.rows h.mX);obtain rfl:R=sn:=by rw[<-s1];simp[genM]
 obtain rfl:R=un:=by rw[<-u1];simp[genM]
 obtain rfl:R=vn:=by rw[<-v1];simp[genM]
 obtain rfl:C=wn:=by rw[<-w1];simp[genM]
 obtain rfl:C=xn:=by rw[<-x1];simp[genM]
 clear s1 u1 v1 w1 x1 s2 s3 u2 u3 v2 v3 w2 w3 x2 x3;have hiR:i<R:=oM;have hiC:i<C:=oM;have hne:i≠j:=oM;obtain⟨gs,bi,rfl,hgs,hbi,hbi2,o1,-⟩:=qH.at_ h.mS (i:=i) (by rw[h.mS.len];exact hiR);obtain⟨g2,bj,eg,hg2,hbj,hbj2,o2,-⟩:=qH.at_ h.mS (i:=j) (by rw[h.mS.len];exact hjR);obtain rfl:gs=g2:=by injection eg with eg;injection eg
 clear eg;have H0:=xgv h;obtain⟨G,hG⟩:∃G:Int,G=((Int.gcd (z.s i i) (z.s j j):Nat):Int):=⟨_,rfl⟩;obtain⟨uq,hu⟩:∃u:Int,u=z.s i i/G:=⟨_,rfl⟩;obtain⟨vq,hv⟩:∃v:Int,v=z.s j j/G:=⟨_,rfl⟩;have HU:=xgv hu;have HV:=xgv hv;have HG:=xgv hG;have hG0:G≠0:=by rw[hG];have:=hok.g0;omega
 have HG0:=xgv hG0;have hGle:G.natAbs<=max (z.s i i).natAbs (z.s j j).natAbs:=by
  rw[hG,yT];by_cases hx0:z.s i i=0
  .rw[hx0,Int.gcd_zero_left];omega
  have h3:Int.gcd (z.s i i) (z.s j j)<=(z.s i i).natAbs:=zCA oM (Nat.gcd_dvd_left _ _);omega
 have SX:jI (Smd (z.s i i)):=⟨hB.smd _ hok.sz.1⟩;have SY:jI (Smd (z.s j j)):=⟨hB.smd _ hok.sz.2⟩;have SG:jI (Sm G):=⟨(hB.smd _ (by have:=hok.sz;omega)).sm⟩;have HOK:=xgv hok;clear hu hv hG hG0 hGle hok;obtain⟨xs,xa,xl,xc',p1,p2,-,-,hx⟩:=(h.mS.rowAt hiR hbi).cell (yO hiC);obtain⟨ys,ya,yl,yc,r1,r2,-,-,hy⟩:=(h.mS.rowAt hjR hbj).cell (yO hjC);obtain⟨k0,k1,k2,k5,k8,k11,k14,-,-,-⟩:=h.blk.fifteen;have lw0:=h.blk.lt;have hZL:∀b,(b∈bU∨b∈bV)∨(b∈bW∨b∈bX)∨b∈bS->b<w.heap.size:=by
  rintro b ((hb|hb)|(hb|hb)|hb);exact h.mU.zlt (.inl hb);exact h.mV.zlt (.inl hb);exact h.mW.zlt (.inl hb);exact h.mX.zlt (.inl hb);exact h.mS.zlt (.inl hb)
 have HZL:=xgv hZL;clear h hZL;go_enter Tryz.func161,Tryz.ntmps161;go_upto_region 0 with(fail)
 refine zBP [pcI 11 (z.s i i),pcI 23 (z.s j j),pbA 24 43 2,pbA 25 43 2,pbS 26 24 43 2,pbS 27 25 43 2] ?_;refine sRd ?_;refine sRc (fun wS hI Gk hG=>?_) (fun va11 hv=>?_)
 .have cc0:=hI.cell p1
  have cc1:=hI.cell p2;go_simp;exact⟨hG _ _ (hx.ext hI.lext),zC _ _⟩
 obtain⟨xa24,ya24,rfl,qa24⟩:=zJD hv;clear hv;refine sRd ?_;refine sRc (fun wS hI Gk hG=>?_) (fun va23 hv=>?_)
 .have cc0:=hI.cell r1
  have cc1:=hI.cell r2;go_simp;exact⟨hG _ _ (hy.ext hI.lext),zC _ _⟩
 obtain⟨xa25,ya25,rfl,qa25⟩:=zJD hv;clear hv;refine sRa (cs:=#[.bool false,.slice none 0 0]) fun ca24 ga24=>?_
 refine sRa (cs:=#[.bool false,.slice none 0 0]) fun ca25 ga25=>?_
 refine sRs ca24 (.agg #[xa24,ya24]) ?_ qa24;refine sRs ca25 (.agg #[xa25,ya25]) ?_ qa25;refine sRb ?_;simp only[FA,FC,FN,ptr,List.nil_append,List.cons_append,Act.put,xgh,xgi,xgj];intro w1 hbw1 ha11 ha23 ka24 ka25 na24 na25;replace ka24:Blk w1 ca24 43 #[xa24,ya24]:=ka24 _ rfl;have ia24:=ha11;replace ka25:Blk w1 ca25 43 #[xa25,ya25]:=ka25 _ rfl;have ia25:=ha23;have na24_25:ca24≠ca25:=na24 (25,ca25) sI;clear na24 na25;have hO:=qK.of (fun b=>base<=b) hbw1;have hk:=H0.out.I hbw1;have H1:=xgv hk;have z6:=zB9.mk ka24 ia24;have z7:=zB9.mk ka25 ia25;have hszw:=hbw1.size;clear k0 k1 k2 k5 k8 k11 k14 o1 o2 p1 p2 r1 r2 hx hy ka24 ka25 ia24 ia25 ha11 ha23 hk H0;obtain⟨ns6,na6,nl6,nc6,kk6,ii6⟩:=id z6;obtain⟨ns7,na7,nl7,nc7,kk7,ii7⟩:=id z7;obtain⟨c1,c2,c3,c4⟩:=kk6.two;obtain⟨d1,d2,d3,d4⟩:=kk7.two;have l6:=kk6.lt;have l7:=kk7.lt;go_wp2_with fail
 refine(zTK _ _ (z.s i i) (z.s j j) w1 ii6 ii7 SX.out SY.out).mono ?_;rintro e w2 ⟨v1,v2,v3,s,t,rfl,hg,hs,ht,hbez,hsb,htb,hb2⟩;have HBZ:jI (Bez (z.s i i) (z.s j j) s t):=⟨⟨hbez,hsb,htb⟩⟩;rw[<-HG.out]at hg;have hall:=HOK.out.all G uq vq s t HG.out HU.out HV.out HBZ.out;have HALL:=xgv hall;obtain⟨gn,ga,gl,gc,gx,rfl,hg'⟩:=id hg;obtain⟨sn,sa,sl,sc',sx,rfl,hs'⟩:=id hs;obtain⟨tn,ta,tl,tc,tx,rfl,ht'⟩:=id ht;have HG':=xgw hg';have HS':=xgw hs';have HT':=xgw ht';clear hg' hs' ht' hbez hsb htb hall c1 c2 c3 c4 d1 d2 d3 d4;go_upto_region 2 with(fail)
 refine zF ?_;intro W3 hW3;obtain⟨hB3,T8,T9,T10,hs3⟩:=zBc hW3;have hb23:=nx hb2 hB3;have hO:=hO.trans (qK.of _ hb23);have H1:=xgv (H1.out.I hb23);have z6:=z6.I hb23;have z7:=z7.I hb23;have z8:=zB9.mk T8 (hg.ext (lx hB3));have z9:=zB9.mk T9 (hs.ext (lx hB3));have z10:=zB9.mk T10 (ht.ext (lx hB3));have hszw2:=hb23.size;have hszw3:=hb2.size;clear hW3 T8 T9 T10 hg hs ht kk6 kk7 ii6 ii7 l6 l7;obtain⟨ns6,na6,nl6,nc6,kk6,ii6⟩:=id z6;obtain⟨ns7,na7,nl7,nc7,kk7,ii7⟩:=id z7;obtain⟨ns8,na8,nl8,nc8,kk8,ii8⟩:=id z8;obtain⟨c1,c2,c3,c4⟩:=kk6.two;obtain⟨d1,d2,d3,d4⟩:=kk7.two;obtain⟨e1,e2,e3,e4⟩:=kk8.two;have l6:=kk6.lt;have l7:=kk7.lt;have l8:=kk8.lt;refine zBP [pcI 2 (uq),pcI 5 (vq),pbA 6 43 2,pbA 7 43 2,pbS 8 6 43 2,pbS 9 7 43 2] ?_;refine sRd ?_;refine sRc (fun wS hI Gk hG=>?_) (fun vb2 hv=>?_)
 .go_simp
  refine(zIt _ _ (z.s i i) G _ (ii6.ext hI.lext) (ii8.ext hI.lext) SX.out.sm SG.out HG0.out).mono ?_;rintro e wa ⟨v,rfl,hv,hba⟩;rw[<-HU.out]at hv;exact⟨_,rfl,hG _ _ hv,hba⟩
 obtain⟨xb6,yb6,rfl,qb6⟩:=zJD hv;clear hv;refine sRd ?_;refine sRc (fun wS hI Gk hG=>?_) (fun vb5 hv=>?_)
 .go_simp
  refine(zIt _ _ (z.s j j) G _ (ii7.ext hI.lext) (ii8.ext hI.lext) SY.out.sm SG.out HG0.out).mono ?_;rintro e wa ⟨v,rfl,hv,hba⟩;rw[<-HV.out]at hv;exact⟨_,rfl,hG _ _ hv,hba⟩
 obtain⟨xb7,yb7,rfl,qb7⟩:=zJD hv;clear hv;refine sRa (cs:=#[.bool false,.slice none 0 0]) fun cb6 gb6=>?_
 refine sRa (cs:=#[.bool false,.slice none 0 0]) fun cb7 gb7=>?_
 refine sRs cb6 (.agg #[xb6,yb6]) ?_ qb6;refine sRs cb7 (.agg #[xb7,yb7]) ?_ qb7;refine sRb ?_;simp only[FA,FC,FN,ptr,List.nil_append,List.cons_append,Act.put,xgh,xgi,xgj];intro w4 hbw4 hb2 hb5 kb6 kb7 nb6 nb7;replace kb6:Blk w4 cb6 43 #[xb6,yb6]:=kb6 _ rfl;have ib6:=hb2;replace kb7:Blk w4 cb7 43 #[xb7,yb7]:=kb7 _ rfl;have ib7:=hb5;have nb6_7:cb6≠cb7:=nb6 (7,cb7) sI;clear nb6 nb7;have hO:=hO.trans (qK.of _ hbw4);have H1:=xgv (H1.out.I hbw4);have z6:=z6.I hbw4;have z7:=z7.I hbw4;have z8:=z8.I hbw4;have z9:=z9.I hbw4;have z10:=z10.I hbw4;have z11:=zB9.mk kb6 ib6;have z12:=zB9.mk kb7 ib7;have hszw4:=hbw4.size;clear c1 c2 c3 c4 d1 d2 d3 d4 e1 e2 e3 e4 kk6 kk7 kk8 ii6 ii7 ii8 l6 l7 l8 kb6 kb7 ib6 ib7 hb2 hb5;obtain⟨a1,a2,a3,a4,a5,a6⟩:=HALL.out;have A1:=xgv a1;have A2:=xgv a2;have A3:=xgv a3;have A4:=xgv a4;have A5:=xgv a5;have A6:=xgv a6;clear a1 a2 a3 a4 a5 a6 HALL;obtain⟨k0,k1,k2,k5,k8,k11,k14,-,-,-⟩:=H1.out.blk.fifteen;have lw0:=H1.out.blk.lt;obtain⟨ns9,na9,nl9,nc9,kk9,ii9⟩:=id z9;obtain⟨ns10,na10,nl10,nc10,kk10,ii10⟩:=id z10;obtain⟨ns11,na11,nl11,nc11,kk11,ii11⟩:=id z11;obtain⟨ns12,na12,nl12,nc12,kk12,ii12⟩:=id z12;obtain⟨c1,c2,c3,c4⟩:=kk9.two;obtain⟨d1,d2,d3,d4⟩:=kk10.two;obtain⟨e1,e2,e3,e4⟩:=kk11.two;obtain⟨f1,f2,f3,f4⟩:=kk12.two;have l9:=kk9.lt;have l10:=kk10.lt;have l11:=kk11.lt;have l12:=kk12.lt;have hl2:=zEG (-vq) uq;have hl4:=zGV s t (-vq) uq;go_upto_region 3 with(fail)
 refine yA 23 [pcI 19 (-vq),pcD 21 [19] (M2V (-vq) uq),pcD 22 [21] (fun w v=>M4V w v s t (-vq) uq)] ?_;refine sRd ?_;refine sRc (fun wS hI Gk hG=>by go_simp;exact ck hG (zBk _ vq _ (ii12.ext hI.lext).J (A4.out.ms hBm).2.1)) (fun vc19 _=>?_);refine sRd ?_;refine sRc (fun wS hI hc19 Gk hG=>?_) (fun vc21 _=>?_)
 .obtain⟨a19,b19,d19,e19,x19,rfl,y19⟩:=id hc19
  go_simp;exact⟨hG _ _ ⟨_,_,_,_,_,_,_,_,rfl,hc19,ii11.ext hI.lext⟩,zC _ _⟩
 refine sRc (fun wS hI hc21 Gk hG=>?_) (fun vc22 _=>?_)
 .obtain⟨p0,p1,p2,p3,p4,p5,p6,p7,rfl,p8,p9⟩:=hc21
  go_simp;exact⟨hG _ _ ⟨_,_,_,_,_,_,_,_,_,_,_,_,_,_,_,_,rfl,ii9.ext hI.lext,ii10.ext hI.lext,p8,p9⟩,zC _ _⟩
 refine sRe ?_;intro w5 hbw5 hc19 hc21 hc22;have hO:=hO.trans (qK.of _ hbw5);have H1:=xgv (H1.out.I hbw5);have z6:=z6.I hbw5;have z7:=z7.I hbw5;have z8:=z8.I hbw5;have z10:=z10.I hbw5;have z12:=z12.I hbw5;have hszw5:=hbw5.size;have hm:M4V w5 vc22 s t (-vq) uq:=hc22;clear k0 k1 k2 k5 k8 k11 k14 c1 c2 c3 c4 d1 d2 d3 d4 e1 e2 e3 e4 f1 f2 f3 f4 kk9 kk10 kk11 kk12 ii9 ii10 ii11 ii12 l9 l10 l11 l12 hl2 hl4 hc19 hc21 hc22 lw0 z9 z11;obtain⟨p0,p1,p2,p3,p4,p5,p6,p7,p8,p9,p10,p11,p12,p13,p14,p15,rfl,-⟩:=id hm;have HM:=xgv hm;clear hm;go_wp2_with fail
 refine(zOG none 0 0 _ _ _ R Cu i j bU bV z.u z.v s t (-vq) uq w5 H1.out.mU H1.out.mV H1.out.uv.far HM.out hiR hjR hne hR hCu (A3.out.bl hBm) (by rw[zCJ];exact A4.out.bl hBm) (A3.out.ms hBm)).mono ?_;rintro e w6 ⟨⟨uu6,rfl⟩,hO6,hU6,hV6⟩;obtain⟨hk2,hO6'⟩:=H1.out.twUV hO6 hU6 hV6;have hO:=hO.trans hO6';have H2:=xgv hk2;have z6:=z6.blw hO6 (fun hh=>by have:=HZL.out _ (.inl hh);omega);have z7:=z7.blw hO6 (fun hh=>by have:=HZL.out _ (.inl hh);omega);have z8:=z8.blw hO6 (fun hh=>by have:=HZL.out _ (.inl hh);omega);have z10:=z10.blw hO6 (fun hh=>by have:=HZL.out _ (.inl hh);omega);have z12:=z12.blw hO6 (fun hh=>by have:=HZL.out _ (.inl hh);omega);have hszw6:=hO6.bel.size;clear HM H1 hk2 hU6 hV6;obtain⟨ns10,na10,nl10,nc10,kk10,ii10⟩:=id z10;obtain⟨ns12,na12,nl12,nc12,kk12,ii12⟩:=id z12;obtain⟨d1,d2,d3,d4⟩:=kk10.two;obtain⟨f1,f2,f3,f4⟩:=kk12.two;have l10:=kk10.lt;have l12:=kk12.lt;have STV:jI (Sm t/\Sm vq):=⟨⟨(A3.out.ms hBm).2.1,(A4.out.ms hBm).2.1⟩⟩;go_upto_region 4 with(fail)
 refine zBP [pcI 0 (1),pcI 3 (t*vq),pbA 4 43 2,pbA 5 43 2,pbS 6 4 43 2,pbS 7 5 43 2] ?_;refine sRc (fun wS hI Gk hG=>?_) (fun vd0 hv=>?_)
 .go_simp
  exact ck hG (zGt 1 _ oM oM)
 obtain⟨xd4,yd4,rfl,qd4⟩:=zJD hv;clear hv;refine sRd ?_;refine sRc (fun wS hI Gk hG=>?_) (fun vd3 hv=>?_)
 .go_simp
  exact ck hG (zES _ _ t vq _ (ii10.ext hI.lext).J (ii12.ext hI.lext).J STV.out.1 STV.out.2)
 obtain⟨xd5,yd5,rfl,qd5⟩:=zJD hv;clear hv;refine sRa (cs:=#[.bool false,.slice none 0 0]) fun cd4 gd4=>?_
 refine sRa (cs:=#[.bool false,.slice none 0 0]) fun cd5 gd5=>?_
 refine sRs cd4 (.agg #[xd4,yd4]) ?_ qd4;refine sRs cd5 (.agg #[xd5,yd5]) ?_ qd5;refine sRb ?_;simp only[FA,FC,FN,ptr,List.nil_append,List.cons_append,Act.put,xgh,xgi,xgj];intro w7 hbw7 hd0 hd3 kd4 kd5 nd4 nd5;replace kd4:Blk w7 cd4 43 #[xd4,yd4]:=kd4 _ rfl;have id4:=hd0;replace kd5:Blk w7 cd5 43 #[xd5,yd5]:=kd5 _ rfl;have id5:=hd3;have nd4_5:cd4≠cd5:=nd4 (5,cd5) sI;clear nd4 nd5;have hO:=hO.trans (qK.of _ hbw7);have H2:=xgv (H2.out.I hbw7);have z6:=z6.I hbw7;have z7:=z7.I hbw7;have z8:=z8.I hbw7;have z12:=z12.I hbw7;have z13:=zB9.mk kd4 id4;have z14:=zB9.mk kd5 id5;have hszw7:=hbw7.size;clear d1 d2 d3 d4 f1 f2 f3 f4 kk10 kk12 ii10 ii12 l10 l12 kd4 kd5 id4 id5 hd0 hd3 z10 STV;obtain⟨k0,k1,k2,k5,k8,k11,k14,-,-,-⟩:=H2.out.blk.fifteen;have lw0:=H2.out.blk.lt;obtain⟨ns13,na13,nl13,nc13,kk13,ii13⟩:=id z13;obtain⟨ns14,na14,nl14,nc14,kk14,ii14⟩:=id z14;obtain⟨c1,c2,c3,c4⟩:=kk13.two;obtain⟨d1,d2,d3,d4⟩:=kk14.two;have l13:=kk13.lt;have l14:=kk14.lt;have hl2:=zEG (-(t*vq)) (1-t*vq);have hl4:=zGV 1 1 (-(t*vq)) (1-t*vq);go_upto_region 5 with(fail)
 refine yA 25 [pcI 19 (-(t*vq)),pcI 22 (1-t*vq),pcD 23 [19,22] (M2V (-(t*vq)) (1-t*vq)),pcD 24 [23] (fun w v=>M4V w v 1 1 (-(t*vq)) (1-t*vq))] ?_;refine sRd ?_;refine sRc (fun wS hI Gk hG=>by go_simp;exact ck hG (zBk _ (t*vq) _ (ii14.ext hI.lext).J (hBm.sm _ A2.out))) (fun vf19 _=>?_);refine sRd ?_;refine sRc (fun wS hI Gk hG=>by go_simp;exact ck hG (zPh _ _ 1 (t*vq) _ (ii13.ext hI.lext).J (ii14.ext hI.lext).J (A5.out.ms hBm).1 (hBm.sm _ A2.out))) (fun vf22 _=>?_);refine sRc (fun wS hI hf19 hf22 Gk hG=>?_) (fun vf23 _=>?_)
 .obtain⟨a19,b19,d19,e19,x19,rfl,y19⟩:=id hf19
  obtain⟨a22,b22,d22,e22,x22,rfl,y22⟩:=id hf22;go_simp;exact⟨hG _ _ ⟨_,_,_,_,_,_,_,_,rfl,hf19,hf22⟩,zC _ _⟩
 refine sRc (fun wS hI hf23 Gk hG=>?_) (fun vf24 _=>?_)
 .obtain⟨p0,p1,p2,p3,p4,p5,p6,p7,rfl,p8,p9⟩:=hf23
  go_simp;exact⟨hG _ _ ⟨_,_,_,_,_,_,_,_,_,_,_,_,_,_,_,_,rfl,ii13.ext hI.lext,ii13.ext hI.lext,p8,p9⟩,zC _ _⟩
 refine sRe ?_;intro w8 hbw8 hf19 hf22 hf23 hf24;have hO:=hO.trans (qK.of _ hbw8);have H2:=xgv (H2.out.I hbw8);have z6:=z6.I hbw8;have z8:=z8.I hbw8;have z12:=z12.I hbw8;have hszw8:=hbw8.size;have hm:M4V w8 vf24 1 1 (-(t*vq)) (1-t*vq):=hf24;clear k0 k1 k2 k5 k8 k11 k14 c1 c2 c3 c4 d1 d2 d3 d4 kk13 kk14 ii13 ii14 l13 l14 hl2 hl4 hf19 hf22 hf23 hf24 lw0 z13 z14 z7;obtain⟨p0,p1,p2,p3,p4,p5,p6,p7,p8,p9,p10,p11,p12,p13,p14,p15,rfl,-⟩:=id hm;have HM:=xgv hm;clear hm;go_wp2_with fail
 refine(zOG none 0 0 _ _ _ C Cw i j bW bX z.w z.x 1 1 (-(t*vq)) (1-t*vq) w8 H2.out.mW H2.out.mX H2.out.wx.far HM.out hiC hjC hne hC hCw (A5.out.bl hBm) (by rw[zCJ];exact A6.out.bl hBm) (A5.out.ms hBm)).mono ?_;rintro e w9 ⟨⟨uu9,rfl⟩,hO9,hW9,hX9⟩;obtain⟨hk2,hO9'⟩:=H2.out.twWX hO9 hW9 hX9;have hO:=hO.trans hO9';have H3:=xgv hk2;have z6:=z6.blw hO9 (fun hh=>by have:=HZL.out _ (.inr (.inl hh));omega);have z8:=z8.blw hO9 (fun hh=>by have:=HZL.out _ (.inr (.inl hh));omega);have z12:=z12.blw hO9 (fun hh=>by have:=HZL.out _ (.inr (.inl hh));omega);have hszw9:=hO9.bel.size;clear HM H2 hk2 hW9 hX9;obtain⟨k0,k1,k2,k5,k8,k11,k14,-,-,-⟩:=H3.out.blk.fifteen;have lw0:=H3.out.blk.lt;obtain⟨ns6,na6,nl6,nc6,kk6,ii6⟩:=id z6;obtain⟨ns8,na8,nl8,nc8,kk8,ii8⟩:=id z8;obtain⟨ns12,na12,nl12,nc12,kk12,ii12⟩:=id z12;obtain⟨c1,c2,c3,c4⟩:=kk6.two;obtain⟨d1,d2,d3,d4⟩:=kk8.two;obtain⟨f1,f2,f3,f4⟩:=kk12.two;have l6:=kk6.lt;have l8:=kk8.lt;have l12:=kk12.lt;obtain⟨g1,b1,eg1,hg1,hb1,hb12,o1,-⟩:=qH.at_ H3.out.mS (i:=i) (by rw[H3.out.mS.len];exact hiR);obtain⟨g2,b2,eg2,hg2',hb2',hb22,o2,-⟩:=qH.at_ H3.out.mS (i:=j) (by rw[H3.out.mS.len];exact hjR);obtain rfl:gs=g1:=by injection eg1 with eg1;injection eg1
 obtain rfl:gs=g2:=by injection eg2 with eg2;injection eg2
 obtain rfl:bi=b1:=qD (hbi.symm.trans hb1);obtain rfl:bj=b2:=qD (hbj.symm.trans hb2');clear eg1 eg2 hb1 hb2';have hbne:bi≠bj:=by
  intro hh;subst hh;obtain⟨f1,f2⟩:=xge.1 hbi;obtain⟨g1,g2⟩:=xge.1 hbj;exact hne ((jN (qH.nodup H3.out.mS)).1 (f2.trans g2.symm))
 obtain⟨sn1,sa1,sl1,sc1,q1,q2,q3,q4,-⟩:=qH.cellAt H3.out.mS hbi hiC;obtain⟨sn2,sa2,sl2,sc2,m1,m2,m3,m4,-⟩:=qH.cellAt H3.out.mS hbj hjC;go_upto_region 6 with(fail)
 refine zEJ rfl (RIS w9 (w9.heap.size) _ 43
   [⟨0,106,fun _ v=>v= .pointer (some ⟨wb,0,none⟩)⟩,⟨1,107,fun _ v=>v= .pointer (some ⟨wb,0,none⟩)⟩,⟨2,108,fun _ v=>v= .pointer (some ⟨wb,0,none⟩)⟩,⟨3,109,fun _ v=>v= .pointer (some ⟨wb,0,none⟩)⟩,⟨4,110,fun _ v=>v= .pointer (some ⟨wb,2,none⟩)⟩,⟨5,111,fun _ v=>v= .slice (some ⟨gs,0,none⟩) R sc⟩,⟨6,112,fun _ v=>v= .int .i64 i⟩,⟨7,113,fun _ v=>v= .pointer (some ⟨gs,i,none⟩)⟩,⟨8,114,fun _ v=>v= .slice (some ⟨bi,0,none⟩) C C⟩,⟨9,115,fun _ v=>v= .int .i64 i⟩,⟨10,116,fun _ v=>v= .pointer (some ⟨wb,0,none⟩)⟩,⟨11,117,fun _ v=>v= .pointer (some ⟨wb,0,none⟩)⟩,⟨12,118,fun _ v=>v= .pointer (some ⟨wb,0,none⟩)⟩,⟨13,119,fun _ v=>v= .pointer (some ⟨wb,0,none⟩)⟩,⟨14,120,fun _ v=>v= .pointer (some ⟨wb,2,none⟩)⟩,⟨15,121,fun _ v=>v= .slice (some ⟨gs,0,none⟩) R sc⟩,⟨16,122,fun _ v=>v= .int .i64 j⟩,⟨17,123,fun _ v=>v= .pointer (some ⟨gs,j,none⟩)⟩,⟨18,124,fun _ v=>v= .slice (some ⟨bj,0,none⟩) C C⟩,⟨19,125,fun _ v=>v= .int .i64 j⟩,⟨20,126,fun _ v=>v= .agg #[.bool ns8,.slice na8 nl8 nc8]⟩,⟨21,127,fun _ v=>v= .agg #[.bool ns6,.slice na6 nl6 nc6]⟩,⟨22,128,fun _ v=>v= .agg #[.bool ns12,.slice na12 nl12 nc12]⟩,⟨23,129,fun w v=>jE w v (z.s i i*vq)⟩,⟨24,130,fun _ v=>v= .pointer (some ⟨bi,i*2,none⟩)⟩,⟨26,131,fun _ v=>v= .pointer (some ⟨bj,j*2,none⟩)⟩]
   [] [] 25 27 (fun w=>(w.setCell ⟨bi,i*2,none⟩ (.bool ns8)).setCell ⟨bi,i*2+1,none⟩ (.slice na8 nl8 nc8)) (zXb 129 bj (j*2))) kR (RIS.start RI.start) ?fin6 ?steps6
 case steps6=>
  refine⟨?_,?_,?_,?_,?_,?_,?_,?_,?_,?_,?_,?_,?_,?_,?_,?_,?_,?_,?_,?_,?_,?_,?_,?_,?_,?_,?_,?_,trivial⟩
  .refine zAO.lift kR kR dE ?_
   intro L T wS hL hd hcl hI K hK;try refine qI rfl ?_
   have zt:T[0]?=some (.pointer (some ⟨wb,0,none⟩)):=hI.keep 0 sI sI;go_simp;exact hK _ _ (hI.y mm0 rfl)
  .refine zAO.lift kR kR dE ?_
   intro L T wS hL hd hcl hI K hK;try refine qI rfl ?_
   obtain⟨v0,zt0,rfl⟩:=hI.v mm0 (hd 0);go_simp;exact hK _ _ (hI.y mm1 rfl)
  .refine zAO.lift kR kR dE ?_
   intro L T wS hL hd hcl hI K hK;try refine qI rfl ?_
   obtain⟨v1,zt1,rfl⟩:=hI.v mm1 (hd 1);go_simp;exact hK _ _ (hI.y mm2 rfl)
  .refine zAO.lift kR kR dE ?_
   intro L T wS hL hd hcl hI K hK;try refine qI rfl ?_
   obtain⟨v2,zt2,rfl⟩:=hI.v mm2 (hd 2);go_simp;exact hK _ _ (hI.y mm3 rfl)
  .refine zAO.lift kR kR dE ?_
   intro L T wS hL hd hcl hI K hK;try refine qI rfl ?_
   obtain⟨v3,zt3,rfl⟩:=hI.v mm3 (hd 3);go_simp;exact hK _ _ (hI.y mm4 rfl)
  .refine zAO.lift kR kR dE ?_
   intro L T wS hL hd hcl hI K hK;try refine qI rfl ?_
   obtain⟨v4,zt4,rfl⟩:=hI.v mm4 (hd 4);have cc0:=hI.cell k2 oM aU;go_simp;exact hK _ _ (hI.y mm5 rfl)
  .refine zAO.lift kR kR dE ?_
   intro L T wS hL hd hcl hI K hK;try refine qI rfl ?_
   have zt:T[1]?=some (.int .i64 i):=hI.keep 1 sI sI;go_simp;exact hK _ _ (hI.y mm6 rfl)
  .refine zAO.lift kR kR dE ?_
   intro L T wS hL hd hcl hI K hK;try refine qI rfl ?_
   obtain⟨v5,zt5,rfl⟩:=hI.v mm5 (hd 5);obtain⟨v6,zt6,rfl⟩:=hI.v mm6 (hd 6);go_simp;exact hK _ _ (hI.y mm7 rfl)
  .refine zAO.lift kR kR dE ?_
   intro L T wS hL hd hcl hI K hK;try refine qI rfl ?_
   obtain⟨v7,zt7,rfl⟩:=hI.v mm7 (hd 7);have cc0:=hI.cell o1 oM aU;go_simp;exact hK _ _ (hI.y mm8 rfl)
  .refine zAO.lift kR kR dE ?_
   intro L T wS hL hd hcl hI K hK;try refine qI rfl ?_
   have zt:T[1]?=some (.int .i64 i):=hI.keep 1 sI sI;go_simp;exact hK _ _ (hI.y mm9 rfl)
  .refine zAO.lift kR kR dE ?_
   intro L T wS hL hd hcl hI K hK;try refine qI rfl ?_
   have zt:T[0]?=some (.pointer (some ⟨wb,0,none⟩)):=hI.keep 0 sI sI;go_simp;exact hK _ _ (hI.y zMT rfl)
  .refine zAO.lift kR kR dE ?_
   intro L T wS hL hd hcl hI K hK;try refine qI rfl ?_
   obtain⟨v10,zt10,rfl⟩:=hI.v zMT (hd 10);go_simp;exact hK _ _ (hI.y zLW rfl)
  .refine zAO.lift kR kR dE ?_
   intro L T wS hL hd hcl hI K hK;try refine qI rfl ?_
   obtain⟨v11,zt11,rfl⟩:=hI.v zLW (hd 11);go_simp;exact hK _ _ (hI.y zMt rfl)
  .refine zAO.lift kR kR dE ?_
   intro L T wS hL hd hcl hI K hK;try refine qI rfl ?_
   obtain⟨v12,zt12,rfl⟩:=hI.v zMt (hd 12);go_simp;exact hK _ _ (hI.y zPC rfl)
  .refine zAO.lift kR kR dE ?_
   intro L T wS hL hd hcl hI K hK;try refine qI rfl ?_
   obtain⟨v13,zt13,rfl⟩:=hI.v zPC (hd 13);go_simp;exact hK _ _ (hI.y zPD rfl)
  .refine zAO.lift kR kR dE ?_
   intro L T wS hL hd hcl hI K hK;try refine qI rfl ?_
   obtain⟨v14,zt14,rfl⟩:=hI.v zPD (hd 14);have cc0:=hI.cell k2 oM aU;go_simp;exact hK _ _ (hI.y zOO rfl)
  .refine zAO.lift kR kR dE ?_
   intro L T wS hL hd hcl hI K hK;try refine qI rfl ?_
   have zt:T[2]?=some (.int .i64 j):=hI.keep 2 sI sI;go_simp;exact hK _ _ (hI.y zRd rfl)
  .refine zAO.lift kR kR dE ?_
   intro L T wS hL hd hcl hI K hK;try refine qI rfl ?_
   obtain⟨v15,zt15,rfl⟩:=hI.v zOO (hd 15);obtain⟨v16,zt16,rfl⟩:=hI.v zRd (hd 16);go_simp;exact hK _ _ (hI.y zRe rfl)
  .refine zAO.lift kR kR dE ?_
   intro L T wS hL hd hcl hI K hK;try refine qI rfl ?_
   obtain⟨v17,zt17,rfl⟩:=hI.v zRe (hd 17);have cc0:=hI.cell o2 oM aU;go_simp;exact hK _ _ (hI.y zRf rfl)
  .intro L T wS hL hd hcl hI K hK
   try refine qI rfl ?_
   have zt:T[2]?=some (.int .i64 j):=hI.keep sI sI;go_simp;exact hK _ _ (hI.value hcl kR hL dE ⟨19,125,_⟩ zRg rfl (fun _=>rfl))
  .refine zAO.lift kR kR dE ?_
   intro L T wS hL hd hcl hI K hK;try refine qI rfl ?_
   have zt:T[8]?=some (.pointer (some ⟨w2.heap.size,0,none⟩)):=hI.keep 8 sI sI;have cc0:=hI.cell d1 oM aU;have cc1:=hI.cell d2 oM aU;go_simp;exact hK _ _ (hI.y zRh rfl)
  .refine zAO.lift kR kR dE ?_
   intro L T wS hL hd hcl hI K hK;try refine qI rfl ?_
   have zt:T[6]?=some (.pointer (some ⟨ca24,0,none⟩)):=hI.keep 6 sI sI;have cc0:=hI.cell c1 oM aU;have cc1:=hI.cell c2 oM aU;go_simp;exact hK _ _ (hI.y zRi rfl)
  .refine zAO.lift kR kR dE ?_
   intro L T wS hL hd hcl hI K hK;try refine qI rfl ?_
   have zt:T[12]?=some (.pointer (some ⟨cb7,0,none⟩)):=hI.keep 12 sI sI;have cc0:=hI.cell f1 oM aU;have cc1:=hI.cell f2 oM aU;go_simp;exact hK _ _ (hI.y zRj rfl)
  .refine zAO.lift kR kR dE ?_
   intro L T wS hL hd hcl hI K hK;try refine qI rfl ?_
   obtain⟨v21,zt21,rfl⟩:=hI.v zRi (hd 21);obtain⟨v22,zt22,rfl⟩:=hI.v zRj (hd 22);go_simp;refine(zES _ _ (z.s i i) vq _ (ii6.ext hI.lext).J (ii12.ext hI.lext).J SX.out.sm (A4.out.ms hBm).2.1).mono ?_;rintro e wa ⟨v,rfl,hv,hba⟩;exact hK _ _ ((hI.world hba).y zRk hv)
  .refine zAO.lift kR kR dE ?_
   intro L T wS hL hd hcl hI K hK;try refine qI rfl ?_
   obtain⟨v8,zt8,rfl⟩:=hI.v mm8 (hd 8);obtain⟨v9,zt9,rfl⟩:=hI.v mm9 (hd 9);go_simp;exact hK _ _ (hI.y zRl rfl)
  .intro L T wS hL hd hcl hI K hK
   try refine qI rfl ?_
   obtain⟨hI0,hIS⟩:=hI.first hcl kR hL dE sI sI sI
   obtain⟨_,zt24,rfl⟩:=hI0.v zRl (hd 24);obtain⟨_,zt20,rfl⟩:=hI0.v zRh (hd 20);have hh:=hI0.old bi oM sI;have cc1:=(zHX hh).trans q1;have cc2:=(zHX hh).trans q2;have cc3:=(zFe hh).trans q3;have cc4:=(zFe hh).trans q4;clear hh;go_simp;exact hK _ _ hIS
  .intro L T wS hL hd hcl hI K hK
   try refine qI rfl ?_
   obtain⟨v18,zt18,hz18⟩:=hI.val zRf (hd 18) (fun _ _ _ h=>h);replace hz18:v18= .slice (some ⟨bj,0,none⟩) C C:=hz18 wS;subst hz18;obtain⟨v19,zt19,hz19⟩:=hI.val zRg (hd 19) (fun _ _ _ h=>h);replace hz19:v19= .int .i64 j:=hz19 wS;subst hz19;go_simp;exact hK _ _ (hI.value hcl kR hL dE ⟨26,131,_⟩ zSZ rfl (fun _=>rfl))
  intro L T wS hL hd hcl hI K hK;try refine qI rfl ?_
  obtain⟨w0,rfl,hI0,hIS⟩:=hI.second (hd 25) hL sI sI sI;obtain⟨_,zt26,rfl⟩:=hI0.v zSZ (hd 26);obtain⟨v23,zt23,h23⟩:=hI0.v zRk (hd 23);obtain⟨vneg,vao,vlen,vcap,vls,rfl,hv'⟩:=id h23;have hh:((w0.setCell ⟨bi,i*2,none⟩ (.bool ns8)).setCell ⟨bi,i*2+1,none⟩ (.slice na8 nl8 nc8)).heap[bj]?=w9.heap[bj]?:=(yL _ _ _ _ _ _ _ (qF hbne)).trans (hI0.old bj oM sI);have cc1:=(zHX hh).trans m1;have cc2:=(zHX hh).trans m2;have cc3:=(zFe hh).trans m3;have cc4:=(zFe hh).trans m4;clear hh;obtain⟨e1,e2⟩:=zQ1 zt23;simp only[zXb,e1,e2]at hIS;go_simp;exact hK _ _ hIS
 intro T wf6 hIS;obtain⟨w10,hI,hwfg⟩:=hIS.fin dE;obtain⟨vg0,q0,rfl⟩:=hI.v mm0 rfl;obtain⟨vg1,q1,rfl⟩:=hI.v mm1 rfl;obtain⟨vg2,q2,rfl⟩:=hI.v mm2 rfl;obtain⟨vg3,q3,rfl⟩:=hI.v mm3 rfl;obtain⟨vg4,q4,rfl⟩:=hI.v mm4 rfl;obtain⟨vg5,q5,rfl⟩:=hI.v mm5 rfl;obtain⟨vg6,q6,rfl⟩:=hI.v mm6 rfl;obtain⟨vg7,q7,rfl⟩:=hI.v mm7 rfl;obtain⟨vg8,q8,rfl⟩:=hI.v mm8 rfl;obtain⟨vg9,q9,rfl⟩:=hI.v mm9 rfl;obtain⟨vg10,q10,rfl⟩:=hI.v zMT rfl;obtain⟨vg11,q11,rfl⟩:=hI.v zLW rfl;obtain⟨vg12,q12,rfl⟩:=hI.v zMt rfl;obtain⟨vg13,q13,rfl⟩:=hI.v zPC rfl;obtain⟨vg14,q14,rfl⟩:=hI.v zPD rfl;obtain⟨vg15,q15,rfl⟩:=hI.v zOO rfl;obtain⟨vg16,q16,rfl⟩:=hI.v zRd rfl;obtain⟨vg17,q17,rfl⟩:=hI.v zRe rfl;obtain⟨vg18,q18,rfl⟩:=hI.v zRf rfl;obtain⟨vg19,q19,rfl⟩:=hI.v zRg rfl;obtain⟨vg20,q20,rfl⟩:=hI.v zRh rfl;obtain⟨vg21,q21,rfl⟩:=hI.v zRi rfl;obtain⟨vg22,q22,rfl⟩:=hI.v zRj rfl;obtain⟨vg23,q23,hg23⟩:=hI.v zRk rfl;replace hg23:jE w10 vg23 (z.s i i*vq):=hg23;obtain⟨vg24,q24,rfl⟩:=hI.v zRl rfl;obtain⟨vg26,q26,rfl⟩:=hI.v zSZ rfl;have hT:=zFs [(106,.pointer (some ⟨wb,0,none⟩)),(107,.pointer (some ⟨wb,0,none⟩)),(108,.pointer (some ⟨wb,0,none⟩)),(109,.pointer (some ⟨wb,0,none⟩)),(110,.pointer (some ⟨wb,2,none⟩)),(111,.slice (some ⟨gs,0,none⟩) R sc),(112,.int .i64 i),(113,.pointer (some ⟨gs,i,none⟩)),(114,.slice (some ⟨bi,0,none⟩) C C),(115,.int .i64 i),(116,.pointer (some ⟨wb,0,none⟩)),(117,.pointer (some ⟨wb,0,none⟩)),(118,.pointer (some ⟨wb,0,none⟩)),(119,.pointer (some ⟨wb,0,none⟩)),(120,.pointer (some ⟨wb,2,none⟩)),(121,.slice (some ⟨gs,0,none⟩) R sc),(122,.int .i64 j),(123,.pointer (some ⟨gs,j,none⟩)),(124,.slice (some ⟨bj,0,none⟩) C C),(125,.int .i64 j),(126,.agg #[.bool ns8,.slice na8 nl8 nc8]),(127,.agg #[.bool ns6,.slice na6 nl6 nc6]),(128,.agg #[.bool ns12,.slice na12 nl12 nc12]),(129,vg23),(130,.pointer (some ⟨bi,i*2,none⟩)),(131,.pointer (some ⟨bj,j*2,none⟩))]
  (fun j hj=>hI.keep j (by simp only[xgm]at hj ⊢;simp[hj]) (by simp only[xgm]at hj ⊢;simp[hj]))
  (by simp only[xgm];simp[q0,q1,q2,q3,q4,q5,q6,q7,q8,q9,q10,q11,q12,q13,q14,q15,q16,q17,q18,q19,q20,q21,q22,q23,q24,q26]) hI.size
 have hlw10:=hI.lext;have hbw10:=hI.bel (w9.heap.size) oM aU;have holdw10:=hI.old;clear hI;simp only[List.foldl_cons,List.foldl_nil,xgh,xgi,xgj,ptr]at hT;subst hT;clear q0 q1 q2 q3 q4 q5 q6 q7 q8 q9 q10 q11 q12 q13 q14 q15 q16 q17 q18 q19 q20 q21 q22 q23 q24 q26;have hO:=hO.trans (qK.of _ hbw10);have H3:=xgv (H3.out.I hbw10);have iG:=ii8.ext (lx hbw10);clear k0 k1 k2 k5 k8 k11 k14 c1 c2 c3 c4 d1 d2 d3 d4 f1 f2 f3 f4 o1 o2 kk6 kk8 kk12 ii6 ii8 ii12 l6 l8 l12 z6 z8 z12;clear q1 q2 q3 q4 m1 m2 m3 m4;obtain⟨qn,qa,ql,qc,qx,rfl,hqx⟩:=id hg23;have hwf:wf6=(((w10.setCell ⟨bi,i*2,none⟩ (.bool ns8)).setCell ⟨bi,i*2+1,none⟩ (.slice na8 nl8 nc8)).setCell ⟨bj,j*2,none⟩ (.bool qn)).setCell ⟨bj,j*2+1,none⟩ (.slice qa ql qc):=hwfg;subst hwf;clear hwfg;have HQX:=xgw hqx;clear hqx;have hset1:=qH.set H3.out.mS hbi hiC iG;have hset2:=hset1.1.set hbj hjC (hg23.ext hset1.2.1);have HSET:=xgv hset2;have HX1:=xgv hset1.2.1;clear hset1 hset2;go_wp2;have hS:=HSET.out.1;rw[zUj hiR hjR hiC hjC HG.out (by rw[<-HG.out,<-HV.out])]at hS;have hxx:=HX1.out.trans HSET.out.2.1;have hn1:∀b,b≠bi->b≠bj->((((w10.setCell ⟨bi,i*2,none⟩ (.bool ns8)).setCell ⟨bi,i*2+1,none⟩ (.slice na8 nl8 nc8)).setCell ⟨bj,j*2,none⟩ (.bool qn)).setCell ⟨bj,j*2+1,none⟩ (.slice qa ql qc)).heap[b]?=w10.heap[b]?:=fun b h1 h2=>(yL _ _ _ _ _ _ _ h2).trans (yL _ _ _ _ _ _ _ h1)
 have hmi:=xgd hbi;have hmj:=xgd hbj;have hO10:qK (fun b=>b=bi∨b=bj) w10 _:=⟨yB (yB (yB (yB (zC _ _) (zH _) _ _) (zH _) _ _) (zH _) _ _) (zH _) _ _,hxx,fun b _ hb=>hn1 b (fun h=>hb (.inl h)) (fun h=>hb (.inr h))⟩;have h3:=H3.out;refine bodyPost_end (results_none rfl _ _ _) rfl ⟨⟨_,rfl⟩,hO.trans (hO10.mono ?_),s,t,HBZ.out,?_⟩
 .rintro b-(rfl|rfl)
  .exact h3.zb _ (.inl (.inl hmi))
  exact h3.zb _ (.inl (.inl hmj))
 rw[zX1 HG.out HU.out HV.out];refine⟨hO10.blk h3.blk ?_,h3.wbb,hS,h3.mU.keepZ hO10 ?_,h3.mV.keepZ hO10 ?_,h3.mW.keepZ hO10 ?_,h3.mX.keepZ hO10 ?_,h3.zb,h3.su,h3.sv,h3.sw,h3.sx,h3.uv,h3.uw,h3.ux,h3.vw,h3.vx,h3.wx⟩
 .rintro(rfl|rfl)
  .exact h3.mS.nwb h3.blk (.inl hmi)
  exact h3.mS.nwb h3.blk (.inl hmj)
 .rintro b hb (rfl|rfl)
  .exact h3.su _ (.inl hmi) hb
  exact h3.su _ (.inl hmj) hb
 .rintro b hb (rfl|rfl)
  .exact h3.sv _ (.inl hmi) hb
  exact h3.sv _ (.inl hmj) hb
 .rintro b hb (rfl|rfl)
  .exact h3.sw _ (.inl hmi) hb
  exact h3.sw _ (.inl hmj) hb
 rintro b hb (rfl|rfl);exact h3.sx _ (.inl hmi) hb;exact h3.sx _ (.inl hmj) hb
theorem zGT(h:Wri w A R C bs F)(n:i<R)(o:j<R)(c:i≠j)(a:bs[i]?=some bi)(b:bs[j]?=some bj)(p:M4V w mv m0 m1 m2 m3)
  (k:C<=1000000) (l:zSc C (F i) (F j) m0 m1 m2 m3) (q:Sm m0/\Sm m1/\Sm m2/\Sm m3):
  CPq 179 #[.slice (some ⟨bi,0,none⟩) C C,.slice (some ⟨bj,0,none⟩) C C,mv] w fun e w'=>(∃u,e= .returned u)/\zB0 [bi,bj] w w'/\Wri w' A R C bs (jQ F i j m0 m1 m2 m3):=by
 have r:bi≠bj:=by
  intro m;subst m;obtain⟨x,f⟩:=xge.1 a;obtain⟨y,g⟩:=xge.1 b;exact c ((jN (qH.nodup h)).1 (f.trans g.symm))
 refine(zRI bi bj C C C (F i) (F j) mv m0 m1 m2 m3 w (h.rowAt n a) (h.rowAt o b) r p k (xgf _) oM (xgf _) oM l q).mono ?_;rintro e w' ⟨v,d,s,t⟩;refine⟨v,d,?_⟩;unfold Wri;rw[<-zIu c];exact qH.rows2 h a b c d s t (qN _ _) (qN _ _)
abbrev tHW:TypeId:=125
def zFZ(w:World)(A:Value)(n:Nat):Prop:=∃g cap cs,A=slq g n cap/\n<=cap/\cap<=9223372036854775807/\Blk w g tR cs/\∀i,i<n->cs[i]?=some (.slice none 0 0)
theorem zFZ.I(h:zFZ w A n)(i:BWq w w'):zFZ w' A n:=by
 obtain⟨g,a,cs,b,c,d,e,f⟩:=h;exact⟨g,a,cs,b,c,d,e.I i,f⟩
theorem zM9(c:Blk w g t cs)(d:jY w b r)(e:¬ t=tI):g≠b:=by
 rintro rfl;obtain⟨f,a,-⟩:=d;exact e (congrArg (fun o:Option Obj=>match o with|some (Obj.cells _ t _)=>t|_=>0) (c.symm.trans a))
theorem Blk.row(a:Blk w g t cs)(c:zB0 [b] w w')(d:jY w b r)(e:¬ t=tI):Blk w' g t cs:=
 (c.old g a.lt (by simpa using zM9 a d e)).trans a
theorem Blk.row2(a:Blk w g t cs)(e:zB0 [b,c] w w')(h:jY w b r)(f:jY w c q)(d:¬ t=tI):Blk w' g t cs:=
 (e.old g a.lt (by simp;exact⟨zM9 a h d,zM9 a f d⟩)).trans a
theorem zFZ.row(h:zFZ w A n)(j:zB0 [b] w w')(k:jY w b r):zFZ w' A n:=by
 obtain⟨g,a,cs,c,d,e,f,i⟩:=h;exact⟨g,a,cs,c,d,e,f.row j k dE,i⟩
theorem zFZ.row2(h:zFZ w A n)(k:zB0 [b,c] w w')(m:jY w b r)(l:jY w c q):zFZ w' A n:=by
 obtain⟨g,a,cs,d,e,f,i,j⟩:=h;exact⟨g,a,cs,d,e,f,i.row2 k m l dE,j⟩
theorem zFZ.at_(h:zFZ w A n)(e:i<n):∃g a,A=slq g n a/\w.cell? ⟨g,i,none⟩=some (.slice none 0 0):=by
 obtain⟨g,a,cs,b,f,j,c,d⟩:=h;exact⟨g,a,b,(cell_of_row w g i cs tR _ c).trans (d i e)⟩
theorem zM2(b:Value)(k:Int)(w:World)(f:jE w b k):
  CPq 163 #[.slice none 0 0,.slice none 0 0,b] w fun e w'=>(∃u,e= .returned u)/\BWq w w':=by
 obtain⟨n,j,m,l,o,rfl,-⟩:=id f;go_enter Tryz.func163,Tryz.ntmps163;go_upto_region 1 with(fail)
 refine zF ?_;intro c a;obtain⟨d,h,i⟩:=qJ a;clear a;go_wp2;go_loopw [10] (fun g wr=>g=niq 0/\wr=c) (fun _ _=>0)
 case atStart=>exact⟨rfl,rfl⟩
 obtain⟨rfl,rfl⟩:=hrel;go_wp2;exact bodyPost_end (results_none rfl _ _ _) rfl ⟨⟨_,rfl⟩,d⟩
theorem zEz(v:Value)(zs:List Int)(w:World)(h:zBy w v zs):
  CPq 149 #[v] w fun e w'=>e= .returned (niq (zCL 0 zs))/\BWq w w':=by
 obtain⟨E,n,H,rfl,r,O,P,I⟩:=id h;have o:=xgw r;clear r I;go_enter Tryz.func149,Tryz.ntmps149;go_wp2;refine zG0 (fun q wt=>q={tmps:=#[.slice E n H,undef,niq 0,niq (-1),undef,undef,undef,undef,undef,undef,undef,undef,undef,undef,undef,undef,undef,undef,undef,undef],defers:=[]}/\wt=w) (fun _ _=>0) rfl ?_ ?_
 .go_wp2
 rintro q wr ⟨rfl,j⟩;have j:=j.symm;subst j;go_wp2;go_loopw [3,8] (fun u i wr=>∃k:Nat,k<=n/\u=niq (-1)/\i=niq k/\BWq w wr/\Hid (zCL 0 zs=zCL k (zs.drop k))) (fun _ i _=>n-(intOf i).toNat)
 case atStart=>exact⟨0,oM,rfl,rfl,zC _ _,by rw[xgk];exact xgw rfl⟩
 obtain⟨k,S,rfl,rfl,f,g⟩:=hrel;by_cases L:k<n
 .obtain⟨b,z,s,a,l,c,rfl,Q,B,F,G,M⟩:=(h.I f).cell (k:=k) (by rw[o.out];exact L)
  have p:=xgw B;clear B;go_upto_region 5 with(fail)
  refine zF ?_;intro D x;obtain⟨t,C,T⟩:=qJ x;have N:=C.two;clear F G x;go_wp2_with fail
  refine(zAw _ z D (M.ext (lx t)).J).mono ?_;rintro e U ⟨rfl,J⟩;have y:=nx (nx f t) J;by_cases d:z=0
  .rw[zBL d]
   go_wp2;go_roundw
   case rel=>
    refine⟨k+1,oM,rfl,by simp,y,xgw ?_⟩;rw[g.out,zDq p.out];conv=>lhs;unfold zCL
    rw[zA (by simp[d])]
   case measure=>exact meq
  have A:=zCm d;obtain⟨m,K⟩:∃m,zAv z 0=m:=⟨_,rfl⟩;rw[K]at A ⊢
  have R:(m==0)=false:=by simpa using A
  go_wp2;rw[Exit.jump_ret];go_ret;refine⟨?_,y⟩;rw[g.out,zDq p.out];conv=>rhs;unfold zCL
  rw[zB d];rfl
 obtain rfl:k=n:=oM;go_wp2;rw[Exit.jump_ret];go_ret;refine⟨?_,f⟩;rw[g.out,qP (zBT o.out)];rfl
theorem lx0(h:BWq w W):zBq w W:=lx h
theorem zW3(bw:Nat)(X Y Z:Value)(n Cs Ct i j:Nat)(H I M:List Nat)(a0 T a1:Nat->Nat->Int)(kv:Value)(k:Int)(w:World)(b4:Blk w bw tHW #[X,Y,Z])(h:zFx w X Y Z n Cs Ct H I M a0 T a1)(A:i<n)(K:j<n)(a5:i≠j)(d:jE w kv k)
  (L:n<=1000000) (c5:Cs<=1000000) (b2:Ct<=1000000) (hS:zMx Cs a0 i j k) (hT:zMx Ct T i j k) (hI:zMx Ct a1 j i (-k)) (b7:Sm k):
  CPq 144 #[ptq bw 0,niq i,niq j,kv] w fun e w'=>(∃u,e= .returned u)/\qK (fun b=>b∈H∨b∈I∨b∈M) w w'/\Blk w' bw tHW #[X,Y,Z]∧
   zFx w' X Y Z n Cs Ct H I M (zB4 a0 i j k) (zB4 T i j k) (zB4 a1 j i (-k)):=by
 obtain⟨so,sn,sc,rfl,s1,s2,s3,-⟩:=id (qH.rows h.s);obtain⟨uo,tn,tc,rfl,t1,t2,t3,-⟩:=id (qH.rows h.t);obtain⟨io,c7,ic,rfl,i1,i2,i3,-⟩:=id (qH.rows h.i);obtain⟨kn,ka,kl,kc,kx,rfl,b8⟩:=id d;have d0:=xgw b8;have HS:=xgv hS;have HT:=xgv hT;have HI:=xgv hI;have HK:=xgv b7;have c4:jI (Sm (-k)):=⟨HK.out.mono (by rw[zY];exact xgf _)⟩;clear b8 hS hT hI b7;obtain⟨f,g,m,a3,a2,a4,a9,a8,b0⟩:=h;have c2:=xgv a9;have c1:=xgv a8;have c3:=xgv b0;clear a9 a8 b0;have e1:n=sn:=by rw[<-s1];simp[genM]
 have e2:n=tn:=by rw[<-t1];simp[genM]
 have e3:n=c7:=by rw[<-i1];simp[genM]
 subst e1;subst e2;subst e3;clear s1 t1 i1;obtain⟨gs,_,rfl,-⟩:=qH.at_ f (i:=i) (by rw[f.len];exact A);obtain⟨gt,_,rfl,-⟩:=qH.at_ g (i:=i) (by rw[g.len];exact A);obtain⟨gi,_,rfl,-⟩:=qH.at_ m (i:=i) (by rw[m.len];exact A);have a6:∀b,b∈H∨b∈I∨b∈M->b<w.heap.size:=fun b hb=>by
  rcases hb with hb|hb|hb
  exact(f.blk hb).elim fun r S=>S.lt
  exact(g.blk hb).elim fun r S=>S.lt
  exact(m.blk hb).elim fun r S=>S.lt
 go_enter Tryz.func144,Tryz.ntmps144;go_upto_region 1 with(fail)
 refine zF ?_;intro W0 b3;obtain⟨J,l,d2⟩:=qJ b3;have q:=b4.I J;have f:=f.I J;have g:=g.I J;have m:=m.I J;have d:=d.ext (lx J);have D:=qK.of (fun b=>b∈H∨b∈I∨b∈M) J;clear b3 b4;obtain⟨O,bi,o,b5,v,Q,U,-⟩:=qH.at_ f (i:=i) (by rw[f.len];exact A);obtain⟨P,bj,p,b6,E,R,V,-⟩:=qH.at_ f (i:=j) (by rw[f.len];exact K);obtain rfl:gs=O:=by injection o with o;injection o
 obtain rfl:gs=P:=by injection p with p;injection p
 clear o p Q R;have c:=xgd v;obtain⟨ri,G⟩:=f.blk c;have W:=q.three;have N:=l.two;have b9:=q.lt;have lk:=l.lt;refine yA 15 [] ?_;refine sRd ?_;refine sRf ?_;intro w8 y;have B:=f.I y;have s:=G.I y;clear U V W N;go_wp2_with fail
 refine(zJG B A K a5 v E _ (k) (d.ext (lx0 y)) c5 HS.out HK.out).mono ?_;rintro e w9 ⟨⟨u,rfl⟩,a,C⟩;have F:w.heap.size≠bi:=by have:=a6 bi (by simp[c]);omega
 have q:=(q.I y).row a s dE;have l:Blk w9 w.heap.size 43 #[.bool kn,.slice ka kl kc]:=(a.old _ (l.I y).lt (by simpa using F)).trans (l.I y);have d:=(d.ext (lx0 y)).ext a.lext;have D:=(D.trans (qK.of _ y)).trans (⟨a.bel,a.lext,fun k d L=>a.old k d (by simp;rintro rfl;exact L (by simp[c]))⟩:qK _ w8 w9);have g:=(g.I y).only a (fun t=>a3 _ c t) s;have m:=(m.I y).only a (fun t=>a2 _ c t) s;have f:Wri w9 (slq gs n sc) n Cs H (zB4 a0 i j k):=C;clear a s G B C c F v E;go_upto_region 2 with(fail)
 obtain⟨O,ci,o,b5,v,Q,U,-⟩:=qH.at_ g (i:=i) (by rw[g.len];exact A);obtain⟨P,cj,p,b6,E,R,V,-⟩:=qH.at_ g (i:=j) (by rw[g.len];exact K);obtain rfl:gt=O:=by injection o with o;injection o
 obtain rfl:gt=P:=by injection p with p;injection p
 clear o p Q R;have c:=xgd v;obtain⟨ri,G⟩:=g.blk c;have W:=q.three;have N:=l.two;have b9:=q.lt;have lk:=l.lt;refine yA 15 [] ?_;refine sRd ?_;refine sRf ?_;intro c8 x;have B:=g.I x;have s:=G.I x;clear U V W N;go_wp2_with fail
 refine(zJG B A K a5 v E _ (k) (d.ext (lx0 x)) b2 HT.out HK.out).mono ?_;rintro e a7 ⟨⟨u,rfl⟩,a,C⟩;have F:w.heap.size≠ci:=by have:=a6 ci (by simp[c]);omega
 have q:=(q.I x).row a s dE;have l:Blk a7 w.heap.size 43 #[.bool kn,.slice ka kl kc]:=(a.old _ (l.I x).lt (by simpa using F)).trans (l.I x);have d:=(d.ext (lx0 x)).ext a.lext;have D:=(D.trans (qK.of _ x)).trans (⟨a.bel,a.lext,fun k d L=>a.old k d (by simp;rintro rfl;exact L (by simp[c]))⟩:qK _ c8 a7);have f:=(f.I x).only a (fun t=>a3 _ t c) s;have m:=(m.I x).only a (fun t=>a4 _ c t) s;have g:Wri a7 (slq gt n tc) n Ct I (zB4 T i j k):=C;clear a s G B C c F v E;go_upto_region 3 with(fail)
 obtain⟨O,di,o,b5,v,Q,U,-⟩:=qH.at_ m (i:=j) (by rw[m.len];exact K);obtain⟨P,dj,p,b6,E,R,V,-⟩:=qH.at_ m (i:=i) (by rw[m.len];exact A);obtain rfl:gi=O:=by injection o with o;injection o
 obtain rfl:gi=P:=by injection p with p;injection p
 clear o p Q R;have c:=xgd v;obtain⟨ri,G⟩:=m.blk c;have W:=q.three;have N:=l.two;have b9:=q.lt;have lk:=l.lt;refine yA 16 [pcI 15 (-k)] ?_;refine sRd ?_;refine sRc (fun wS hI Gk hG=>by go_simp;exact ck hG (zBk _ k _ (d.ext hI.lext).J HK.out)) (fun d3 _=>?_);refine sRe ?_;intro c9 z c6;have B:=m.I z;have s:=G.I z;clear U V W N;go_wp2_with fail
 refine(zJG B K A (qF a5) v E _ (-k) c6 b2 HI.out c4.out).mono ?_;rintro e c0 ⟨⟨u,rfl⟩,a,C⟩;have F:w.heap.size≠di:=by have:=a6 di (by simp[c]);omega
 have q:=(q.I z).row a s dE;have l:Blk c0 w.heap.size 43 #[.bool kn,.slice ka kl kc]:=(a.old _ (l.I z).lt (by simpa using F)).trans (l.I z);have d:=(d.ext (lx0 z)).ext a.lext;have D:=(D.trans (qK.of _ z)).trans (⟨a.bel,a.lext,fun k d L=>a.old k d (by simp;rintro rfl;exact L (by simp[c]))⟩:qK _ c9 c0);have f:=(f.I z).only a (fun t=>a2 _ t c) s;have g:=(g.I z).only a (fun t=>a4 _ t c) s;go_wp2;exact bodyPost_end (results_none rfl _ _ _) rfl ⟨⟨_,rfl⟩,D,q,f,g,C,a3,a2,a4,c2.out,c1.out,c3.out⟩
end Go.Proofs.YtkidaebmhlijlaaGreat
