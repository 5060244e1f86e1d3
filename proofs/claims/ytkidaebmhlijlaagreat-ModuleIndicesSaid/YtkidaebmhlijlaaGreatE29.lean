/- Joined. -/
import Derived.Test.YtkidaebmhlijlaaGreatE27
set_option linter.unusedVariables false
set_option linter.unusedSimpArgs false
set_option linter.unusedSectionVars false
set_option maxHeartbeats 16000000
set_option maxRecDepth 100000
variable{M:List (List Int)}{C R h i m n r:Nat}{x z:Nat->Int}{c:Nat->Nat}{A B F G H:Nat->Nat->Int}{W W' w:Go.World}
namespace Go.Proofs.YtkidaebmhlijlaaGreat
open Go.RowKit
theorem nxa{o:Obj}(h:BWq w W)(a:Below (W.alloc o).heap.size (W.alloc o) W'):BWq w W':=nx (h.alloc h.size o) a
def zQG(ls:List Int):Array Value:=(ls.map (Value.int .i64)).toArray
theorem zHS.new(W:World)(a:List Int)(b:(a.all fun z=>decide (-9223372036854775808<=z/\z<=9223372036854775807))=true)(e:a.length<=1000):
  zHS (W.alloc (.cells (zQG a) 2)) (slq W.heap.size a.length a.length) a:=by
 refine⟨_,_,_,rfl,rfl,xgf _,oM,fun z d=>yW (zAB.1 b z d),fun _=>⟨W.heap.size,_,rfl,heap_alloc_new W _,fun k z c=>?_⟩⟩;simp[zQG,c]
theorem zFH(a:List Int):zAj (fun w v=>zHS w v a):=fun _ _ _ x h=>h.I x
theorem zI3(v:Value)(a:List Int)(R C:Nat)(r c:Int)(M:List (List Int))(w:World)(h:zHS w v a)(n:r=R)(hc:c=C)(l:a.length=R*C)(f:R<=1000)(b:C<=1000)(d:genM R C (fun i j=>a.getD (i*C+j) 0)=M):
  CPq 51 #[niq r,niq c,v] w fun e w'=>∃v,e= .returned v/\zAQ w' v R C M/\BWq w w':=by
 subst n;subst hc;subst d;exact(zV2 v R C a w h l f b).mono fun e w' ⟨v,o,k,m,g⟩=>⟨v,k,m.mat.1,g⟩
theorem qBd(R C:Nat)(r c:Int)(w:World)(h:r=R)(hc:c=C)(b:R<=1000000)(a:C<=1000000):
  CPq 52 #[niq r,niq c] w fun e w'=>∃v,e= .returned v/\zAQ w' v R C (zDi R C)/\BWq w w':=by
 subst h;subst hc;exact(zFR R C w b a).mono fun e w' ⟨v,i,f,g,d⟩=>⟨v,f,g.mat.1,d⟩
theorem zAQ.agg{v:Value}{R C:Int}(h:zAQ w v R C M):∃o n k,v= .agg #[niq R,niq C,.slice o n k]:=by
 obtain⟨A,rfl,a,n,b,rfl,-⟩:=h;exact⟨_,_,_,rfl⟩
theorem zYp(a b:Value)(R C:Int)(M:List (List Int))(w:World)(h1:zAQ w a R C M)(h2:zAQ w b R C M):
  CPq 24 #[a,b] w fun e w'=>∃v,e= .returned v/\v= .bool true/\BWq w w':=
 (zQd a b R C R C M M w h1 h2).mono fun e w' ⟨h,c⟩=>⟨_,h,by rw[zQ ⟨rfl,rfl,rfl⟩],c⟩
theorem zIX(f:Nat->Int)(n:Nat):zUw f n=qS n f:=by
 induction n with
 |zero=>rfl
 |succ n a=>unfold zUw qS;rw[a]
structure Chk(R C:Nat)(A S U V W X:List (List Int)):Prop where
 fs:zBW R C S
 fu:zBW R R U
 fv:zBW R R V
 fw:zBW C C W
 fx:zBW C C X
 is:qBL R C S=true
 i1:genM R R (zHU U V R)=genM R R idf
 i2:genM C C (zHU W X C)=genM C C idf
 ss:∀r∈S,∀z∈r,Smd z
 m1:zGh U V R R R
 m2:zGh W X C C C
 m3:zGh U A R R C
 m4:zGh (genM R C (zHU U A R)) W R C C
 p:genM R C (zHU (genM R C (zHU U A R)) W C)=S
theorem zOk(h:leM n R C F):leM n R C (ent (genM R C F)):=fun a c b d=>by rw[yZ c d];exact h a c b d
def StV(w:World)(v:Value)(ls:List (Nat × Nat × Nat × Int)):Prop:=
 ∃ao n cap,v= .slice ao n cap/\ls.length=n/\n<=cap/\cap<=9223372036854775807/\(∀s∈ls,s.1<=255/\s.2.1<=255/\s.2.2.1<=255/\-128<=s.2.2.2/\s.2.2.2<=127)∧
  (ls≠ []->∃b off,ao=some ⟨b,off,none⟩/\b<w.heap.size/\∀(k:Nat) (s:Nat × Nat × Nat × Int),ls[k]?=some s->w.cell? ⟨b,off+k*4,none⟩=some (.int .u8 s.1)/\w.cell? ⟨b,off+k*4+1,none⟩=some (.int .u8 s.2.1)/\w.cell? ⟨b,off+k*4+2,none⟩=some (.int .u8 s.2.2.1)/\w.cell? ⟨b,off+k*4+3,none⟩=some (.int .i8 s.2.2.2))
theorem Fac.refl(R C:Nat)(F:Nat->Nat->Int):Fac R C F F:=⟨idf,idf,fun a c b d=>by
 rw[<-zMI c fun s=>qS C fun t=>F s t*idf t b,zIY d]⟩
theorem Fac.congr{c:Nat->Nat->Int}(h:Fac R C F G)(e:∀a,a<R->∀b,b<C->c a b=G a b):Fac R C F c:=by
 obtain⟨P,Q,h⟩:=h;exact⟨P,Q,fun a d b f=>(e a d b f).trans (h a d b f)⟩
theorem Fac.trans(h:Fac R C F G)(k:Fac R C G H):Fac R C F H:=by
 obtain⟨P,Q,h⟩:=h;obtain⟨f,c,k⟩:=k;refine⟨fun a s=>qS R fun m=>f a m*P m s,fun t b=>qS C fun m=>Q t m*c m b,fun a n b o=>?_⟩;rw[k a n b o];have i:∀m,m<R->qS C (fun t=>G m t*c t b)=qS R fun s=>P m s*qS C fun t=>F s t*qS C fun d=>Q t d*c d b:=fun m g=>by
  have j:∀t,t<C->G m t*c t b=qS R fun s=>P m s*qS C fun e=>F s e*(Q e t*c t b):=fun t p=>by
   rw[h m g t p,<-zC9];refine zL fun s _=>?_
   rw[qA,<-zC9];congr 1;exact zL fun e _=>qA _ _ _
  rw[zL j,zBs];refine zL fun s _=>?_
  rw[jK,zBs];congr 1;exact zL fun e _=>jK _ _ _
 have l:∀m,m<R->f a m*qS C (fun t=>G m t*c t b)=qS R fun s=>(f a m*P m s)*qS C fun t=>F s t*qS C fun d=>Q t d*c d b:=fun m g=>by
  rw[i m g,<-jK];exact zL fun s _=>(qA _ _ _).symm
 rw[zL l,zBs];exact zL fun s _=>zC9 _ _ _
structure ChI(R C M i:Nat)(F0 F:Nat->Nat->Int):Prop where
 to_:Fac R C F0 F
 back:Fac R C F F0
 le:leM (M*3^i) R C F
def qBh(F:Nat->Nat->Int)(x y:Nat):Nat->Nat->Int:=fun a b=>if b=x then-(F a y)else if b=y then F a x else F a b
def qBv(F:Nat->Nat->Int)(x y r:Nat):Nat->Nat->Int:=fun a b=>if a<r then qBh F x y a b else F a b
theorem zB0.I{S:List Nat}{B:Nat}{a b:World}(h:Below B w a)(c:zB0 S a b)(d:∀k∈S,B<=k)(g:B<=a.heap.size):Below B w b:=
 ⟨c.bel.os.trans h.os,c.bel.tape.trans h.tape,c.bel.output.trans h.output,zD h.size c.bel.size,fun k f=>(c.old k oM (fun e=>by have:=d k e;omega)).trans (h.block k f)⟩

theorem zGf{z:Int}(h:z.natAbs<BD):Sm z:=zJT.bsm.sm z h
structure qAR(R C:Nat)(A H U V:List (List Int)):Prop where
 fh:zBW R C H
 fu:zBW R R U
 fv:zBW R R V
 chk:qBE R C A R C H R R U R R V
 lat:∃r c G,zJY R C r c (ent A) G/\H=genM R C G
 sh:∀r∈H,∀z∈r,Sm z
 m1:zGh U A R R C
 m2:zGh U V R R R
theorem zQA{P:Int->Prop}(h:∀a,a<R->∀b,b<C->P (F a b)):∀r∈genM R C F,∀z∈r,P z:=by
 intro r c z f;unfold genM at c;obtain⟨i,d,rfl⟩:=List.mem_map.1 c;obtain⟨j,e,rfl⟩:=List.mem_map.1 f;exact h i (yP.1 d) j (yP.1 e)
instance (C:Nat) (F:Nat->Nat->Int) (i:Nat):Decidable (zF4 C F i):=
 decidable_of_iff (lead C F i<0∨(¬ lead C F i<0/\(∀k,k<i->0<=lead C F k/\lead C F k<lead C F i)/\0<F i (lead C F i).toNat/\∀k,k<i->0<=F k (lead C F i).toNat/\F k (lead C F i).toNat<F i (lead C F i).toNat)) (by
  unfold zF4
  constructor
  .rintro(h|⟨h1,h2,h3⟩)
   .exact .inl h
   exact .inr ⟨(lead C F i).toNat,oM,fun k hk=>by have:=h2 k hk;omega,h3⟩
  rintro(h|⟨c,h1,h2,h3⟩)
  exact .inl h
  refine .inr ⟨oM,fun k hk=>by rw[h1];exact h2 k hk,?_⟩
  rw[h1,zBr]
  exact h3)
instance (R C:Int) (M:List (List Int)):Decidable (zSg R C M):=inferInstanceAs (Decidable (_/\_))
def qBM(R C:Nat)(A W X Y:List (List Int)):Prop:=zSg R C W/\(∀a,a<R->∀b,b<C->ent A a b=qS R fun t=>ent X a t*ent W t b)/\∀a,a<R->∀b,b<C->ent W a b=qS R fun t=>ent Y a t*ent A t b
instance (R C:Nat) (A W X Y:List (List Int)):Decidable (qBM R C A W X Y):=inferInstanceAs (Decidable (_/\_))
theorem zTl{M0:Nat}(h:zV9 (M0+1) M=true)(hF:zBW R C M):leM M0 R C (ent M):=fun a c b g=>by
 have f:a<M.length:=by rw[hF.1];exact c
 have i:=hF.2 M[a] (zAq _);have d:b<M[a].length:=oM;have e:ent M a b=M[a][b]:=zFE (xga f) (xga d);have:=yW (zAB.1 (zAB.1 h M[a] (zAq _)) M[a][b] (zAq _));rw[e];omega
/- The calls of sanity. -/
def qBo(q r:List Int):World->Value->Prop:=fun w v=>∃qv rv,v= .tuple #[qv,rv,niq 0]/\zBy w qv q/\zBy w rv r
def qBp(xs:List Int):World->Value->Prop:=fun w v=>∃b rv,v=ptq b 0/\b<w.heap.size/\w.cell? ⟨b,0,none⟩=some rv/\zBy w rv xs
def qBN:World->Value->Prop:=fun w v=>∃H U V,zJZ w v 0 3 H U V/\qAR 0 3 [] H U V
theorem zJZ.agg{f:Value}{H U V:List (List Int)}(h:zJZ w f R C H U V):∃g e d n l j o m k,f= .agg #[niq R,niq C,.slice g e d,niq R,niq R,.slice n l j,niq R,niq R,.slice o m k]/\zAQ w (.agg #[niq R,niq C,.slice g e d]) R C H:=by
 obtain⟨a,b,c,rfl,i,p,q⟩:=h.ex;obtain⟨g,e,d,rfl,-⟩:=id i;obtain⟨n,l,j,rfl,-⟩:=id p;obtain⟨o,m,k,rfl,-⟩:=id q;exact⟨_,_,_,_,_,_,_,_,_,rfl,⟨_,rfl,i⟩⟩
theorem nxd{o:Obj}(h:Below (W.alloc o).heap.size (W.alloc o) W'):BWq W W':=nxa (zC _ _) h
def rest(R C:Nat)(H:Nat->Nat->Int)(x:Nat->Int):Nat->Int:=zFB C H x R
def qAI(r:Nat)(c:Nat->Nat)(H:Nat->Nat->Int)(y:Nat->Int):Prop:=∀s,s<r->0<=y (c s)/\y (c s)<H s (c s)
section
variable {n C r:Nat} {c:Nat->Nat} {H:Nat->Nat->Int}
theorem zUM(a:Hnf C n r c H)(b:i<r)(y:Nat->Int):quo C H y i=y (c i)/H i (c i):=by
 unfold quo;rw[a.ech.lead b,zA oM];rfl
theorem zPR(a:Hnf C n r c H)(h1:r<=i)(h2:i<n)(y:Nat->Int):quo C H y i=0:=by
 unfold quo;rw[zFh (a.zero i h1 h2),zB oM]
theorem zNw(C:Nat)(H:Nat->Nat->Int)(x:Nat->Int)(i b:Nat):zFB C H x i b=x b+qS i fun s=>-(zF3 C H x s)*H s b:=by
 induction i with
 |zero=>simp[zFB,qS]
 |succ i a=>
  show zFB C H x i b+-(zF3 C H x i)*H i b=_;rw[a];exact Int.add_assoc _ _ _
theorem zWX(a:Hnf C n r c H)(x:Nat->Int):∀i,i<=r->qAI i c H (zFB C H x i):=by
 intro i;induction i with
 |zero=>intro _ s h;omega
 | succ i j=>
  intro m s h;have g:zF3 C H x i=zFB C H x i (c i)/H i (c i):=zUM a oM _;have d:zFB C H x (i+1) (c s)=zFB C H x i (c s)+-(zF3 C H x i)*H i (c s):=rfl;rw[d];by_cases e:s=i
  .subst e
   have f:=a.ech.pos s oM;have b:=zAk (zFB C H x s (c s)) (show H s (c s)≠0 by omega);have k:=zAx (zFB C H x s (c s)) f;have l:=Int.emod_def (zFB C H x s (c s)) (H s (c s));rw[g,yE,zZ (zFB C H x s (c s)/H s (c s))];omega
  have b:=j oM s oM;rw[a.ech.zero i oM (c s) (a.ech.inc s i oM oM),qB,zAJ];exact b
theorem zUZ(a:Hnf C n r c H)(x:Nat->Int):∀d b,r+d<=n->zFB C H x (r+d) b=zFB C H x r b:=by
 intro d b;induction d with
 |zero=>intro _;rfl
 |succ d f=>
  intro hd;have e:zF3 C H x (r+d)=0:=zPR a oM oM _;show zFB C H x (r+d) b+-(zF3 C H x (r+d))*H (r+d) b=_;rw[e,f oM];simp
theorem zWY(a:Hnf C n r c H)(x:Nat->Int):qAI r c H (rest n C H x):=by
 intro s b;have h:=zWX a x r (xgf _) s b;have e:rest n C H x (c s)=zFB C H x r (c s):=by
  have:=zUZ a x (n-r) (c s) (by have:=a.le;omega);rwa[show r+(n-r)=n by have:=a.le;omega]at this
 rw[e];exact h
theorem zPa(f:Hnf C n r c H){y y':Nat->Int}(h1:qAI r c H y)(h2:qAI r c H y')(h:∀b,b<C->y b-y' b=qS n fun t=>z t*H t b):∀b,b<C->y b=y' b:=by
 have j:∀b,b<C->y b-y' b=qS r fun t=>z t*H t b:=fun b d=>by
  rw[h b d];exact zE4 f.le fun t g i=>by rw[f.zero t g i b d,qB]
 have o:∀t,t<r->z t=0:=fun t a=>zR fun m=>by
  obtain⟨t,a,k,d⟩:=zJF ⟨t,a,m⟩;have e:=j (c t) (f.ech.lt t a);rw[zL5 f.ech a d]at e;have g:=h1 t a;have i:=h2 t a;have p:=f.ech.pos t a;have l:(H t (c t)).natAbs<=(z t*H t (c t)).natAbs:=by
   rw[qU];exact qQ _ (Int.natAbs_pos.2 k)
  rw[<-e]at l;omega
 intro b d;have e:=j b d;rw[zBt fun t a=>by rw[o t a,yK]]at e;omega
theorem zUa(a:Hnf C n r c H)(h:∀b,b<C->x b=qS n fun t=>z t*H t b):∀b,b<C->rest n C H x b=0:=
 zPa a (zWY a x) (y':=fun _=>0) (fun s f=>⟨zEB _,a.ech.pos s f⟩) (z:=fun t=>z t+-(zF3 C H x t)) fun b e=>by
  have d:rest n C H x b=_:=zNw C H x n b;rw[d,h b e,Int.sub_zero,<-zBw];exact zL fun t _=>by rw[zBx]
end
theorem zJd(a b:Int):(a/b).natAbs<=a.natAbs:=zBN a b
theorem Hnf.congr(h:Hnf C n r c F)(e:∀a,a<n->∀b,b<C->F a b=G a b):Hnf C n r c G:=by
 have p:=h.le;refine⟨h.le,⟨h.ech.lt,fun k d=>?_,fun k d t f=>?_,h.ech.inc⟩,fun i j o g _=>?_,fun a m l t f=>?_⟩;rw[<-e k oM _ (h.ech.lt k d)];exact h.ech.pos k d;rw[<-e k oM t (by have:=h.ech.lt k d;omega)];exact h.ech.zero k d t f;rw[<-e i oM _ (h.ech.lt j g),<-e j oM _ (h.ech.lt j g)];exact h.red i j o g trivial;rw[<-e a l t f];exact h.zero a m l t f
theorem zUY(d:Hnf C n r c H)(k:leM h n C H)(o:∀b,b<C->(x b).natAbs<=m):
  ∀i,i<=n->∀b,b<C->(zFB C H x i b).natAbs<=m*(1+h)^i:=by
 intro i;induction i with
 |zero=>intro _ b a;simpa[zFB]using o b a
 | succ i f=>
  intro p b a;have g:=f oM b a;have l:(zF3 C H x i).natAbs<=m*(1+h)^i:=by
   by_cases e:i<r
   .show(quo C H (zFB C H x i) i).natAbs<=_
    rw[zUM d e];exact zD (zJd _ _) (f oM _ (d.ech.lt i e))
   show(quo C H (zFB C H x i) i).natAbs<=_;rw[zPR d oM oM];simp
  show(zFB C H x i b+-(zF3 C H x i)*H i b).natAbs<=_;have j:(-(zF3 C H x i)*H i b).natAbs<=m*(1+h)^i*h:=by
   rw[qU,zY];exact qO l (k i oM b a)
  refine zD (Int.natAbs_add_le _ _) (zD (zD3 g j) ?_);rw[qE,<-zE,zAH,jS];exact xgf _
theorem zUX(a:Hnf C n r c H)(e:leM h n C H)(g:∀b,b<C->(x b).natAbs<=m)(f:i<n):(zF3 C H x i).natAbs<=m*(1+h)^i:=by
 by_cases d:i<r
 .show(quo C H (zFB C H x i) i).natAbs<=_
  rw[zUM a d];exact zD (zJd _ _) (zUY a e g i oM _ (a.ech.lt i d))
 show(quo C H (zFB C H x i) i).natAbs<=_;rw[zPR a oM f];simp
theorem zXZ{a:Nat}(h:a<=2^199):a<BD:=by
 have b:2^200<=B32^zOQ:=zFN (by rw[zC3];omega);rw[zSb];exact zI h (zM dE b)
theorem zHP{fn:Func}{a b:Tmp}(h:fn.results=#[.tmp a,.tmp b])(tmps:Array Value)(P:Program)(W:World):(results fn tmps).run P W= .ok (.tuple #[tmps.getD a undef,tmps.getD b undef]) W:=by
 simp[results,h]
theorem Inv.congr(h:Inv R C r A F)(e:∀a,a<R->∀b,b<C->B a b=A a b):Inv R C r B F:=
 ⟨h.dg,h.chn,(Fac.congr (Fac.refl R C B) fun a c b d=>(e a c b d).symm).trans h.fwd,h.bwd.congr e⟩
theorem Inv.list_eq{a:Nat}(hF:Inv R C r A F)(d:Inv R C a B G)(h1:Fac R C A B)(h2:Fac R C B A):yV a (fun i=>G i i)=yV r (fun i=>F i i):=by
 obtain⟨b,c⟩:=hF.unique_fac d h1 h2;subst b;exact yH fun i e=>(c i (by have:=hF.dg.le;omega)).symm
section
variable {P:Program} {ops:Array Oper} {W:World} {n0:Nat} {T0:Array Value} {tB:TypeId} {vs:List VS} {bs:List BS} {es:List ES} {L:Array Bool} {T:Array Value} {w:World} {k1 k2:Nat} {p1:World->World} {p2:Array Value->World->World}
theorem RIS.either{k:Nat}(h:RIS W n0 T0 tB vs bs es k1 k2 p1 p2 L T w)(g:zC2 ops L)(l:zI9 ops 9 k2 k=true)(f:L[k]?=some false):∃a,(w=a∨w=p1 a)/\RI W n0 T0 tB vs bs es L T a:=by
 obtain⟨a,c,d,e,m⟩:=h.ex;have j:L[k2]?≠some true:=fun i=>by
  have:=zD7 g l i;rw[f]at this;cases this
 by_cases b:L[k1]?=some true
 .exact⟨a,.inr (e b j),c⟩
 exact⟨a,.inl (d b),c⟩
end
theorem zBy.two(w:World){f g:Bool}{a1 a2:Option Addr}{d e b c:Nat}{i j:Int}(h1:jE w (.agg #[.bool f,.slice a1 d b]) i)(h2:jE w (.agg #[.bool g,.slice a2 e c]) j):
  zBy (w.alloc (.cells #[.bool f,.slice a1 d b,.bool g,.slice a2 e c] 43)) (slq w.heap.size 2 2) [i,j]:=by
 have h:BWq w (w.alloc (.cells #[.bool f,.slice a1 d b,.bool g,.slice a2 e c] 43)):=(zC _ _).alloc (xgf _) _;refine⟨_,2,2,rfl,rfl,xgf _,oM,fun _=>⟨_,rfl,?_⟩⟩;refine⟨_,yG _ _ _,fun k z a=>?_⟩;match k,a with
 |0,a=>
  simp at a;subst a;exact⟨_,_,_,_,rfl,rfl,h1.ext (lx h)⟩
 |1,a=>
  simp at a;subst a;exact⟨_,_,_,_,rfl,rfl,h2.ext (lx h)⟩
end Go.Proofs.YtkidaebmhlijlaaGreat
