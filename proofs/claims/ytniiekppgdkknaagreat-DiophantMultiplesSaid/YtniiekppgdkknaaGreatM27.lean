/- Joined. -/
import Derived.Test.YtniiekppgdkknaaGreatM23
import Derived.Test.YtniiekppgdkknaaGreatM25
import Derived.Test.YtniiekppgdkknaaGreatM26
set_option linter.unusedVariables false
set_option linter.unusedSimpArgs false
set_option linter.unusedSectionVars false
set_option maxHeartbeats 16000000
set_option maxRecDepth 100000
variable{T:Array Go.Value}{z:Int}{C R a e i j k m n r s:Nat}{b u x y:Nat->Int}{c σ τ:Nat->Nat}{A H M h:Nat->Nat->Int}{w w':Go.World}
namespace Go.Proofs.YtniiekppgdkknaaGreat
open Go.RowKit
theorem zNm(h:z.natAbs<BD):Sm z:=zO4.bsm.sm z h
structure zWH(R C:Nat)(A H U V:List (List Int)):Prop where
 fh:zBe R C H
 fu:zBe R R U
 fv:zBe R R V
 chk:zXA R C A R C H R R U R R V
 lat:∃r c G,zXD R C r c (ent A) G/\H=yV R C G
 sh:∀r∈H,∀z∈r,Sm z
 m1:zGg U A R R C
 m2:zGg U V R R R
instance (C:Nat) (F:Nat->Nat->Int) (i:Nat):Decidable (zQg C F i):=
 decidable_of_iff (lead C F i<0∨(¬ lead C F i<0/\(∀k,k<i->0<=lead C F k/\lead C F k<lead C F i)/\0<F i (lead C F i).toNat/\∀k,k<i->0<=F k (lead C F i).toNat/\F k (lead C F i).toNat<F i (lead C F i).toNat)) (by
  unfold zQg
  constructor
  .rintro(h|⟨h1,h2,h3⟩)
   .exact .inl h
   exact .inr ⟨(lead C F i).toNat,oM,fun k hk=>by have:=h2 k hk;omega,h3⟩
  rintro(h|⟨c,h1,h2,h3⟩)
  exact .inl h
  refine .inr ⟨oM,fun k hk=>by rw[h1];exact h2 k hk,?_⟩
  rw[h1,Int.toNat_natCast]
  exact h3)
instance (R C:Int) (M:List (List Int)):Decidable (zWI R C M):=inferInstanceAs (Decidable (_/\_))
def zXH(R C:Nat)(A W X Y:List (List Int)):Prop:=zWI R C W/\(∀a,a<R->∀b,b<C->ent A a b=yZ R fun t=>ent X a t*ent W t b)/\∀a,a<R->∀b,b<C->ent W a b=yZ R fun t=>ent Y a t*ent A t b
instance (R C:Nat) (A W X Y:List (List Int)):Decidable (zXH R C A W X Y):=inferInstanceAs (Decidable (_/\_))
theorem zGp{M0:Nat}{M:List (List Int)}(h:zWa (M0+1) M=true)(hF:zBe R C M):leM M0 R C (ent M):=fun a c b g=>by
 have f:a<M.length:=by rw[hF.1];exact c
 have i:=hF.2 M[a] (jE _);have d:b<M[a].length:=oM;have e:ent M a b=M[a][b]:=zDL (xga f) (xga d);have:=jM (zW.1 (zW.1 h M[a] (jE _)) M[a][b] (jE _));rw[e];omega
/- The calls of sanity. -/
def rest(R C:Nat)(H:Nat->Nat->Int)(x:Nat->Int):Nat->Int:=zD3 C H x R
def zV8(r:Nat)(c:Nat->Nat)(H:Nat->Nat->Int)(y:Nat->Int):Prop:=∀s,s<r->0<=y (c s)/\y (c s)<H s (c s)
section
variable {n C r:Nat} {c:Nat->Nat} {H:Nat->Nat->Int}
theorem zQR(a:Hnf C n r c H)(b:i<r)(y:Nat->Int):quo C H y i=y (c i)/H i (c i):=by
 unfold quo;rw[a.ech.lead b,zA oM];rfl
theorem zMY(d:Hnf C n r c H)(a:r<=i)(b:i<n)(y:Nat->Int):quo C H y i=0:=by
 unfold quo;rw[zJx (d.zero i a b),zC oM]
theorem zK7(C:Nat)(H:Nat->Nat->Int)(x:Nat->Int)(i b:Nat):zD3 C H x i b=x b+yZ i fun s=>-(zDl C H x s)*H s b:=by
 induction i with
 |zero=>simp[zD3,yZ]
 |succ i a=>
  show zD3 C H x i b+-(zDl C H x i)*H i b=_;rw[a];exact Int.add_assoc _ _ _
theorem zSc(a:Hnf C n r c H)(x:Nat->Int):∀i,i<=r->zV8 i c H (zD3 C H x i):=by
 intro i;induction i with
 |zero=>intro _ s h;omega
 | succ i j=>
  intro m s h;have g:zDl C H x i=zD3 C H x i (c i)/H i (c i):=zQR a oM _;have d:zD3 C H x (i+1) (c s)=zD3 C H x i (c s)+-(zDl C H x i)*H i (c s):=rfl;rw[d];by_cases e:s=i
  .subst e
   have f:=a.ech.pos s oM;have b:=zAr (zD3 C H x s (c s)) (show H s (c s)≠0 by omega);have k:=zCI (zD3 C H x s (c s)) f;have l:=Int.emod_def (zD3 C H x s (c s)) (H s (c s));rw[g,yQ,yN (zD3 C H x s (c s)/H s (c s))];omega
  have b:=j oM s oM;rw[a.ech.zero i oM (c s) (a.ech.inc s i oM oM),zZ,jN];exact b
theorem zQb(a:Hnf C n r c H)(x:Nat->Int):∀d b,r+d<=n->zD3 C H x (r+d) b=zD3 C H x r b:=by
 intro d b;induction d with
 |zero=>intro _;rfl
 |succ d f=>
  intro hd;have e:zDl C H x (r+d)=0:=zMY a oM oM _;show zD3 C H x (r+d) b+-(zDl C H x (r+d))*H (r+d) b=_;rw[e,f oM];simp
theorem zSd(a:Hnf C n r c H)(x:Nat->Int):zV8 r c H (rest n C H x):=by
 intro s b;have h:=zSc a x r (xgf _) s b;have e:rest n C H x (c s)=zD3 C H x r (c s):=by
  have:=zQb a x (n-r) (c s) (by have:=a.le;omega);rwa[show r+(n-r)=n by have:=a.le;omega]at this
 rw[e];exact h
theorem zMj(f:Hnf C n r c H){y' z:Nat->Int}(l:zV8 r c H y)(m:zV8 r c H y')(h:∀b,b<C->y b-y' b=yZ n fun t=>z t*H t b):∀b,b<C->y b=y' b:=by
 have j:∀b,b<C->y b-y' b=yZ r fun t=>z t*H t b:=fun b d=>by
  rw[h b d];exact zHi f.le fun t g i=>by rw[f.zero t g i b d,zZ]
 have q:∀t,t<r->z t=0:=fun t a=>jU fun p=>by
  obtain⟨t,a,k,d⟩:=zRe ⟨t,a,p⟩;have e:=j (c t) (f.ech.lt t a);rw[zTt f.ech a d]at e;have g:=l t a;have i:=m t a;have s:=f.ech.pos t a;have o:(H t (c t)).natAbs<=(z t*H t (c t)).natAbs:=by
   rw[qT];exact jF _ (Int.natAbs_pos.2 k)
  rw[<-e]at o;omega
 intro b d;have e:=j b d;rw[zFE fun t a=>by rw[q t a,zAM]]at e;omega
theorem zQe(a:Hnf C n r c H){z:Nat->Int}(h:∀b,b<C->x b=yZ n fun t=>z t*H t b):∀b,b<C->rest n C H x b=0:=
 zMj a (zSd a x) (y':=fun _=>0) (fun s f=>⟨Int.le_refl _,a.ech.pos s f⟩) (z:=fun t=>z t+-(zDl C H x t)) fun b e=>by
  have d:rest n C H x b=_:=zK7 C H x n b;rw[d,h b e,Int.sub_zero,<-zC4];exact yF fun t _=>by rw[zCb]
end
theorem zHr(a b:Int):(a/b).natAbs<=a.natAbs:=zBH a b
theorem Hnf.congr{F G:Nat->Nat->Int}(h:Hnf C n r c F)(e:∀a,a<n->∀b,b<C->F a b=G a b):Hnf C n r c G:=by
 have p:=h.le;refine⟨h.le,⟨h.ech.lt,fun k d=>?_,fun k d t f=>?_,h.ech.inc⟩,fun i j o g _=>?_,fun a m l t f=>?_⟩;rw[<-e k oM _ (h.ech.lt k d)];exact h.ech.pos k d;rw[<-e k oM t (by have:=h.ech.lt k d;omega)];exact h.ech.zero k d t f;rw[<-e i oM _ (h.ech.lt j g),<-e j oM _ (h.ech.lt j g)];exact h.red i j o g trivial;rw[<-e a l t f];exact h.zero a m l t f
theorem zQa{h:Nat}(d:Hnf C n r c H)(k:leM h n C H)(o:∀b,b<C->(x b).natAbs<=m):
  ∀i,i<=n->∀b,b<C->(zD3 C H x i b).natAbs<=m*(1+h)^i:=by
 intro i;induction i with
 |zero=>intro _ b a;simpa[zD3]using o b a
 | succ i f=>
  intro p b a;have g:=f oM b a;have l:(zDl C H x i).natAbs<=m*(1+h)^i:=by
   by_cases e:i<r
   .show(quo C H (zD3 C H x i) i).natAbs<=_
    rw[zQR d e];exact zF (zHr _ _) (f oM _ (d.ech.lt i e))
   show(quo C H (zD3 C H x i) i).natAbs<=_;rw[zMY d oM oM];simp
  show(zD3 C H x i b+-(zDl C H x i)*H i b).natAbs<=_;have j:(-(zDl C H x i)*H i b).natAbs<=m*(1+h)^i*h:=by
   rw[qT,qO];exact qP l (k i oM b a)
  refine zF (Int.natAbs_add_le _ _) (zF (zC8 g j) ?_);rw[qE,<-zN,jT,zAp];exact xgf _
theorem zMi{h:Nat}(a:Hnf C n r c H)(e:leM h n C H)(g:∀b,b<C->(x b).natAbs<=m)(f:i<n):(zDl C H x i).natAbs<=m*(1+h)^i:=by
 by_cases d:i<r
 .show(quo C H (zD3 C H x i) i).natAbs<=_
  rw[zQR a d];exact zF (zHr _ _) (zQa a e g i oM _ (a.ech.lt i d))
 show(quo C H (zD3 C H x i) i).natAbs<=_;rw[zMY a oM f];simp
theorem zIE(h:a<=2^199):a<BD:=by
 have b:2^200<=B32^zO7:=zFP (by rw[zCp];omega);rw[zO5];exact zM h (zI dE b)
def zLu(R C:Nat)(A:Nat->Nat->Int)(b x:Nat->Int):Prop:=∀j,j<C->b j=yZ R fun i=>x i*A i j
def zD6(C:Nat)(v:Nat->Int)(y:Nat->Rat):Rat:=zAw C fun j=>(v j:Rat)*y j
def zRM(R C:Nat)(A:Nat->Nat->Int)(b:Nat->Int)(y:Nat->Rat):Prop:=(∀i,i<R->isZ (zD6 C (A i) y)=true)/\isZ (zD6 C b y)=false
theorem zJq(z:Int):isZ (z:Rat)=true:=zFv.2 ⟨z,rfl⟩
theorem zUH{p q:Rat}(c:isZ p=true)(d:isZ q=true):isZ (p+q)=true:=by
 obtain⟨a,rfl⟩:=zFv.1 c;obtain⟨b,rfl⟩:=zFv.1 d;exact zFv.2 ⟨a+b,(Rat.intCast_add _ _).symm⟩
theorem zPx{q:Rat}(a:isZ q=true):isZ ((z:Rat)*q)=true:=by
 obtain⟨b,rfl⟩:=zFv.1 a;exact zFv.2 ⟨z*b,(Rat.intCast_mul _ _).symm⟩
theorem zPy{f:Nat->Rat}(h:∀i,i<n->isZ (f i)=true):isZ (zAw n f)=true:=by
 induction n with
 |zero=>exact zJq 0
 |succ n a=>exact zUH (a fun i b=>h i oM) (h n oM)
theorem zEw(f:Nat->Int):((yZ n f:Int):Rat)=zAw n fun i=>(f i:Rat):=by
 induction n with
 |zero=>rfl
 |succ n a=>
  show((yZ n f+f n:Int):Rat)=_+_;rw[Rat.intCast_add,a]
theorem zJj{c:Nat->Int}{y:Nat->Rat}(h:∀j,j<C->b j=yZ n fun t=>c t*H t j):zD6 C b y=zAw n fun t=>(c t:Rat)*zD6 C (H t) y:=by
 unfold zD6;rw[qD (g:=fun j=>zAw n fun t=>(c t:Rat)*((H t j:Rat)*y j)) fun j e=>?_,zEN];exact qD fun t f=>zA4 _ _
 rw[h j e,zEw];have a:=zA4 (n:=n) (y j) fun t=>((c t*H t j:Int):Rat)
 have d:(zAw n fun t=>((c t*H t j:Int):Rat))*y j=y j*zAw n fun t=>((c t*H t j:Int):Rat):=by grind
 rw[d,<-a];exact qD fun t f=>by rw[Rat.intCast_mul];grind
theorem zSm{y:Nat->Rat}(h:zLu R C A b x)(k:zRM R C A b y):False:=by
 have a:isZ (zD6 C b y)=true:=by
  rw[zJj h];exact zPy fun t c=>zPx (k.1 t c)
 rw[k.2]at a;cases a
theorem zRm:isZ (1/2:Rat)=false:=by decide+kernel
theorem zQc{b:Nat->Int}{y z:Nat->Rat}(e:∀a,a<R->∃v:Nat->Int,∀j,j<C->A a j=yZ r fun t=>v t*h t j)(c:∀a,a<r->zAw C (fun t=>(h a t:Rat)*y t)=0)
  (d:zAw C (fun t=>(b t:Rat)*y t)=1) (m:∀j,j<C->z j=y j/2):zRM R C A b z:=by
 have hd:∀v:Nat->Int,zD6 C v z=(1/2:Rat)*zAw C fun j=>(v j:Rat)*y j:=fun v=>by
  unfold zD6;rw[<-zA4];exact qD fun j g=>by rw[m j g];grind
 refine⟨fun i f=>?_,?_⟩
 .obtain⟨v,l⟩:=e i f
  rw[zJj l,zC5 fun t k=>by rw[hd,c t k];grind];exact zJq 0
 rw[hd,d];exact(congrArg isZ (by grind:(1/2:Rat)*1=1/2)).trans zRm
theorem zQd{k:Nat}{x y:Nat->Rat}(o:∀a,a<R->∃v:Nat->Int,∀j,j<C->A a j=yZ r fun t=>v t*h t j)(z:∀j,j<C->zAw r (fun i=>(h i j:Rat)*x i)=b j)
  (e:∀i,i<r->zAw C (fun j=>(h i j:Rat)*y j)=if i=k then 1 else 0) (p:k<r) (q:isZ (x k)=false):zRM R C A b y:=by
 refine⟨fun i c=>?_,?_⟩
 .obtain⟨v,w⟩:=o i c
  rw[zJj w];refine zPy fun t u=>zPx ?_
  unfold zD6;rw[e t u];split;exact zJq 1;exact zJq 0
 have f:zD6 C b y=x k:=by
  unfold zD6;rw[qD (g:=fun j=>zAw r fun i=>(h i j:Rat)*x i*y j) fun j d=>by
   rw[<-z j d];have l:=zA4 (n:=r) (y j) fun i=>(h i j:Rat)*x i
   have m:(zAw r fun i=>(h i j:Rat)*x i)*y j=y j*zAw r fun i=>(h i j:Rat)*x i:=by grind
   rw[m,<-l];exact qD fun i c=>by grind]
  rw[zEN,qD (g:=fun i=>x i*(if i=k then 1 else 0)) fun i c=>?_,zDa p fun i c s=>by rw[zA s];grind];rw[zC rfl];grind;rw[<-e i c,<-zA4];exact qD fun j d=>by grind
 rw[f];exact q
theorem zQt{x:Nat->Rat}(f:∀j,j<C->zAw r (fun i=>(h i j:Rat)*x i)=b j)(g:∀i,i<r->isZ (x i)=true):∃z:Nat->Int,∀j,j<C->b j=yZ r fun t=>z t*h t j:=by
 refine⟨fun i=>(x i).num,fun j e=>?_⟩;refine Rat.intCast_inj.1 ?_;rw[<-f j e,zEw];refine qD fun i d=>?_
 obtain⟨z,a⟩:=zFv.1 (g i d);have c:(x i).num=z:=by rw[a,Rat.num_intCast]
 show _=((((x i).num*h i j:Int)):Rat);rw[Rat.intCast_mul,c,a];grind
structure zVE(e R C:Nat)(L:Nat->Nat->Int):Prop where
 st:∀c,c<=R->(zDH C L c).pv.length<=C/\(zDH C L c).last≠0/\(zDH C L c).last.natAbs<2^e/\∀i,i<C->∀j,j<R+1+C->((zDH C L c).E i j).natAbs<2^e
 pv:∀k t,(zDH C L R).pv[k]?=some t->t<R/\(zDH C L R).E k t≠0
 inv:zO6 C (R+1+C) R L (zDH C L R)
theorem Ech.le{pc:Nat->Nat}(a:Ech C r pc h):r<=C:=by
 rcases qY r with h0|h0
 omega;have b:=a.ge (r-1) oM;have c:=a.lt (r-1) oM;omega
theorem zSU{H:Nat}(e:H<=2^30)(f:k<=5):(2*H)^k<2^160:=by
 have a:(2*H)^k<=(2^31)^k:=zAb oM k;have b:(2^31)^k=2^(31*k):=(zDG 2 31 k).symm;have c:2^(31*k)<=2^155:=zX dE oM;have d:2^155<2^160:=by decide
 omega
theorem zSg{H:Nat}{pc:Nat->Nat}(g:Ech C r pc h)(G:r<=4)(p:H<=2^30)(B:1<=H)(l:∀i,i<r->∀j,j<C->(h i j).natAbs<=H)(F:∀j,j<C->(y j).natAbs<=H)(o:∀i,i<r->∀j,j<C->A i j=h i j):
  zVE 160 r C (eqL r A y):=by
 have x:=g.le;have u:∀i,i<C->∀j,j<r->eqL r A y i j=h j i:=fun i e j a=>by rw[zPc a,o j a i e]
 have v:=zKi (R:=r) (C:=C) (H:=H) (A:=A) (b:=y) (fun i e j a=>by rw[o i e j a];exact l i e j a) F B;have hI:=zRJ.run (m:=r+1+C) g oM x l u v;have E:=zRJ.ex (m:=r+1+C) g oM x l u v;have f:=zO6.run E (by omega:r<=r+1+C);have D:∀c,c<=r->H*(2*H)^c<2^160:=fun c d=>by
  have n:=zSU p (k:=c+1) oM;rw[qE]at n;refine zM ?_ n;rw[zP];exact qA _ oM
 refine⟨fun c d=>?_,fun k t z=>?_,f r (xgf _)⟩
 .have s:=hI c d
  refine⟨(f c d).len,(f c d).q,?_,fun i e j a=>zM (s.bnd i e j a) (D c d)⟩;rw[s.last];refine zM (zGx g (fun k w=>l k w _ (g.lt k w)) c d) (zM ?_ (zSU p (k:=c) oM));exact zAb oM c
 exact⟨(f r (xgf _)).lt k t z,((f r (xgf _)).piv k t z).1⟩
theorem zT0{pc:Nat->Nat}(b:Ech C r pc h)(c:∀i,i<r->∀j,j<C->A j i=h i j):Ech C r pc (eqL C A u):=
 ⟨b.lt,fun k a=>by rw[zPc (b.lt k a),c k a _ (b.lt k a)];exact b.pos k a,fun k a t d=>by have:=b.lt k a;rw[zPc oM,c k a t oM];exact b.zero k a t d,b.inc⟩
theorem zSh{H:Nat}{pc:Nat->Nat}(p:Ech C r pc h)(G:r<=4)(v:H<=2^30)(y:1<=H)(B:∀i,i<r->∀j,j<C->(h i j).natAbs<=H)(E:∀i,i<r->(u i).natAbs<=H)(s:∀i,i<r->∀j,j<C->A j i=h i j):
  zVE 160 C r (eqL C A u)/\(zDH r (eqL C A u) C).pv.length=r:=by
 have l:=zT0 (u:=u) p s;have n:=zKi (R:=C) (C:=r) (H:=H) (A:=A) (b:=u) (fun i e j f=>by rw[s j f i e];exact B j f i e) E y;have hI:=zRL.run (m:=C+1+r) l oM n;have z:=zRL.ex (m:=C+1+r) l oM n;have d:=zO6.run z (by omega:C<=C+1+r);refine⟨⟨fun c o=>?_,fun k t x=>?_,d C (xgf _)⟩,?_⟩
 .obtain⟨k,a⟩:=hI c o
  have D:=a.le;refine⟨(d c o).len,(d c o).q,?_,fun i e j f=>zM (a.bnd i e j f) (zSU v oM)⟩;rw[a.last];refine zM (zGx l (fun k w=>n k w _ (by have:=p.lt k w;omega)) k D) (zM ?_ (zSU v (k:=k) oM));exact zAb oM k
 exact⟨(d C (xgf _)).lt k t x,((d C (xgf _)).piv k t x).1⟩;obtain⟨k,a⟩:=hI C (xgf _);rw[a.len];have F:=a.le;rcases zJ k r with g|g
 .have:=a.aft k (xgf _) g
  have:=p.lt k g;omega
 omega
theorem zQr{e n m c R:Nat}{L:Nat->Nat->Int}{s:BE}(a:zO6 n m c L s)(f:1<=e)(d:R<m)(b:∀i,i<n->∀j,j<m->(s.E i j).natAbs<2^e)(k:c<=m)(i:Nat):∀l,l<=s.pv.length->HQ e (zIk s R l i)
 |0,_=>⟨jH dE,zI (by decide:1<2^1) (zX dE f)⟩
 | l+1,q=>by
  show HQ e (if s.pv[l]?=some i then _ else _);split
  .rename_i h
   have g:=a.piv l i h;have o:=a.lt l i h;have p:=a.len;rw[<-Rat.divInt_eq_div];exact HQ.divInt (b l oM R d) (b l oM i oM) g.1
  exact zQr a f d b k i l oM
theorem HQ.half{q:Rat}(h:HQ e q):HQ (e+2) (q/2):=HQ.div (b:=2) h ⟨by decide,by decide⟩ dE
def zGH(ps:List (Int × Int)):Bool:=ps.all zKI
theorem zKq{a:List (Int × Int)}{p:Int × Int}(h:zGH (a.take k)=true)(b:a[k]?=some p)(c:zKI p=true):zGH (a.take (k+1))=true:=by
 unfold zGH at*;rw[zAK,b,List.all_append,h];simp[c]
theorem zQ9(v:Value)(d:List (Int × Int))(n:Int)(w:World)(h:zDE w v d)(o:∀p∈d,p.1.natAbs<2^e/\p.2.natAbs<2^e)(J:e<=1000000):
  Calls Tryz.prog 49 #[v,.int .i64 n] w fun e w'=>∃u,e= .returned u/\u= .bool (decide ((d.length:Int)=n) && zGH d)/\Below w.heap.size w w':=by
 obtain⟨N,m,S,rfl,f,T,U,-⟩:=id h;have r:=xgw f;have HQ:=xgv o;have G:=xgv h;by_cases A:(m:Int)=n
 .subst A
  have g:(decide ((d.length:Int)=(m:Int)) && zGH d)=zGH d:=by rw[f];simp
  rw[g];clear f o h g;go_enter Tryz.func49,Tryz.ntmps49;go_wp2;go_loopw [5] (fun i wr=>∃k:Nat,k<=m/\i= .int .i64 k/\Below w.heap.size w wr/\Hid (zGH (d.take k)=true)) (fun i _=>m-(intOf i).toNat)
  case atStart=>exact⟨0,by omega,rfl,zB _ _,xgw rfl⟩
  obtain⟨k,W,rfl,j,C⟩:=hrel;by_cases K:k<m
  .obtain⟨b,p,s,a,l,c,M,H,L,I,rfl,V,q,O,P,Q,R,D,E⟩:=(G.out.I j).cell (k:=k) (by rw[r.out];exact K)
   have t:=xgv q;have y:=HQ.out p (xgd q);have B:zCR wr (.agg #[.bool s,.slice a l c,.bool M,.slice H L I]) p:=⟨_,_,_,_,_,_,_,_,rfl,D,E⟩;have F:=xgv B;clear q B D E;go_wp2_with fail
   refine(zMZ _ p wr F.out y.1 y.2 J).mono ?_;rintro e X ⟨_,rfl,rfl,x⟩;cases z:zKI p
   .go_wp2
    go_ret;refine⟨_,rfl,?_,nx j x⟩;have:zGH d=false:=by
     unfold zGH;rw[List.all_eq_false];exact⟨p,xgd t.out,by rw[z];decide⟩
    rw[this];rfl
   go_wp2;go_roundw
   case rel=>exact⟨k+1,by omega,by simp,nx j x,xgw (zKq C.out t.out z)⟩
   case measure=>simp[intOf];omega
  obtain rfl:k=m:=by omega
  have:zGH d=true:=by
   have:=C.out;rwa[jS (by rw[r.out];omega)]at this
  go_wp2;go_ret;exact⟨_,rfl,by rw[this];rfl,j⟩
 have g:(decide ((d.length:Int)=n) && zGH d)=false:=by rw[f];simp[A]
 rw[g];clear f o h g;go_enter Tryz.func49,Tryz.ntmps49;go_wp2;go_ret;exact⟨_,rfl,rfl,zB _ _⟩
theorem HQ.dot{h:Nat}{q:Nat->Rat}(c:∀j,j<n->(x j).natAbs<2^h)(g:1<=h)(b:∀j,j<n->HQ e (q j)):HQ (n*(e+h+1)+1) (zAw n fun j=>(x j:Rat)*q j):=by
 induction n with
 |zero=>exact HQ.mono (a:=1) (HQ.int (z:=0) dE dE) oM
 |succ n k=>
  have d:=k (fun j i=>c j oM) (fun j i=>b j oM);have f:=HQ.mul (HQ.int (c n oM) g) (b n oM);exact(HQ.add d f).mono (by rw[zS];omega)
theorem zB1{i:Option Addr}{v:Nat}{q:Nat->Rat}(h:zDE w (.slice i n v) (zAZ n fun t=>prQ (q t)))(j:k<n):
  ∃b s a l c g d f c',i=some ⟨b,0,none⟩/\b<w.heap.size/\w.cell? ⟨b,k*4,none⟩=some (.bool s)/\w.cell? ⟨b,k*4+1,none⟩=some (.slice a l c)/\w.cell? ⟨b,k*4+2,none⟩=some (.bool g)/\w.cell? ⟨b,k*4+3,none⟩=some (.slice d f c')∧
   zAx w (.agg #[.bool s,.slice a l c,.bool g,.slice d f c']) (q k):=by
 obtain⟨b,p,s,a,l,c,g,d,f,c',x,y,e,m,o,r,u,z,A⟩:=h.cell (k:=k) (by rw[zU];exact j);rw[zBP j]at e;injection e with e
 subst e;exact⟨b,s,a,l,c,g,d,f,c',x,y,m,o,r,u,_,_,_,_,_,_,_,_,rfl,z,A⟩
theorem zQY{h:Nat}(bv yv:Value)(C:Nat)(x:Nat->Int)(q:Nat->Rat)(w:World)(y:zAR w bv (qQ C x))(hy:zDE w yv (zAZ C fun t=>prQ (q t)))(b9:∀j,j<C->(x j).natAbs<2^h)(hh:1<=h)(hq:∀j,j<C->HQ e (q j))(hC:C<=1000)(he:e+h+1<=900):
  Calls Tryz.prog 52 #[bv,yv] w (zBW w (zD6 C x q)):=by
 obtain⟨xo,xn,xc,rfl,f2,f3,f4,-⟩:=id y;obtain rfl:C=xn:=by rw[<-f2,zO]
 obtain⟨yo,yn,yc,rfl,g2,g3,g4,-⟩:=id hy;obtain rfl:C=yn:=by rw[<-g2,zU]
 have HX:=xgv y;have HY:=xgv hy;have b3:=xgv b9;have a9:=xgv hq;have HE:qS (∀n,n<=C->n*(e+h+1)+1<=900001):=⟨fun n hn=>by
  have:n*(e+h+1)<=1000*900:=qP oM he;omega⟩
 clear y hy b9 hq f2 g2;go_enter Tryz.func52,Tryz.ntmps52;go_upto_region 1 with(fail)
 refine zE ?_;intro W0 b6;obtain⟨b4,d,d7⟩:=qL b6;clear b6;go_wp2_with fail
 refine(zCm 0 W0 dE dE).mono ?_;rintro e1 p ⟨rv,rfl,⟨R,D,P,L,S,E,Q,M,rfl,A,B⟩,a2⟩;have d:=d.I a2;have g:=nx b4 a2;have I:zAx p (.agg #[.bool R,.slice D P L,.bool S,.slice E Q M]) 0:=⟨_,_,_,_,_,_,_,_,rfl,A,B⟩;have o:=xgv I;clear A B I;go_upto_region 2 with(fail)
 refine zE ?_;intro W2 Z;have J:Below p.heap.size p W2:=by rw[Z.out];exact(zB _ _).alloc (xgf _) _
 have f:Blk W2 p.heap.size tQ #[.bool R,.slice D P L,.bool S,.slice E Q M]:=by rw[Z.out];exact yJ _ _ _
 have d:=d.I J;have o:=xgv (o.out.I J);have q1:=g.size;have q0:=b4.size;have g:=nx g J;have c7:w.heap.size<p.heap.size:=by have:=a2.size;omega
 obtain⟨b5,b7⟩:∃c5,p.heap.size=c5:=⟨_,rfl⟩;rw[b7]at f c7 ⊢
 clear Z b7 q1 q0 J;go_wp2;go_loopw [6] (fun iv wr=>∃i:Nat,i<=C/\iv= .int .i64 i/\Below w.heap.size w wr/\Blk wr w.heap.size tQ #[.bool false,.slice none 0 0,.bool false,.slice none 0 0]/\∃(T V:Bool) (U W:Option Addr) (N F O G:Nat),Blk wr b5 tQ #[.bool T,.slice U N F,.bool V,.slice W O G]/\qS (zAx wr (.agg #[.bool T,.slice U N F,.bool V,.slice W O G]) (zAw i fun j=>(x j:Rat)*q j))) (fun iv _=>C-(intOf iv).toNat)
 case atStart=>exact⟨0,by omega,rfl,g,d,_,_,_,_,_,_,_,_,f,o⟩
 clear g d f o;obtain⟨i,hi,rfl,g,d,T,V,U,W,N,F,O,G,f,o⟩:=hrel;have d9:=f.lt;by_cases u:i<C
 .obtain⟨bx,z,s1,o1,n1,k1,rfl,d0,K,d1,d2,hv⟩:=(HX.out.I g).cell (k:=i) (by rw[zO];exact u)
  obtain⟨c9,s,e0,d8,c,s',o',l',c',rfl,d3,e1,e2,e3,e4,b8⟩:=zB1 (HY.out.I g) u;rw[qU u]at K;injection K with K
  subst K;have b2:=xgv hv;have a8:=xgv b8;have Y:=xgv (b3.out i u);have X:=xgv (a9.out i u);have b0:=xgv (HQ.dot (n:=i) (fun j hj=>b3.out j oM) hh (fun j hj=>a9.out j oM));have c3:=xgv (HE.out i oM);obtain⟨SS,H⟩:∃SS,(zAw i fun j=>(x j:Rat)*q j)=SS:=⟨_,rfl⟩;have c8:=xgv H;rw[H]at o b0;obtain⟨l,a7⟩:∃l,x i=l:=⟨_,rfl⟩;obtain⟨m,a4⟩:∃m,q i=m:=⟨_,rfl⟩;have c1:qS ((zAw (i+1) fun j=>(x j:Rat)*q j)=SS+(l:Rat)*m):=⟨by rw[<-H,<-a7,<-a4];rfl⟩;rw[a7]at b2 Y;rw[a4]at a8 X;obtain⟨r1,r2,r3,r4,r5,r6,r7,r8⟩:=f.four;have d4:=jK (l:Rat);have d5:=jK ((l:Rat)*m);have d6:=jK (SS+(l:Rat)*m);clear hv b8 H a7 a4;go_upto_region 5 with(fail)
  refine yD 12 [pcD 5 [] (fun w v=>zAx w v (l:Rat)),pcD 10 [5] (fun w v=>zAx w v ((l:Rat)*m)),pcD 11 [10] (fun w v=>zAx w v (SS+(l:Rat)*m))] ?_;refine sRd ?_;refine sRc (fun wS hI Gk r=>by go_simp;exact ck r (zDB _ l _ (b2.out.ext (lx hI.bel)))) (fun e7 _=>?_);refine sRd ?_;refine sRc (fun wS hI a1 Gk r=>by go_simp;exact ck r (zE9 (a:=h) (b:=e) _ _ _ m _ a1 (a8.out.I hI.bel) (HQ.int Y.out hh) X.out oM)) (fun e5 _=>?_);refine sRc (fun wS hI a0 Gk r=>by go_simp;exact ck r (zIL _ _ SS _ _ (o.out.I hI.bel) a0 b0.out (HQ.mul (HQ.int Y.out hh) X.out) (by have:=c3.out;omega))) (fun e6 _=>?_);refine sRe ?_;intro w2 a3 a1 a0 c6;obtain⟨R,D,P,L,S,E,Q,M,rfl,A,B⟩:=(show zAx _ _ _ from c6);have I:zAx w2 (.agg #[.bool R,.slice D P L,.bool S,.slice E Q M]) (SS+(l:Rat)*m):=⟨_,_,_,_,_,_,_,_,rfl,A,B⟩;have c0:=xgv I;have d:=d.I a3;have f:=f.I a3;have g:=nx g a3;clear A B I r1 r2 r3 r4 r5 r6 r7 r8 d1 d2 e1 e2 e3 e4 a1 a0;obtain⟨r1,r2,r3,r4,r5,r6,r7,r8⟩:=f.four;go_wp2;go_roundw
  case rel=>exact⟨i+1,by omega,by simp,zA8 g oM 0 _ _ _ _,(zFS _ _ _ _ _ _ _ _ oM).trans d,_,_,_,_,_,_,_,_,f.put4 _ _ _ _,⟨by rw[c1.out];exact c0.out.ext (f.lext4 dE 0 _ _ _ _)⟩⟩
  case measure=>simp[intOf];omega
 obtain rfl:i=C:=by omega
 obtain⟨r1,r2,r3,r4,r5,r6,r7,r8⟩:=f.four;obtain⟨t1,t2,t3,t4,t5,t6,t7,t8⟩:=d.four;go_wp2;have y:=d.lext4 dE 0 (.bool T) (.slice U N F) (.bool V) (.slice W O G);exact jQ rfl rfl rfl (d.put4 _ _ _ _) (o.out.ext y) (zA8 g oM 0 _ _ _ _)
def zXk(q r:List Int):World->Value->Prop:=fun w v=>∃qv rv,v= .tuple #[qv,rv,niq 0]/\zAR w qv q/\zAR w rv r
def zXn(xs:List Int):World->Value->Prop:=fun w v=>∃b rv,v=ptq b 0/\b<w.heap.size/\w.cell? ⟨b,0,none⟩=some rv/\zAR w rv xs
def zXJ:World->Value->Prop:=fun w v=>∃H U V,zLp w v 0 3 H U V/\zWH 0 3 [] H U V
theorem nxd{W a:World}{o:Obj}(h:Below (W.alloc o).heap.size (W.alloc o) a):BWq W a:=nxa (zB _ _) h
theorem zFJ(a b c:Value)(W:World):(Instr.field 29 (.agg #[a,b,c]) 2).run Tryz.prog W= .ok c W:=by kernel_rfl
theorem zOx(v:Value)(n:Nat)(a:List Int)(w:World)(h:I8V w v a)(o:n<=16):
  CPq 6 #[v,niq n] w fun e w'=>∃u,e= .returned u/\zAR w' u (qQ n (zLd n a 0))/\BWq w w':=by
 obtain⟨s,m,y,rfl,-⟩:=id h;go_enter Tryz.func6,Tryz.ntmps6;go_wp2_with fail
 refine(zIx _ 1 n a w h oM o).mono ?_;rintro e K ⟨u,x,rfl,⟨z,r,rfl,f⟩,l⟩;have c:=f.rows;obtain⟨F,on,E,rfl,j,C,D,-⟩:=id c;obtain⟨b,H,J,I,L,rfl,A,i,G,g⟩:=c.row (k:=0) (by simp[yV]);have hF:zBe 1 n (yV 1 n (zLd n a)):=zB7 _ _ _;obtain rfl:=hF.row_eq i;have p:on=1:=by rw[<-j];simp[yV]
 subst p;have d:qQ n (ent (yV 1 n (zLd n a)) 0)=qQ n (zLd n a 0):=qZ fun t q=>zA9 oM q
 rw[d]at g;clear f c i hF j d;have B:=zFJ;go_wp2;go_ret;exact⟨_,rfl,g,l⟩
theorem zMn(v:Value)(C:Nat)(x:Nat->Int)(w:World)(h:zAR w v (qQ C x)):
  CPq 12 #[v] w fun e w'=>∃u,e= .returned u/\zAo w' u 1 C [qQ C x]/\BWq w w':=by
 obtain⟨b,m,c,rfl,g,q,r,-⟩:=id h;rw[zO]at g;subst g;have n:=xgv h;clear h;go_enter Tryz.func12,Tryz.ntmps12;go_upto_region 1 with(fail)
 refine zE ?_;intro a i;obtain⟨j,f,s⟩:=qL i;clear i;have t:=f.three;go_wp2;refine zAy rfl rfl rfl ((f.put3 _ _ _).alloc _) ⟨_,rfl,?_,?_⟩
 .have o:zAR ((((a.setCell ⟨w.heap.size,0,none⟩ (.int .i64 1)).setCell ⟨w.heap.size,1,none⟩ (.int .i64 C)).setCell ⟨w.heap.size,2,none⟩ (.slice (some ⟨a.heap.size,0,none⟩) 1 1)).alloc (.cells #[.slice b C c] 31)) (.slice b C c) (qQ C x):=
   n.out.I ((yM (yM (yM j (xgf _) 0 _) (xgf _) 1 _) (xgf _) 2 _).alloc (by simp;omega) _)
  have l:=yJ (((a.setCell ⟨w.heap.size,0,none⟩ (.int .i64 1)).setCell ⟨w.heap.size,1,none⟩ (.int .i64 C)).setCell ⟨w.heap.size,2,none⟩ (.slice (some ⟨a.heap.size,0,none⟩) 1 1)) 31 #[.slice b C c];rw[show((((a.setCell ⟨w.heap.size,0,none⟩ (.int .i64 1)).setCell ⟨w.heap.size,1,none⟩ (.int .i64 C)).setCell ⟨w.heap.size,2,none⟩ (.slice (some ⟨a.heap.size,0,none⟩) 1 1))).heap.size=a.heap.size by simp]at l;refine⟨_,rfl,_,1,1,rfl,rfl,xgf _,oM,fun _=>⟨a.heap.size,#[.slice b C c],rfl,l,fun k y d=>?_⟩⟩;have p:k=0:=by
   have:=(xge.1 d).1;simp at this;omega
  subst p;simp at d;subst d;exact⟨_,rfl,o⟩
 exact(yM (yM (yM j (xgf _) 0 _) (xgf _) 1 _) (xgf _) 2 _).alloc (by simp;omega) _
theorem zMm{fn:Func}{a b:Tmp}(h:fn.results=#[.tmp a,.tmp b])(tmps:Array Value)(P:Program)(W:World):(results fn tmps).run P W= .ok (.tuple #[tmps.getD a undef,tmps.getD b undef]) W:=by
 simp[results,h]
theorem zMb(B hv:Value)(R C:Nat)(M:List (List Int))(x:Nat->Int)(w:World)(g:zAR w B (qQ R x))(h:zAo w hv R C M)(hF:zBe R C M)(N:R<=1000000)(J:C<=1000000)(o:zGg [qQ R x] M 1 R C):
  CPq 88 #[B,hv] w fun e w'=>∃u,e= .returned (.tuple #[u,niq 0])/\zAR w' u (qQ C (zGK [qQ R x] M R 0))/\BWq w w':=by
 have j:=h;obtain⟨A,rfl,h⟩:=h;obtain⟨mo,mn,mc,rfl,-⟩:=id h;obtain⟨ao,m,a0,rfl,l,h3,h4,-⟩:=id g;rw[zO]at l;subst l;have F:=xgv hF;have G:=xgv o;have E:=xgv j;have H:=xgv g;clear hF o j g h;go_enter Tryz.func88,Tryz.ntmps88;go_upto_region 1 with(fail)
 refine zE ?_;intro W0 p;obtain⟨d,i,a4⟩:=qL p;have W:=i.three;have L:=E.out.I d;have O:=H.out.I d;have S:zAA (fun w v=>zAo w v 1 R [qQ R x]):=fun _ _ _ e h=>h.I e
 have T:zAA (fun w v=>zAo w v 1 C (yV 1 C (zGK [qQ R x] M R))):=fun _ _ _ e h=>h.I e
 have K:qS (zBe 1 R [qQ R x]):=⟨rfl,fun r s=>by simp at s;subst s;exact zO _ _⟩;have a3:=i.lt;clear p;go_upto_region 3 with(fail)
 refine yD 4 [pcD 1 [] (fun w v=>zAo w v 1 R [qQ R x]),pcD 3 [1] (fun w v=>zAo w v 1 C (yV 1 C (zGK [qQ R x] M R)))] ?_;refine sRd ?_;refine sRc (fun Z hI D a=>by go_simp;exact ck a (zMn _ R x _ (O.I hI.bel))) (fun a6 _=>?_);refine sRd ?_;refine sRc (fun Z hI c D a=>by go_simp;exact ck a (zOQ _ _ 1 R C [qQ R x] M _ c (L.I hI.bel) K.out F.out oM N J G.out)) (fun X _=>?_);refine sRe ?_;intro Y Q c P;obtain⟨A2,rfl,f⟩:zAo Y X 1 C (yV 1 C (zGK [qQ R x] M R)):=P;obtain⟨oo,on,oc,rfl,z,o3,o4,-⟩:=id f;obtain⟨b,ra,rn,rc,zs,rfl,a1,y,p1,t⟩:=f.row (k:=0) (by simp[yV]);have n:zBe 1 C (yV 1 C (zGK [qQ R x] M R)):=zB7 _ _ _;obtain rfl:=n.row_eq y;have U:on=1:=by rw[<-z];simp[yV]
 subst U;have q:qQ C (ent (yV 1 C (zGK [qQ R x] M R)) 0)=qQ C (zGK [qQ R x] M R 0):=qZ fun a5 V=>zA9 oM V
 rw[q]at t;have a2:=zFJ;have I:=nx d Q;clear f y n z q c W S T;go_wp2;refine bodyPost_ret (zMm rfl _ _ _) rfl ?_;exact⟨_,rfl,t,I⟩
theorem zTk(g hv:Value)(R C:Nat)(M:List (List Int))(x:Nat->Int)(w:World)(b:zAR w g (qQ R x))(h:zAo w hv R C M)(hF:zBe R C M)(r:R<=1000000)(q:C<=1000000)(d:zGg [qQ R x] M 1 R C):
  CPq 48 #[g,hv] w fun e w'=>∃u,e= .returned u/\zAR w' u (qQ C (zGK [qQ R x] M R 0))/\BWq w w':=by
 have c:=h;obtain⟨A,rfl,h⟩:=h;obtain⟨E,D,B,rfl,-⟩:=id h;obtain⟨v,m,y,rfl,-,-,-,-⟩:=id b;have j:=xgv hF;have k:=xgv d;have i:=xgv c;have l:=xgv b;clear hF d c b h;go_enter Tryz.func48,Tryz.ntmps48;go_upto_region 1 with(fail)
 refine zE ?_;intro n f;obtain⟨a,o,z⟩:=qL f;have F:=o.three;clear f;go_wp2_with fail
 refine(zMb _ _ R C M x n (l.out.I a) (i.out.I a) j.out r q k.out).mono ?_;rintro e G ⟨u,rfl,t,s⟩;have p:=nx a s;go_wp2;go_ret;exact⟨_,rfl,t,p⟩
def zM1(w:World)(b j n m:Nat)(E:Nat->Nat->Int):Prop:=∃cs:Array Value,Blk w b tR cs/\n<=cs.size/\∀i,i<j->∃o c,cs[i]?=some (.slice o m c)/\zAR w (.slice o m c) (qQ m (E i))
theorem zM1.lt{b:Nat}{E:Nat->Nat->Int}(h:zM1 w b j n m E):b<w.heap.size:=by
 obtain⟨c,a,-⟩:=h;exact a.lt
theorem zM1.I{b:Nat}{E:Nat->Nat->Int}(h:zM1 w b j n m E)(a:Below w.heap.size w w'):zM1 w' b j n m E:=by
 obtain⟨d,g,k,l⟩:=h;refine⟨d,g.I a,k,fun i p=>?_⟩;obtain⟨o,c,e,f⟩:=l i p;exact⟨o,c,e,f.I a⟩
theorem zM1.full{b:Nat}{E:Nat->Nat->Int}(h:zM1 w b n n m E):zFe w b n m E:=by
 obtain⟨a,c,d,e⟩:=h;exact⟨a,c,d,e⟩
theorem zM1.facts{b:Nat}{E:Nat->Nat->Int}(h:zM1 w b j n m E)(e:j<n):(∃u,w.cell? ⟨b,j,none⟩=some u)/\w.frozen? ⟨b,j,none⟩=false:=by
 obtain⟨c,a,d,-⟩:=h;exact⟨zJY a oM,a.frozen j⟩
theorem zM1.put{b:Nat}{E:Nat->Nat->Int}{o:Option Addr}{c:Nat}(h:zM1 w b j n m E)(x:j<n)(hv:zAR w (.slice o m c) (qQ m (E j))):zM1 (w.setCell ⟨b,j,none⟩ (.slice o m c)) b (j+1) n m E/\zBC w (w.setCell ⟨b,j,none⟩ (.slice o m c)):=by
 obtain⟨p,d,s,t⟩:=h;have f:=d.lext (by decide:tR≠tU) j (.slice o m c);have k:∀g,g≠b->(w.setCell ⟨b,j,none⟩ (.slice o m c)).heap[g]?=w.heap[g]?:=fun g a=>yO w b j g _ a
 refine⟨⟨p.setIfInBounds j (.slice o m c),d.set_ j _,by simpa using s,fun i v=>?_⟩,f⟩;by_cases e:i=j
 .subst e
  exact⟨o,c,Array.getElem?_setIfInBounds_self_of_lt oM,hv.gone d dE (fun g _ a=>k g a) f⟩
 obtain⟨u,l,q,r⟩:=t i oM;exact⟨u,l,by rw[xgc (zL e)];exact q,r.gone d dE (fun g _ a=>k g a) f⟩
theorem zR9(c:j<C):((qQ (R+1+C) (jD (fun i=>A i j) (fun _=>0) R)).set R (y j)).set (R+1+j) 1=qQ (R+1+C) (eqL R A y j):=by
 rw[zDJ,zDJ];refine qZ fun t d=>?_
 unfold eqL jD;by_cases a:t<R
 .rw[zA oM,zA oM,zC a,zC a]
 by_cases b:t=R
 .rw[zA oM,zC b,zA a,zC b]
 rw[zA b,zA a,zA b,zA a]
theorem zUV(v:Value)(R C:Nat)(M:List (List Int))(w:World)(h:zAo w v R C M)(hF:zBe R C M):
  Calls Tryz.prog 35 #[v] w fun e w'=>∃v,e= .returned v/\v= .bool true/\Below w.heap.size w w':=
 (zBM v R C M w h).mono fun e w' h=>⟨_,h.1,by rw[zT hF.valid],h.2⟩
def zRQ(lo n:Nat)(f:Nat->Int × Int):World->Value->Prop:=fun w v=>∃g,v= .slice (some ⟨g,0,none⟩) n n/\lo<=g/\zCB w g (zAZ n f)
theorem zWe(b n:Nat)(a:Value)(w:World)(f:yY w b (qQ n fun _=>0))(hd:yA w a 1)(d:n<=1000000):
  Calls Tryz.prog 119 #[.slice (some ⟨b,0,none⟩) n n,a] w fun e w'=>∃g,e= .returned (.slice (some ⟨g,0,none⟩) n n)/\w.heap.size<=g/\zCB w' g (zAZ n fun _=>(0,1))/\Below w.heap.size w w':=by
 have h:=zNQ (e:=1) b 0 n n (qQ n fun _=>0) (fun _=>0) a 1 w f (fun k c=>by rw[jC];exact qU c) hd dE dE dE (fun k _=>by decide) d;have e:prQ (Rat.divInt 0 1)=(0,1):=by decide+kernel
 rw[e,jZ]at h;exact h
def QOf(q:Rat):World->Value->Prop:=fun w v=>∃u,v= .tuple #[u,.int .i64 0]/\zAx w u q
def zUg(a b:Nat)(T:Array Value)(w:World):World:=
 match T[a]?,T[b]? with
 |some (.pointer (some ⟨g,o,none⟩)),some (.agg #[x,y,z,u])=>(((w.setCell ⟨g,o,none⟩ x).setCell ⟨g,o+1,none⟩ y).setCell ⟨g,o+2,none⟩ z).setCell ⟨g,o+3,none⟩ u
 |_,_=>w
theorem zJ9{b g o:Nat}{x y z u:Value}(c:T[a]?=some (.pointer (some ⟨g,o,none⟩)))(d:T[b]?=some (.agg #[x,y,z,u])):zUg a b T w=(((w.setCell ⟨g,o,none⟩ x).setCell ⟨g,o+1,none⟩ y).setCell ⟨g,o+2,none⟩ z).setCell ⟨g,o+3,none⟩ u:=by
 unfold zUg;rw[c,d];rfl
theorem zNV{b c:Nat}{v:Value}(d:c≠a)(e:c≠b):zUg a b (T.setIfInBounds c v) w=zUg a b T w:=by
 unfold zUg;rw[xgc d,xgc e]
theorem zCB.only{S:List Nat}{b:Nat}{a:List (Int × Int)}(h:zCB w b a)(k:zA5 S w w')(c:b ∉ S):zCB w' b a:=h.old (k.old b h.lt c) k.lext
def zVG(R C:Nat)(s:BE)(e:Ending)(w':World):Prop:=
 (∃i yv,s.pv.length<=i/\i<C/\s.E i R≠0/\e= .returned (.tuple #[.slice none 0 0,yv,.bool false])/\zDE w' yv (zAZ C fun t=>prQ (Rat.divInt (s.E i (R+1+t)) (s.E i R))))∨
 (∃xv,(∀i,s.pv.length<=i->i<C->s.E i R=0)/\e= .returned (.tuple #[xv,.slice none 0 0,.bool true])/\zDE w' xv (zAZ R fun i=>prQ (zIk s R s.pv.length i)))
theorem zIs(v bv:Value)(R C:Nat)(M:List (List Int))(y:Nat->Int)(w:World)(h:zAo w v R C M)(hF:zBe R C M)(U:zAR w bv (qQ C y))(hR:R<=1000)(hC:C<=1000)(s6:1<=C)(he:2*e+1<=1000000)
  (hS:∀c,c<=R->(zDH C (eqL R (ent M) y) c).pv.length<=C/\(zDH C (eqL R (ent M) y) c).last≠0/\(zDH C (eqL R (ent M) y) c).last.natAbs<2^e/\∀i,i<C->∀j,j<R+1+C->((zDH C (eqL R (ent M) y) c).E i j).natAbs<2^e)
  (hP:∀k t,(zDH C (eqL R (ent M) y) R).pv[k]?=some t->t<R/\(zDH C (eqL R (ent M) y) R).E k t≠0):
  Calls Tryz.prog 77 #[v,bv] w fun e w'=>zVG R C (zDH C (eqL R (ent M) y) R) e w'/\Below w.heap.size w w':=by
 obtain⟨A,rfl,f7⟩:=id h;obtain⟨ao,n,d9,rfl,e2,e3,e4,-⟩:=id f7;obtain rfl:n=R:=by rw[<-e2,hF.1]
 obtain⟨bo,bn,bc,rfl,f2,f3,f4,-⟩:=id U;obtain rfl:C=bn:=by rw[<-f2,zO]
 have HM:=xgv h;have r6:=xgv f7;have HF:=xgv hF;have p6:=xgv U;have HS:=xgv hS;have HP:=xgv hP;obtain⟨L,l⟩:∃L,eqL n (ent M) y=L:=⟨_,rfl⟩;have HL:=xgv l;rw[l]at HS HP ⊢
 have e6:=HS.out n (xgf _);obtain⟨S,e5⟩:∃S,zDH C L n=S:=⟨_,rfl⟩;rw[e5]at HP e6 ⊢
 have r7:=xgv e5;have b7:=xgv e6;clear e6 e5;have C2:=fun W=>mkR (C:Int) C rfl oM W
 have v0:∀W:World,(Instr.makeSlice 31 (.int .i64 ((n:Int)+1+(C:Int))) (.int .i64 ((n:Int)+1+(C:Int)))).run Tryz.prog W= .ok (.slice (some ⟨W.heap.size,0,none⟩) (n+1+C) (n+1+C)) (W.alloc (.cells (zeroCells (n+1+C)) tI)):=fun W=>mkI ((n:Int)+1+(C:Int)) (n+1+C) oM oM W
 obtain⟨m,hm⟩:∃m,n+1+C=m:=⟨_,rfl⟩;rw[hm]at HS v0;have V:=xgv hm;clear h f7 hF U hS hP e2 f2 l hm;go_enter Tryz.func77,Tryz.ntmps77;go_upto_region 1 with(fail)
 refine zE ?_;intro W0 i8;obtain⟨e0,d,C6⟩:=qL i8;obtain⟨s,D,F,G,H,I⟩:=d.three;clear i8;go_wp2_with fail
 refine(zUV _ n C M W0 (HM.out.I e0) HF.out).mono ?_;rintro e' w1 ⟨_,rfl,rfl,k0⟩;have d:=d.I k0;have B:=nx e0 k0;clear s D F G H I;obtain⟨s,D,F,G,H,I⟩:=d.three;go_upto_region 4 with(fail)
 refine zE ?_;intro W2 e7;have e9:Below w1.heap.size w1 W2:=by rw[e7.out];exact(zB _ _).alloc (xgf _) _
 have hH:zM1 W2 w1.heap.size 0 C m L:=by
  rw[e7.out];exact⟨_,yJ _ _ _,by simp[madeCells],fun i hi=>by omega⟩
 have q1:=B.size;have q0:=e0.size;have x9:=(d.lt:w.heap.size<_);have d:=d.I e9;have B:=nx B e9;clear e7 s D F G H I e9;obtain⟨bq,k4⟩:∃g,w1.heap.size=g:=⟨_,rfl⟩;rw[k4]at hH q1 x9 ⊢
 clear k4;go_wp2;go_loopw [33] (fun Q wr=>∃j:Nat,j<=C/\Q= .int .i64 j/\Below w.heap.size w wr/\Blk wr w.heap.size 29 #[.int .i64 n,.int .i64 C,.slice ao n d9]/\zM1 wr bq j C m L) (fun Q _=>C-(intOf Q).toNat)
 case atStart=>exact⟨0,by omega,rfl,B,d,hH⟩
 clear B d hH;obtain⟨j,hj,rfl,B,d,hH⟩:=hrel;obtain⟨s,D,F,G,H,I⟩:=d.three;by_cases b4:j<C
 .have qr:=B.size
  have A1:=d.lt;have lq:=hH.lt;have mm:=V.out;go_upto_region 8 with(fail)
  refine zE ?_;intro W3 e8;have b9:Below wr.heap.size wr W3:=by rw[e8.out];exact(zB _ _).alloc (xgf _) _
  have q:yY W3 wr.heap.size (qQ m (jD (fun i=>ent M i j) (fun _=>0) 0)):=by
   rw[zFU,e8.out];obtain⟨_,r,-,h2⟩:=zFX (w:=wr) (lo:=0) (n:=m) (zG _);injection r with r
   injection r with r
   injection r with r
   rw[r];exact h2
  have d:=d.I b9;have B:=nx B b9;have q3:=b9.size;clear e8 s D F G H I;have p5:=xgv b9;obtain⟨Z,d0⟩:∃g,wr.heap.size=g:=⟨_,rfl⟩;have p7:=xgv d0;rw[d0]at q qr lq A1 ⊢
  clear d0 b9;obtain⟨s,D,F,G,H,I⟩:=d.three;go_wp2;clear s D F G H I;go_loopw [46] (fun Q wt=>∃i:Nat,i<=n/\Q= .int .i64 i/\zA5 [Z] W3 wt/\yY wt Z (qQ m (jD (fun i=>ent M i j) (fun _=>0) i))) (fun Q _=>n-(intOf Q).toNat)
  case atStart=>exact⟨0,by omega,rfl,zA5.refl _ _,q⟩
  rename World=>ws
  clear q;obtain⟨i,hi,rfl,N,q⟩:=hrel;have a5:Below w.heap.size w ws:=Below.only B N (xgf _) (fun g hg=>by simp at hg;omega);have d:=d.only N (by simp;omega);obtain⟨s,D,F,G,H,I⟩:=d.three;have A0:=q.lt;by_cases k8:i<n
  .obtain⟨Y,ra,rn,rc,zs,e1,B3,hz,p1,hv⟩:=r6.out.row (k:=i) (by rw[HF.out.1];exact k8)
   obtain rfl:=HF.out.row_eq hz;have d2:=hv.len.1;obtain rfl:rn=C:=by rw[<-d2];exact HF.out.2 _ (xgd hz)
   obtain⟨eb,z,s1,a1,l1,k1,rfl,B5,O,z1,z2,a4⟩:=hv.cell (k:=j) (by rw[HF.out.2 _ (xgd hz)];exact b4);have k7:=zDL hz O;have p1:=qK p1 a5;have z1:=qK z1 a5;have z2:=qK z2 a5;have a9:=xgv (a4.ext (lx a5));obtain⟨_,_,_,_,o1,o2,o3,o4,-⟩:=q.cell (k:=i) (qU (by have:=V.out;omega));have P:=q.set (k:=i) (by rw[zO];have:=V.out;omega) a9.out;rw[<-k7,zGb (fun i=>ent M i j)]at P;have i0:=xgv P;subst e1;clear hv hz O a4 k7 P d2;go_wp2;go_roundw
   case rel=>exact⟨i+1,by omega,by simp,N.trans (zHc i0.out.2),i0.out.1⟩
   case measure=>simp[intOf];omega
  obtain rfl:i=n:=by omega
  have mm:=V.out;obtain⟨yb,z,s1,a1,l1,k1,rfl,C9,O,y1,y2,a4⟩:=p6.out.cell (k:=j) (by rw[zO];exact b4);rw[qU b4]at O;injection O with O
  subst O;have y1:=qK y1 a5;have y2:=qK y2 a5;have a9:=xgv (a4.ext (lx a5));have D0:=d.lt;have D2:=a5.size;clear a4;go_upto_region 13 with(fail)
  refine yD 7 [] ?_;refine sRd ?_;refine sRf ?_;intro wx c7;have q:=q.I c7;have d:=d.I c7;have N:=N.trans (zA5.of [Z] c7);have l9:=a9.out.ext (lx c7);obtain⟨_,_,_,_,o1,o2,o3,o4,-⟩:=q.cell (k:=i) (qU oM);have P:=q.set (k:=i) (by rw[zO];omega) l9;have qx:=c7.size;have N:=N.trans (zHc P.2);have d:Blk ((wx.setCell ⟨Z,i*2,none⟩ (.bool s1)).setCell ⟨Z,i*2+1,none⟩ (.slice a1 l1 k1)) w.heap.size 29 #[.int .i64 i,.int .i64 C,.slice ao i d9]:=(yG wx Z (i*2) (i*2+1) w.heap.size _ _ oM).trans d;have q:=P.1;clear P s D F G H I y1 y2 l9;go_upto_region 14 with(fail)
  generalize (wx.setCell ⟨Z,i*2,none⟩ (.bool s1)).setCell ⟨Z,i*2+1,none⟩ (.slice a1 l1 k1)=W5 at N q d ⊢
  obtain⟨s,D,F,G,H,I⟩:=d.three;have D3:=d.lt;have x6:IntKind.i64.wrap ((i:Int)+1)=(i:Int)+1:=yB _ oM;have C8:IntKind.i64.wrap ((i:Int)+1+(j:Int))=(i:Int)+1+(j:Int):=yB _ oM;refine yD 7 [pcI 6 (1)] ?_;refine sRd ?_;refine sRc (fun f hI Gk X=>by go_simp;exact ck X (zDt 1 _ dE dE)) (fun E2 _=>?_);refine sRe ?_;intro wz c9 a3;obtain⟨us,ua,ul,uc,rfl⟩:=(show yA _ _ _ from a3).parts;have q:=q.I c9;have d:=d.I c9;have N:=N.trans (zA5.of [Z] c9);have qz:=c9.size;obtain⟨zz,c8⟩:∃z,((qQ m (jD (fun i=>ent M i j) (fun _=>0) i)).set i (y j))[i+1+j]?=some z:=⟨_,xga (by rw[List.length_set,zO];omega)⟩;obtain⟨_,_,_,_,o1,o2,o3,o4,-⟩:=q.cell (k:=i+1+j) c8;have P:=q.set (k:=i+1+j) (by rw[List.length_set,zO];omega) (show yA _ _ _ from a3);have N:=N.trans (zHc P.2);have d:Blk ((wz.setCell ⟨Z,(i+1+j)*2,none⟩ (.bool us)).setCell ⟨Z,(i+1+j)*2+1,none⟩ (.slice ua ul uc)) w.heap.size 29 #[.int .i64 i,.int .i64 C,.slice ao i d9]:=(yG wz Z ((i+1+j)*2) ((i+1+j)*2+1) w.heap.size _ _ oM).trans d;have q:=P.1;have d2:=q;rw[<-V.out,zR9 b4,HL.out,V.out]at q;clear P s D F G H I a3 d2;go_upto_region 15 with(fail)
  refine zE ?_;intro W6 i9;rw[<-i9.out]at N q d;clear i9;have d0:=p7.out;have i7:=hH.I (Below.only p5.out N (xgf _) (fun g hg=>by simp at hg;omega));have i4:Below w.heap.size w W6:=Below.only B N (xgf _) (fun g hg=>by simp at hg;omega);obtain⟨⟨u,b1⟩,b2⟩:=i7.facts b4;have d6:=q.vec (zO _ _) (xgf _) (by omega:m<=9223372036854775807);have l3:=i7.put b4 d6;have r0:=xgv l3;have q6:=i4.size;clear d6 l3 q;go_wp2;go_roundw
  case rel=>exact⟨j+1,by omega,by simp,yM i4 oM _ _,(yO W6 bq j w.heap.size _ oM).trans d,r0.out.1⟩
  case measure=>simp[intOf];omega
 obtain rfl:C=j:=by omega
 have w2:n<=m:=by have:=V.out;omega
 have D1:=d.lt;have qq:=B.size;go_wp2_with fail
 refine(zRU (e:=e) bq C m C n L wr hH.full (xgf _) oM oM s6 (by have:=V.out;omega) w2 he HS.out).mono ?_;rintro e' w4 ⟨J,rfl,f1,k3⟩;have d:=d.I k3;have B:=nx B k3;rw[r7.out]at f1;obtain⟨bh,b0,ln,la,ll,lc,pv,r,h2,h3,h4,h5,h6,h7,h8,h9⟩:=f1.ex;obtain⟨po,D8,rfl,p1,p2,p3⟩:=h9.at_;have HH:=xgv h7;have b6:=xgv p3;have d1:=r.cell 0;have d5:=r.cell 4;obtain⟨k,hk⟩:∃k,S.pv.length=k:=⟨_,rfl⟩;have HK:=xgv hk;rw[hk]at d5 p1 r;have a6:=xgv r;have C0:k<=C:=by have:=b7.out.1;omega
 clear f1 r h7 h8 h9 p3 hk hH s D F G H I;obtain⟨s,D,F,G,H,I⟩:=d.three;go_upto_region 18 with(fail)
 refine zBK [] ?_;refine sRd ?_;refine sRf ?_;intro w5 c0;have B:=nx B c0;have d:=d.I c0;have HH:=xgv (HH.out.I c0);have a6:=xgv (a6.out.I c0);have b6:=xgv (b6.out.I c0);clear s D F G H I d1 d5;obtain⟨sa,f8⟩:∃sa:Option Addr,(if b0=k then some ⟨bh,0,none⟩else some ⟨bh,k,none⟩)=sa:=⟨_,rfl⟩;have h0:qS (k<C->sa=some ⟨bh,k,none⟩):=⟨fun h=>by rw[<-f8,zA oM]⟩;rw[f8];clear f8;go_wp2;go_loopw [96] (fun Q wr=>∃i:Nat,i<=C-k/\Q= .int .i64 i/\Below w5.heap.size w5 wr/\qS (∀a,k<=a->a<k+i->S.E a n=0)) (fun Q _=>(C-k)-(intOf Q).toNat)
 case atStart=>exact⟨0,by omega,rfl,zB _ _,⟨fun a r h2=>by omega⟩⟩
 rename World=>ws
 obtain⟨i,hi,rfl,U,hz⟩:=hrel;have d:=d.I U;obtain⟨s,D,F,G,H,I⟩:=d.three;by_cases k8:i<C-k
 .have B4:¬ b0=k:=by omega
  have C4:n<m:=by have:=V.out;omega
  obtain⟨ro,rc,p3,p4,a8⟩:=(HH.out.I U).row (i:=k+i) oM;obtain⟨Y,z,s1,a1,l1,k1,rfl,zl,O,z1,z2,a4⟩:=a8.cell (k:=n) (by rw[zO];have:=V.out;omega);rw[qU (by have:=V.out;omega)]at O;injection O with O
  obtain⟨kz,f6⟩:∃k,zAB z 0=k:=⟨_,rfl⟩;have r8:qS (∀(v:Value) (w:World),yA w v z->Calls Tryz.prog 76 #[v] w fun e w'=>e= .returned (.int .i64 kz)/\Below w.heap.size w w'):=⟨fun v w hv=>f6 ▸ zAn v z w hv.J⟩;have d8:qS (kz=0↔z=0):=⟨by rw[<-f6];exact zGB⟩;have b8:=xgv O;have a9:=xgv a4;have i3:=xgv a8;clear O a4 f6 a8;obtain rfl:=h0.out oM;go_wp2_with fail
  refine(r8.out _ ws a9.out).mono ?_;rintro e' w6 ⟨rfl,a3⟩;by_cases b5:z=0
  .have f5:=d8.out.2 b5
   subst f5;have c8:qS (∀a,k<=a->a<k+(i+1)->S.E a n=0):=⟨fun a g1 g2=>by
    rcases zJ a (k+i)with h|h
    exact hz.out a g1 h;obtain rfl:a=k+i:=by omega
    exact b8.out.trans b5⟩
   clear b5 d8;go_wp2;go_roundw
   case rel=>exact⟨i+1,by omega,by simp,nx U a3,c8⟩
   case measure=>simp[intOf];omega
  have f5:kz≠0:=fun h=>b5 (d8.out.1 h)
  have B9:(kz !=0)=true:=by simpa using f5
  have d6:=i3.out.len;rw[zO]at d6;have mm:=V.out;have d:=d.I a3;have z1:=qK z1 a3;have z2:=qK z2 a3;have r9:=xgv (a9.out.ext (lx a3));have r5:qS (yY w6 Y (qQ m (S.E (k+i)))):=⟨by
   obtain⟨_,_,_,g1,-,-,-,g5⟩:=i3.out.I a3;injection g1 with g1
   obtain⟨b',g6,g7⟩:=g5 (fun h=>by have:=congrArg List.length h;rw[zO]at this;simp at this;omega);rw[<-g1]at g6;injection g6 with g6
   injection g6 with g6
   rw[g6];exact g7⟩
  have p9:qS (∀W,Below w6.heap.size w6 W->Calls Tryz.prog 119 #[.slice (some ⟨Y,(n+1)*2,none⟩) (m-(n+1)) (rc-(n+1)),.agg #[.bool s1,.slice a1 l1 k1]] W fun e w'=>∃v,e= .returned v/\zDE w' v (zAZ C fun t=>prQ (Rat.divInt (S.E (k+i) (n+1+t)) (S.E (k+i) n)))/\Below W.heap.size W w'):=⟨fun W hW=>by
   rw[b8.out,show m-(n+1)=C by omega];refine(zNQ (e:=e) Y (n+1) C (rc-(n+1)) _ (fun t=>S.E (k+i) (n+1+t)) _ z W (r5.out.I hW) (fun t ht=>qU oM) (r9.out.ext (lx hW)) b5 oM (by rw[<-b8.out];exact b7.out.2.2.2 (k+i) oM n oM) (fun t ht=>b7.out.2.2.2 (k+i) oM _ oM) oM).mono ?_;rintro e' w' ⟨g,rfl,-,hp,U⟩;exact⟨_,rfl,hp.prs (zU _ _) (xgf _) oM,U⟩⟩
  have x6:IntKind.i64.wrap ((n:Int)+1)=(n:Int)+1:=yB _ oM;have C5:¬ rc=n+1:=by omega
  have B6:(0:Int)<=(n:Int)+1:=by omega
  have B7:(n:Int)+1<=(m:Int):=by omega
  have t5:zAA (fun w v=>zDE w v (zAZ C fun t=>prQ (Rat.divInt (S.E (k+i) (n+1+t)) (S.E (k+i) n)))):=fun _ _ _ x h=>h.I x
  have s8:=b8.out;clear s D F G H I b8;obtain⟨s,D,F,G,H,I⟩:=d.three;go_upto_region 22 with(fail)
  refine zBK [pcD 10 [] (fun w v=>zDE w v (zAZ C fun t=>prQ (Rat.divInt (S.E (k+i) (n+1+t)) (S.E (k+i) n)))),pcD 12 [10] (fun w v=>zDE w v (zAZ C fun t=>prQ (Rat.divInt (S.E (k+i) (n+1+t)) (S.E (k+i) n))))] ?_;refine sRd ?_;refine sRc (fun f hI Gk X=>by go_simp;exact ck X (p9.out _ hI.bel)) (fun E3 _=>?_);refine sRd ?_;refine sRc (fun f hI l4 Gk X=>?_) (fun A3 _=>?_)
  .go_simp
   exact⟨X _ _ l4,zB _ _⟩
  refine sRd ?_;refine sRe ?_;intro w7 s7 l4 x4;go_wp2;refine bodyPost_ret (zF7 rfl _ _ _) rfl ?_;refine⟨.inl ⟨k+i,A3,by rw[HK.out];omega,by omega,by rw[s8];exact b5,rfl,x4⟩,nx B (nx (nx U a3) s7)⟩
 obtain rfl:i=C-k:=by omega
 have c8:qS (∀a,S.pv.length<=a->a<C->S.E a n=0):=⟨fun a r h2=>hz.out a (by rw[<-HK.out];exact r) oM⟩;have B:=nx B U;have HH:=xgv (HH.out.I U);have a6:=xgv (a6.out.I U);have b6:=xgv (b6.out.I U);clear hz h0;have C3:∀W:World,(Instr.makeSlice 31 (.int .i64 (n:Int)) (.int .i64 (n:Int))).run Tryz.prog W= .ok (.slice (some ⟨W.heap.size,0,none⟩) (n) (n)) (W.alloc (.cells (zeroCells (n)) tI)):=fun W=>mkI (n:Int) n rfl oM W
 have t5:=zF0 ws.heap.size n;have C1:zAA (zRQ ws.heap.size n fun _=>(0,1)):=fun _ _ _ x ⟨g,r,h2,h3⟩=>⟨g,r,h2,h3.I x⟩
 have D4:=d.lt;go_upto_region 24 with(fail)
 refine zBK [pcD 2 [] (zRT ws.heap.size n),pcI 3 (1),pcD 4 [2,3] (zRQ ws.heap.size n fun _=>(0,1)),pcD 5 [4] (zRQ ws.heap.size n fun _=>(0,1))] ?_;refine sRd ?_;refine sRc (fun f hI Gk X=>?_) (fun E4 _=>?_)
 .go_simp
  exact⟨X _ _ (zFX hI.bel.size),(zB _ _).alloc (xgf _) _⟩
 refine sRc (fun f hI Gk X=>by go_simp;exact ck X (zDt 1 _ dE dE)) (fun A4 _=>?_);refine sRc (fun f hI g3 g4 Gk X=>?_) (fun E5 _=>?_)
 .obtain⟨zb,rfl,-,x8⟩:=g3
  go_simp;refine(zWe zb n A4 f x8 g4 oM).mono ?_;rintro e' wa ⟨g,rfl,hg,hp,f0⟩;exact⟨_,rfl,X _ _ ⟨g,rfl,zF hI.bel.size hg,hp⟩,f0⟩
 refine sRc (fun f hI g8 Gk X=>?_) (fun E6 _=>?_)
 .go_simp
  exact⟨X _ _ g8,zB _ _⟩
 refine sRe ?_;intro w8 k5 g3 g4 g8 l8;obtain⟨g,rfl,hg,hp⟩:=(show zRQ _ _ _ _ _ from l8);have l0:zCB w8 g (zAZ n fun t=>prQ (zIk S n 0 t)):=hp;have d5:=(a6.out.I k5).cell 4;clear hp g3 g4 g8 l8 s D F G H I;go_wp2;clear d5;go_loopw [129] (fun Q wr=>∃i:Nat,i<=k/\Q= .int .i64 i/\zA5 [g] w8 wr/\zCB wr g (zAZ n fun t=>prQ (zIk S n i t))) (fun Q _=>k-(intOf Q).toNat)
 case atStart=>exact⟨0,by omega,rfl,zA5.refl _ _,l0⟩
 rename World=>wu
 clear l0;obtain⟨i,hi,rfl,N,hp⟩:=hrel;have a7:Below ws.heap.size ws wu:=Below.only k5 N (xgf _) (fun g' t0=>by simp at t0;omega);have d:=d.I a7;by_cases t3:i<k
 .obtain⟨t,ht⟩:∃t,S.pv[i]?=some t:=⟨_,xga (by rw[HK.out];exact t3)⟩
  obtain⟨l5,l6⟩:=HP.out i t ht;obtain⟨pb,m0,A2,rfl,n1,n2⟩:=(b6.out.I a7).2 (by intro e;rw[e]at ht;simp at ht);have pc:wu.cell? ⟨pb,m0+i,none⟩=some (.int .i64 t):=(cell_of_row wu pb (m0+i) A2 tNn _ n1).trans (n2 i t ht);obtain⟨ro,rc,q1,q2,a8⟩:=(HH.out.I a7).row (i:=i) oM;have nm:n<m:=by have:=V.out;omega
  obtain⟨Y,z,s1,a1,l1,k1,rfl,zl,O,x1,x2,a4⟩:=a8.cell (k:=n) (by rw[zO];exact nm);obtain⟨D9,u,s2,a2,l2,k2,e2,-,d4,y1,y2,l7⟩:=a8.cell (k:=t) (by rw[zO];omega);injection e2 with e2
  injection e2 with e2
  subst e2;rw[qU nm]at O;rw[qU oM]at d4;injection O with O
  injection d4 with d4
  subst O d4;have ZV:=xgv a4;have UV:=xgv l7;obtain⟨a0,hQ⟩:∃a0:Rat,Rat.divInt (S.E i n) (S.E i t)=a0:=⟨_,rfl⟩;have p8:qS (∀(v1 v2:Value) (w:World),yA w v1 (S.E i n)->yA w v2 (S.E i t)->Calls Tryz.prog 120 #[v1,v2] w fun e w'=>∃v,e= .returned v/\QOf a0 w' v/\Below w.heap.size w w'):=⟨fun v1 v2 w k1 k2=>by
   rw[<-hQ];refine(zQf v1 v2 _ _ w k1 k2 (jX (b7.out.2.2.2 i oM n oM) oM) (jX (b7.out.2.2.2 i oM t oM) oM) l6).mono ?_;rintro e' w' ⟨v,rfl,r,h2⟩;exact⟨_,rfl,⟨v,rfl,r⟩,h2⟩⟩
  have r4:qS (∀a,prQ (zIk S n (i+1) a)=if a=t then prQ a0 else prQ (zIk S n i a)):=⟨fun a=>by
   show prQ (if S.pv[i]?=some a then(S.E i n:Rat)/S.E i a else zIk S n i a)=_;rw[ht];by_cases e:a=t
   .subst e
    rw[zC rfl,zC rfl,<-hQ,Rat.divInt_eq_div]
   rw[zA (fun h=>e (by injection h with h;exact h.symm)),zA e]⟩
  have d1:=(a6.out.I a7).cell 0;have D5:=d.lt;have D6:=hp.lt;have A0:=(a6.out.I a7).lt;have D7:=(HH.out.I a7).lt;have B8:i<C:=by omega
  have C7:t<m:=by omega
  have t6:zAA (QOf a0):=fun _ _ _ x ⟨v,r,h2⟩=>⟨v,r,h2.I x⟩
  have t7:zAA (fun _ _=>True):=fun _ _ _ _ _=>trivial
  have t9:=jK a0;obtain⟨s,D,F,G,H,I⟩:=d.three;clear a4 l7 a8 hQ ht l6 n1 n2;go_upto_region 28 with(fail)
  refine zBJ rfl (RAS ([]) 99 wu _ [⟨0,135,fun _ v=>v= .slice (some ⟨g,0,none⟩) n n⟩,⟨1,136,fun _ v=>v= .int .i64 t⟩,⟨2,137,fun _ v=>v= .pointer (some ⟨J,0,none⟩)⟩,⟨3,138,fun _ v=>v= .pointer (some ⟨J,0,none⟩)⟩,⟨4,139,fun _ v=>v= .pointer (some ⟨J,0,none⟩)⟩,⟨5,140,fun _ v=>v= .pointer (some ⟨J,0,none⟩)⟩,⟨6,141,fun _ v=>v= .slice (some ⟨bh,0,none⟩) C b0⟩,⟨7,142,fun _ v=>v= .int .i64 i⟩,⟨8,143,fun _ v=>v= .pointer (some ⟨bh,i,none⟩)⟩,⟨9,144,fun _ v=>v= .slice (some ⟨Y,0,none⟩) m rc⟩,⟨10,145,fun _ v=>v= .pointer (some ⟨w.heap.size,0,none⟩)⟩,⟨11,146,fun _ v=>v= .int .i64 n⟩,⟨12,147,fun _ v=>v= .pointer (some ⟨Y,n*2,none⟩)⟩,⟨13,148,fun _ v=>v= .agg #[.bool s1,.slice a1 l1 k1]⟩,⟨14,149,fun _ v=>v= .pointer (some ⟨J,0,none⟩)⟩,⟨15,150,fun _ v=>v= .pointer (some ⟨J,0,none⟩)⟩,⟨16,151,fun _ v=>v= .pointer (some ⟨J,0,none⟩)⟩,⟨17,152,fun _ v=>v= .pointer (some ⟨J,0,none⟩)⟩,⟨18,153,fun _ v=>v= .slice (some ⟨bh,0,none⟩) C b0⟩,⟨19,154,fun _ v=>v= .int .i64 i⟩,⟨20,155,fun _ v=>v= .pointer (some ⟨bh,i,none⟩)⟩,⟨21,156,fun _ v=>v= .slice (some ⟨Y,0,none⟩) m rc⟩,⟨22,157,fun _ v=>v= .int .i64 t⟩,⟨23,158,fun _ v=>v= .pointer (some ⟨Y,t*2,none⟩)⟩,⟨24,159,fun _ v=>v= .agg #[.bool s2,.slice a2 l2 k2]⟩,⟨25,160,QOf a0⟩,⟨26,134,QOf a0⟩,⟨27,161,fun w v=>zAx w v a0⟩,⟨28,162,fun _ v=>v= .int .i64 0⟩,⟨29,163,fun _ v=>v= .pointer (some ⟨g,t*4,none⟩)⟩] 30 (zUg 163 161)) kR (zBt (zCK kR (by repeat' (first|exact zBU _|exact zBs _|exact zAl _ _ _|exact zAX _|assumption|refine xgm.2 ⟨?_,?_⟩|exact xgn _)))) ?fin6 ?steps6
  case steps6=>
   refine⟨?_,?_,?_,?_,?_,?_,?_,?_,?_,?_,?_,?_,?_,?_,?_,?_,?_,?_,?_,?_,?_,?_,?_,?_,?_,?_,?_,?_,?_,?_,?_,trivial⟩
   .refine zV.liftA kR dE ?_
    intro L T f l hd o hI K hK;try refine zD rfl ?_
    have zt:T[15]?=some (.slice (some ⟨g,0,none⟩) n n):=hI.keep 15 sI;go_simp;exact hK _ _ (hI.y mm0 rfl)
   .refine zV.liftA kR dE ?_
    intro L T f l hd o hI K hK;try refine zD rfl ?_
    have zt:T[17]?=some (.int .i64 t):=hI.keep 17 sI;go_simp;exact hK _ _ (hI.y mm1 rfl)
   .refine zV.liftA kR dE ?_
    intro L T f l hd o hI K hK;try refine zD rfl ?_
    have zt:T[12]?=some (.pointer (some ⟨J,0,none⟩)):=hI.keep 12 sI;go_simp;exact hK _ _ (hI.y mm2 rfl)
   .refine zV.liftA kR dE ?_
    intro L T f l hd o hI K hK;try refine zD rfl ?_
    obtain⟨_,I7,rfl⟩:=hI.v mm2 (hd 2);go_simp;exact hK _ _ (hI.y mm3 rfl)
   .refine zV.liftA kR dE ?_
    intro L T f l hd o hI K hK;try refine zD rfl ?_
    obtain⟨_,J4,rfl⟩:=hI.v mm3 (hd 3);go_simp;exact hK _ _ (hI.y mm4 rfl)
   .refine zV.liftA kR dE ?_
    intro L T f l hd o hI K hK;try refine zD rfl ?_
    obtain⟨_,J5,rfl⟩:=hI.v mm4 (hd 4);go_simp;exact hK _ _ (hI.y mm5 rfl)
   .refine zV.liftA kR dE ?_
    intro L T f l hd o hI K hK;try refine zD rfl ?_
    obtain⟨_,J6,rfl⟩:=hI.v mm5 (hd 5);have b3:=hI.cell (sI) oM d1;go_simp;exact hK _ _ (hI.y mm6 rfl)
   .refine zV.liftA kR dE ?_
    intro L T f l hd o hI K hK;try refine zD rfl ?_
    have zt:T[16]?=some (.int .i64 i):=hI.keep 16 sI;go_simp;exact hK _ _ (hI.y mm7 rfl)
   .refine zV.liftA kR dE ?_
    intro L T f l hd o hI K hK;try refine zD rfl ?_
    obtain⟨_,J7,rfl⟩:=hI.v mm6 (hd 6);obtain⟨_,J8,rfl⟩:=hI.v mm7 (hd 7);go_simp;exact hK _ _ (hI.y mm8 rfl)
   .refine zV.liftA kR dE ?_
    intro L T f l hd o hI K hK;try refine zD rfl ?_
    obtain⟨_,J9,rfl⟩:=hI.v mm8 (hd 8);have b3:=hI.cell (sI) oM q1;go_simp;exact hK _ _ (hI.y mm9 rfl)
   .refine zV.liftA kR dE ?_
    intro L T f l hd o hI K hK;try refine zD rfl ?_
    have zt:T[2]?=some (.pointer (some ⟨w.heap.size,0,none⟩)):=hI.keep 2 sI;go_simp;exact hK _ _ (hI.y zHa rfl)
   .refine zV.liftA kR dE ?_
    intro L T f l hd o hI K hK;try refine zD rfl ?_
    obtain⟨_,H7,rfl⟩:=hI.v zHa (hd 10);have b3:=hI.cell (sI) oM s;go_simp;exact hK _ _ (hI.y zHH rfl)
   .refine zV.liftA kR dE ?_
    intro L T f l hd o hI K hK;try refine zD rfl ?_
    obtain⟨_,K0,rfl⟩:=hI.v mm9 (hd 9);obtain⟨_,H8,rfl⟩:=hI.v zHH (hd 11);go_simp;exact hK _ _ (hI.y zHT rfl)
   .refine zV.liftA kR dE ?_
    intro L T f l hd o hI K hK;try refine zD rfl ?_
    obtain⟨_,H9,rfl⟩:=hI.v zHT (hd 12);have b3:=hI.cell (sI) oM x1;have s0:=hI.cell (sI) oM x2;go_simp;exact hK _ _ (hI.y zIh rfl)
   .refine zV.liftA kR dE ?_
    intro L T f l hd o hI K hK;try refine zD rfl ?_
    have zt:T[12]?=some (.pointer (some ⟨J,0,none⟩)):=hI.keep 12 sI;go_simp;exact hK _ _ (hI.y zKJ rfl)
   .refine zV.liftA kR dE ?_
    intro L T f l hd o hI K hK;try refine zD rfl ?_
    obtain⟨_,I1,rfl⟩:=hI.v zKJ (hd 14);go_simp;exact hK _ _ (hI.y zJ3 rfl)
   .refine zV.liftA kR dE ?_
    intro L T f l hd o hI K hK;try refine zD rfl ?_
    obtain⟨_,I2,rfl⟩:=hI.v zJ3 (hd 15);go_simp;exact hK _ _ (hI.y zLe rfl)
   .refine zV.liftA kR dE ?_
    intro L T f l hd o hI K hK;try refine zD rfl ?_
    obtain⟨_,I3,rfl⟩:=hI.v zLe (hd 16);go_simp;exact hK _ _ (hI.y zLf rfl)
   .refine zV.liftA kR dE ?_
    intro L T f l hd o hI K hK;try refine zD rfl ?_
    obtain⟨_,I4,rfl⟩:=hI.v zLf (hd 17);have b3:=hI.cell (sI) oM d1;go_simp;exact hK _ _ (hI.y zLg rfl)
   .refine zV.liftA kR dE ?_
    intro L T f l hd o hI K hK;try refine zD rfl ?_
    have zt:T[16]?=some (.int .i64 i):=hI.keep 16 sI;go_simp;exact hK _ _ (hI.y zLh rfl)
   .refine zV.liftA kR dE ?_
    intro L T f l hd o hI K hK;try refine zD rfl ?_
    obtain⟨_,I5,rfl⟩:=hI.v zLg (hd 18);obtain⟨_,I6,rfl⟩:=hI.v zLh (hd 19);go_simp;exact hK _ _ (hI.y zLi rfl)
   .refine zV.liftA kR dE ?_
    intro L T f l hd o hI K hK;try refine zD rfl ?_
    obtain⟨_,I8,rfl⟩:=hI.v zLi (hd 20);have b3:=hI.cell (sI) oM q1;go_simp;exact hK _ _ (hI.y zLj rfl)
   .refine zV.liftA kR dE ?_
    intro L T f l hd o hI K hK;try refine zD rfl ?_
    have zt:T[17]?=some (.int .i64 t):=hI.keep 17 sI;go_simp;exact hK _ _ (hI.y zLk rfl)
   .refine zV.liftA kR dE ?_
    intro L T f l hd o hI K hK;try refine zD rfl ?_
    obtain⟨_,I9,rfl⟩:=hI.v zLj (hd 21);obtain⟨_,J0,rfl⟩:=hI.v zLk (hd 22);go_simp;exact hK _ _ (hI.y zLl rfl)
   .refine zV.liftA kR dE ?_
    intro L T f l hd o hI K hK;try refine zD rfl ?_
    obtain⟨_,J1,rfl⟩:=hI.v zLl (hd 23);have b3:=hI.cell (sI) oM y1;have s0:=hI.cell (sI) oM y2;go_simp;exact hK _ _ (hI.y zLm rfl)
   .refine zV.liftA kR dE ?_
    intro L T f l hd o hI K hK;try refine zD rfl ?_
    obtain⟨_,I0,rfl⟩:=hI.v zIh (hd 13);obtain⟨_,J2,rfl⟩:=hI.v zLm (hd 24);go_simp;refine(p8.out _ _ _ (ZV.out.ext hI.onl.lext) (UV.out.ext hI.onl.lext)).mono ?_;rintro e wa ⟨v,rfl,hv,f0⟩;exact hK _ _ ((hI.world f0).y zLn hv)
   .refine zV.liftA kR dE ?_
    intro L T f l hd o hI K hK;try refine zD rfl ?_
    obtain⟨E0,J3,s3⟩:=hI.v zLn (hd 25);go_simp;exact hK _ _ (hI.y zNI s3)
   .refine zV.liftA kR dE ?_
    intro L T f l hd o hI K hK;try refine zD rfl ?_
    obtain⟨E1,B0,s4⟩:=hI.v zNI (hd 26);obtain⟨qq,rfl,hq⟩:=s4;go_simp;exact hK _ _ (hI.y zOF hq)
   .intro L T f l hd o hI K hK
    try refine zD rfl ?_
    obtain⟨w0,hJ,-,-⟩:=id hI;obtain⟨A9,B0,g9⟩:=hJ.val _ zNI (hd 26);obtain⟨qq,rfl,hq⟩:QOf a0 w0 A9:=g9;go_simp;exact hK _ _ (hI.pure ⟨28,162,_⟩ zO0 rfl (fun _=>rfl) dE (fun _=>zNV dE dE))
   .refine zV.liftA kR dE ?_
    intro L T f l hd o hI K hK;try refine zD rfl ?_
    obtain⟨_,H5,rfl⟩:=hI.v mm0 (hd 0);obtain⟨_,H6,rfl⟩:=hI.v mm1 (hd 1);go_simp;exact hK _ _ (hI.y zO1 rfl)
   intro L T f l hd o hI K hK;try refine zD rfl ?_
   replace hI:=hI.here l;obtain⟨_,B2,rfl⟩:=hI.v zO1 (hd 29);obtain⟨H4,B1,d7⟩:=hI.v zOF (hd 27);obtain⟨t1,ta,tl,tc,t2,tb,tm,td,rfl,-,-⟩:=id d7;obtain⟨_,_,_,_,_,_,_,_,v1,v2,v3,v4,v5,-⟩:=(hp.only hI.onl sI).cell (zBP l5);have v6:=v5 (t*4);have v7:=v5 (t*4+1);have v8:=v5 (t*4+2);have v9:=v5 (t*4+3);clear v5;go_simp;exact hK _ _ (zBu hI l (by repeat' (first|exact xgn _|refine xgm.2 ⟨by dsimp only;decide,?_⟩)) dE (zJ9 B2 B1).symm)
  intro T A8 hJ;obtain⟨w9,hI,-,d3⟩:=hJ;replace d3:=d3 kR;obtain⟨E7,q0,rfl⟩:=hI.v mm0 rfl;obtain⟨E8,q1,rfl⟩:=hI.v mm1 rfl;obtain⟨F9,q2,rfl⟩:=hI.v mm2 rfl;obtain⟨G7,q3,rfl⟩:=hI.v mm3 rfl;obtain⟨G8,q4,rfl⟩:=hI.v mm4 rfl;obtain⟨G9,q5,rfl⟩:=hI.v mm5 rfl;obtain⟨H0,q6,rfl⟩:=hI.v mm6 rfl;obtain⟨H1,q7,rfl⟩:=hI.v mm7 rfl;obtain⟨H2,q8,rfl⟩:=hI.v mm8 rfl;obtain⟨H3,q9,rfl⟩:=hI.v mm9 rfl;obtain⟨E9,m5,rfl⟩:=hI.v zHa rfl;obtain⟨F0,m6,rfl⟩:=hI.v zHH rfl;obtain⟨F1,m7,rfl⟩:=hI.v zHT rfl;obtain⟨F2,m8,rfl⟩:=hI.v zIh rfl;obtain⟨F3,m9,rfl⟩:=hI.v zKJ rfl;obtain⟨F4,n0,rfl⟩:=hI.v zJ3 rfl;obtain⟨F5,n3,rfl⟩:=hI.v zLe rfl;obtain⟨F6,n4,rfl⟩:=hI.v zLf rfl;obtain⟨F7,n5,rfl⟩:=hI.v zLg rfl;obtain⟨F8,n6,rfl⟩:=hI.v zLh rfl;obtain⟨G0,n7,rfl⟩:=hI.v zLi rfl;obtain⟨G1,n8,rfl⟩:=hI.v zLj rfl;obtain⟨G2,n9,rfl⟩:=hI.v zLk rfl;obtain⟨G3,o0,rfl⟩:=hI.v zLl rfl;obtain⟨G4,o5,rfl⟩:=hI.v zLm rfl;obtain⟨A5,o6,x7⟩:=hI.v zLn rfl;obtain⟨A6,o7,g9⟩:=hI.v zNI rfl;obtain⟨A7,o8,d7⟩:=hI.v zOF rfl;obtain⟨G5,o9,rfl⟩:=hI.v zO0 rfl;obtain⟨G6,p0,rfl⟩:=hI.v zO1 rfl;have hT:=zCW [(135,.slice (some ⟨g,0,none⟩) n n),(136,.int .i64 t),(137,.pointer (some ⟨J,0,none⟩)),(138,.pointer (some ⟨J,0,none⟩)),(139,.pointer (some ⟨J,0,none⟩)),(140,.pointer (some ⟨J,0,none⟩)),(141,.slice (some ⟨bh,0,none⟩) C b0),(142,.int .i64 i),(143,.pointer (some ⟨bh,i,none⟩)),(144,.slice (some ⟨Y,0,none⟩) m rc),(145,.pointer (some ⟨w.heap.size,0,none⟩)),(146,.int .i64 n),(147,.pointer (some ⟨Y,n*2,none⟩)),(148,.agg #[.bool s1,.slice a1 l1 k1]),(149,.pointer (some ⟨J,0,none⟩)),(150,.pointer (some ⟨J,0,none⟩)),(151,.pointer (some ⟨J,0,none⟩)),(152,.pointer (some ⟨J,0,none⟩)),(153,.slice (some ⟨bh,0,none⟩) C b0),(154,.int .i64 i),(155,.pointer (some ⟨bh,i,none⟩)),(156,.slice (some ⟨Y,0,none⟩) m rc),(157,.int .i64 t),(158,.pointer (some ⟨Y,t*2,none⟩)),(159,.agg #[.bool s2,.slice a2 l2 k2]),(160,A5),(134,A6),(161,A7),(162,.int .i64 0),(163,.pointer (some ⟨g,t*4,none⟩))]
   (fun j hj=>hI.keep j (by simp only[xgm]at hj ⊢;simp[hj]))
   (by simp only[xgm];simp[q0,q1,q2,q3,q4,q5,q6,q7,q8,q9,m5,m6,m7,m8,m9,n0,n3,n4,n5,n6,n7,n8,n9,o0,o5,o6,o7,o8,o9,p0]) hI.size
  have k9:=hI.onl;clear hI;simp only[List.foldl_cons,List.foldl_nil,xgh,xgi,xgj,ptr]at hT;subst hT;clear q0 q1 q2 q3 q4 q5 q6 q7 q8 q9 m5 m6 m7 m8 m9 n0 n3 n4 n5 n6 n7 n8 n9 o0 o5 o6 o7 o8 o9 p0;have k6:=zHb k9;obtain⟨t1,ta,tl,tc,t2,tb,tm,td,rfl,i5,i6⟩:=id (show zAx _ _ _ from d7);have f9:=d3.trans (zJ9 rfl rfl);have x0:=hp.I k6;have P:=x0.set (k:=t) (p:=prQ a0) (by rw[zU];exact l5) i5 i6;rw[zHW,zBL (g:=fun a=>prQ (zIk S n (i+1) a)) fun a _=>(r4.out a).symm]at P;have w3:zA5 [g] w9 A8:=by
   rw[f9];exact⟨zA8 (zB _ _) (zG _) _ _ _ _ _,P.2,fun k' _ t4=>zFS _ _ _ _ _ _ _ _ (by simpa using t4)⟩
  rw[<-f9]at P;have s9:=(N.trans (zA5.of [g] k6)).trans w3;have x5:=P.1;clear P f9 d3 x7 g9 d7 k9 i5 i6 t6 t7 t9;go_wp2;go_roundw
  case rel=>exact⟨i+1,by omega,by simp,s9,x5⟩
  case measure=>simp[intOf];omega
 obtain rfl:i=k:=by omega
 have x3:=hp.prs (zU _ _) (xgf n) (by omega:n<=9223372036854775807);have s5:=nx B a7;go_wp2;refine bodyPost_ret (zF7 (fn:=Tryz.f77) (a:=4) (b:=5) (c:=6) rfl _ _ _) rfl ?_;exact⟨.inr ⟨_,c8.out,rfl,by rw[HK.out];exact x3⟩,s5⟩
def zDY(n:Nat)(a:Nat->Rat):Nat:=zBO (fun j=>decide (a j≠0)) 0 n
theorem zPh(n:Nat)(a:Nat->Rat):zDY n a<=n:=by have:=(zDN (fun j=>decide (a j≠0)) 0 n).2;unfold zDY;omega
theorem zE0{a:Nat->Rat}(h:zDY n a<n):a (zDY n a)≠0:=by
 have:=zDM (fun j=>decide (a j≠0)) 0 n (by unfold zDY at h;omega);unfold zDY;simpa using this
theorem zRh{a:Nat->Rat}(h:j<zDY n a):a j=0:=by
 have:=zEb (fun j=>decide (a j≠0)) 0 n j oM h;simpa using this
theorem zH3{a:Nat->Rat}(h:¬ zDY n a<n)(b:j<n):a j=0:=zRh (n:=n) (by have:=zPh n a;omega)
def rd1(n:Nat)(b a:Nat->Rat):Nat->Rat:=fun j=>a j-a (zDY n b)/b (zDY n b)*b j
def rdB(n:Nat)(B:Nat->Nat->Rat):Nat->(Nat->Rat)->Nat->Rat
 |0,a=>a
 |m+1,a=>rd1 n (B m) (rdB n B m a)
structure EcB(n m:Nat)(B:Nat->Nat->Rat):Prop where
 piv:∀i,i<m->zDY n (B i)<n
 zero:∀i j,i<j->j<m->B j (zDY n (B i))=0
theorem zSZ{B:Nat->Nat->Rat}(h:EcB n m B)(a:Nat->Rat):∀k,k<=m->∀i,i<k->rdB n B k a (zDY n (B i))=0:=by
 intro k;induction k with
 |zero=>intro _ i b;omega
 | succ k c=>
  intro d i b;show rdB n B k a _-_/_*_=0;by_cases e:i=k
  .subst e
   have:=zE0 (h.piv i oM);grind
  rw[h.zero i k oM oM,c oM i oM];grind
theorem zFR(B:Nat->Nat->Rat)(a:Nat->Rat):∀m,∃l:Nat->Rat,∀j,a j=rdB n B m a j+zAw m fun k=>l k*B k j:=by
 intro m;induction m with
 |zero=>exact⟨fun _=>0,fun j=>by show a j=a j+0;grind⟩
 |succ m c=>
  obtain⟨l,b⟩:=c;refine⟨fun k=>if k=m then rdB n B m a (zDY n (B m))/B m (zDY n (B m))else l k,fun j=>?_⟩;show _=(rdB n B m a j-_/_*B m j)+(zAw m _+_);rw[qD (g:=fun k=>l k*B k j) fun k d=>by show(if k=m then _ else _)*_=_;rw[zA oM]];have:=b j;simp only[if_true];grind
def upB(B:Nat->Nat->Rat)(m:Nat)(r:Nat->Rat):Nat->Nat->Rat:=fun i=>if i=m then r else B i
theorem zEP{B:Nat->Nat->Rat}{r:Nat->Rat}(h:i<m):upB B m r i=B i:=zA oM
theorem zFo{B:Nat->Nat->Rat}{r:Nat->Rat}:upB B m r m=r:=zC rfl
theorem EcB.push{B:Nat->Nat->Rat}(h:EcB n m B){a:Nat->Rat}(c:zDY n (rdB n B m a)<n):EcB n (m+1) (upB B m (rdB n B m a)):=by
 refine⟨fun i d=>?_,fun i j b f=>?_⟩
 .by_cases e:i=m
  .subst e;rw[zFo];exact c
  rw[zEP oM];exact h.piv i oM
 rw[zEP (i:=i) oM];by_cases e:j=m
 .subst e;rw[zFo];exact zSZ h a j (xgf _) i b
 rw[zEP oM];exact h.zero i j b oM
def zGd(n m:Nat)(v:Nat->Nat->Rat):Prop:=∀l:Nat->Rat,(∀j,j<n->(zAw m fun k=>l k*v k j)=0)->∀k,k<m->l k=0
def Cmb(n m:Nat)(v:Nat->Nat->Rat)(x:Nat->Rat):Prop:=∃l:Nat->Rat,∀j,j<n->x j=zAw m fun k=>l k*v k j
theorem EcB.ind{B:Nat->Nat->Rat}(h:EcB n m B):zGd n m B:=by
 intro l d k;induction k using Nat.strongRecOn with
 | ind k f=>
  intro a;have b:=d _ (h.piv k a);rw[zDa (k:=k) a fun i c e=>?_]at b
  .have:=zE0 (h.piv k a)
   exact(Rat.mul_eq_zero.1 b).resolve_right this
  rcases jG e with g|g
  rw[f i g c];grind;rw[h.zero k i g c];grind
theorem Cmb.trans{v u:Nat->Nat->Rat}{x:Nat->Rat}(h:Cmb n m v x)(hv:∀k,k<m->Cmb n r u (v k)):Cmb n r u x:=by
 obtain⟨l,i⟩:=h;obtain⟨f,d⟩:∃f:Nat->Nat->Rat,∀k,k<m->∀j,j<n->v k j=zAw r fun t=>f k t*u t j:=by
  have b:∀k,∃g:Nat->Rat,k<m->∀j,j<n->v k j=zAw r fun t=>g t*u t j:=fun k=>by
   by_cases a:k<m
   .obtain⟨g,e⟩:=hv k a
    exact⟨g,fun _=>e⟩
   exact⟨fun _=>0,fun h=>absurd h a⟩
  exact⟨fun k=>(b k).choose,fun k=>(b k).choose_spec⟩
 refine⟨fun t=>zAw m fun k=>l k*f k t,fun j c=>?_⟩;rw[i j c,qD (g:=fun k=>zAw r fun t=>l k*(f k t*u t j)) fun k a=>by rw[d k a j c,zA4],zEN];exact qD fun t o=>by
  rw[Rat.mul_comm,<-zA4];exact qD fun k a=>by grind
theorem Cmb.self{v:Nat->Nat->Rat}(a:k<m):Cmb n m v (v k):=⟨fun t=>if t=k then 1 else 0,fun j _=>by
 rw[zDa (k:=k) a fun i _ b=>by dsimp only;rw[zA b];grind];dsimp only;rw[zC rfl];grind⟩
theorem Cmb.more{v:Nat->Nat->Rat}{x:Nat->Rat}(h:Cmb n m v x)(b:m<=r):Cmb n r v x:=h.trans fun k a=>Cmb.self oM
theorem Cmb.add{v:Nat->Nat->Rat}{x y z:Nat->Rat}(a b:Rat)(h:Cmb n m v x)(g:Cmb n m v y)(i:∀j,j<n->z j=a*x j+b*y j):Cmb n m v z:=by
 obtain⟨l,e⟩:=h;obtain⟨f,d⟩:=g;refine⟨fun k=>a*l k+b*f k,fun j c=>?_⟩;rw[i j c,e j c,d j c,<-zEn];exact qD fun k _=>by grind
structure zHS(C i m:Nat)(A:Nat->Nat->Rat)(σ:Nat->Nat)(B:Nat->Nat->Rat):Prop where
 ec:EcB C m B
 lt:∀k,k<m->σ k<i
 inc:∀k l,k<l->l<m->σ k<σ l
 tri:∀k,k<m->∃l:Nat->Rat,∀j,A (σ k) j=B k j+zAw k fun t=>l t*B t j
 row:∀t,t<i->Cmb C m B (A t)
theorem zHS.start(C:Nat)(A:Nat->Nat->Rat)(σ:Nat->Nat)(B:Nat->Nat->Rat):zHS C 0 0 A σ B:=
 ⟨⟨fun _ h=>by omega,fun _ _ _ h=>by omega⟩,fun _ h=>by omega,fun _ _ _ h=>by omega,fun _ h=>by omega,fun _ h=>by omega⟩
theorem Cmb.upB{B:Nat->Nat->Rat}{x y:Nat->Rat}(h:Cmb n r B x)(d:r<=m):Cmb n r (upB B m y) x:=by
 obtain⟨l,b⟩:=h;exact⟨l,fun j a=>by rw[b j a];exact qD fun k c=>by rw[zEP oM]⟩
theorem zHS.push{A B:Nat->Nat->Rat}(h:zHS C i m A σ B)(o:zDY C (rdB C B m (A i))<C):
  zHS C (i+1) (m+1) A (fun k=>if k=m then i else σ k) (Go.Proofs.YtniiekppgdkknaaGreat.upB B m (rdB C B m (A i))):=by
 refine⟨h.ec.push o,fun k b=>?_,fun k l d a=>?_,fun k b=>?_,fun t c=>?_⟩
 .split
  .omega
  exact Nat.lt_succ_of_lt (h.lt k oM)
 .rw[zA oM]
  split;exact h.lt k oM;exact h.inc k l d oM
 .by_cases e:k=m
  .subst e
   obtain⟨l,a⟩:=zFR (n:=C) B (A i) k;refine⟨l,fun j=>?_⟩;rw[zC rfl,zFo,a j];exact congrArg _ (qD fun t c=>by rw[zEP c])
  obtain⟨l,a⟩:=h.tri k oM;refine⟨l,fun j=>?_⟩;rw[zA e,zEP oM,a j];exact congrArg _ (qD fun t c=>by rw[zEP oM])
 by_cases e:t=i
 .subst e
  obtain⟨l,a⟩:=zFR (n:=C) B (A t) m;refine⟨fun k=>if k=m then 1 else l k,fun j p=>?_⟩;show _=zAw m _+_;rw[a j,qD (f:=fun k=>(if k=m then 1 else l k)*Go.Proofs.YtniiekppgdkknaaGreat.upB B m (rdB C B m (A t)) k j) (g:=fun k=>l k*B k j) fun k b=>by rw[zA oM,zEP b]];dsimp only;rw[zC rfl,zFo];grind
 exact((h.row t oM).upB (xgf m)).more oM
theorem zHS.skip{A B:Nat->Nat->Rat}(h:zHS C i m A σ B)(d:¬ zDY C (rdB C B m (A i))<C):zHS C (i+1) m A σ B:=by
 refine⟨h.ec,fun k b=>Nat.lt_succ_of_lt (h.lt k b),h.inc,h.tri,fun t f=>?_⟩;by_cases e:t=i
 .subst e
  obtain⟨l,c⟩:=zFR (n:=C) B (A t) m;exact⟨l,fun j a=>by rw[c j,zH3 d a];grind⟩
 exact h.row t oM
theorem zHS.base{A B:Nat->Nat->Rat}(h:zHS C i m A σ B):∀k,k<m->Cmb C (k+1) (fun t=>A (σ t)) (B k):=by
 intro k;induction k using Nat.strongRecOn with
 |ind k d=>
  intro a;obtain⟨l,b⟩:=h.tri k a;refine Cmb.add 1 (-1) (Cmb.self (v:=fun t=>A (σ t)) (show k<k+1 by omega)) (y:=fun j=>zAw k fun t=>l t*B t j) ?_ fun j e=>by have:=b j;grind
  exact Cmb.trans (v:=B) ⟨l,fun j _=>rfl⟩ fun t c=>(d t c oM).more oM
theorem zHS.span{A B:Nat->Nat->Rat}(h:zHS C i m A σ B):∀t,t<i->Cmb C m (fun t=>A (σ t)) (A t):=fun t b=>
 (h.row t b).trans fun k a=>(h.base k a).more oM
theorem zHS.tris{A B:Nat->Nat->Rat}(h:zHS C i m A σ B)(a:k<m):Cmb C (k+1) B (A (σ k)):=by
 obtain⟨l,b⟩:=h.tri k a;refine Cmb.add 1 1 (Cmb.self (v:=B) (show k<k+1 by omega)) (y:=fun j=>zAw k fun t=>l t*B t j) ?_ fun j c=>by have:=b j;grind
 exact Cmb.more ⟨l,fun j _=>rfl⟩ oM
theorem EcB.first{B:Nat->Nat->Rat}(h:EcB n m B)(d:k<=m):EcB n k B:=⟨fun i b=>h.piv i oM,fun i j a c=>h.zero i j a oM⟩
theorem zGd.notin{B:Nat->Nat->Rat}(h:zGd n (k+1) B)(c:Cmb n k B (B k)):False:=by
 obtain⟨g,a⟩:=c;have:=h (fun t=>if t=k then 1 else-g t) (fun j b=>by
  show zAw k _+_=0;rw[qD (f:=fun t=>(if t=k then 1 else-g t)*B t j) (g:=fun t=>(-1)*(g t*B t j)) fun t d=>by rw[zA oM];grind,zA4,<-a j b];dsimp only;rw[zC rfl];grind) k oM
 simp only[if_true]at this;exact absurd this dE
theorem zHS.ind{A B:Nat->Nat->Rat}(h:zHS C i m A σ B):zGd C m fun t=>A (σ t):=by
 intro l w;have z:∀d,d<=m->∀k,m-d<=k->k<m->l k=0:=by
  intro d;induction d with
  |zero=>intro _ k s a;omega
  | succ d o=>
   intro hd k s a;by_cases e:m-d<=k
   .exact o oM k e a
   by_cases x:l k=0
   .exact x
   exfalso;have p:Cmb C k (fun t=>A (σ t)) (A (σ k)):=⟨fun t=>-1/l k*l t,fun j c=>by
    have b:=w j c;have r:(zAw m fun t=>l t*A (σ t) j)=zAw (k+1) fun t=>l t*A (σ t) j:=by
     have:m=(k+1)+(m-(k+1)):=by omega
     rw[this,zHj,zC5 (n:=m-(k+1)) fun i E=>by rw[o oM _ oM oM];grind];grind
    rw[r]at b;have D:(zAw k fun t=>l t*A (σ t) j)+l k*A (σ k) j=0:=b;rw[qD (g:=fun t=>(-1/l k)*(l t*A (σ t) j)) fun t _=>by grind,zA4];grind⟩
   have q:Cmb C k B (A (σ k)):=p.trans fun t F=>(h.tris oM).more oM
   obtain⟨f,u⟩:=h.tri k a;exact(h.ec.first (k:=k+1) oM).ind.notin (Cmb.add 1 (-1) q (y:=fun j=>zAw k fun t=>f t*B t j) ⟨f,fun j _=>rfl⟩ fun j c=>by have:=u j;grind)
 exact fun k v=>z m (xgf _) k oM v
theorem zVa:∀{n m:Nat} {f:Nat->Nat},(∀i,i<m->f i<n)->(∀i j,i<j->j<m->f i≠f j)->m<=n:=by
 intro n;induction n with
 |zero=>
  intro m f h _;refine Nat.le_of_not_lt fun c=>?_
  have:=h 0 c;omega
 | succ n p=>
  intro m f h d;by_cases e:∃i,i<m/\f i=n
  .obtain⟨i,c,e⟩:=e
   rcases m with _|m
   omega;have:=p (m:=m) (f:=fun k=>f (sk i k)) (fun k o=>by
    have r:=h (sk i k) (zMs o);have s:f (sk i k)≠f i:=by
     rcases jG (zVx i k)with g|g
     exact d _ _ g c;exact fun l=>d _ _ g (zMs o) l.symm
    omega) (fun a b t q=>by
    refine d _ _ ?_ (zMs q);unfold sk;split<;>split<;>omega)
   omega
  exact Nat.le_succ_of_le (p (fun i c=>by
   have:=h i c;have:f i≠n:=fun l=>e ⟨i,c,l⟩
   omega) d)
theorem EcB.le{B:Nat->Nat->Rat}(h:EcB n m B):m<=n:=
 zVa (f:=fun i=>zDY n (B i)) h.piv fun i j d b e=>by
  have a:=h.zero i j d b;have c:=zE0 (h.piv j b);rw[e]at a;exact c a
theorem zGd.first{v:Nat->Nat->Rat}(h:zGd n m v)(f:k<=m):zGd n k v:=fun l c i a=>by
 have:=h (fun t=>if t<k then l t else 0) (fun j b=>by
  obtain⟨d,rfl⟩:∃d,m=k+d:=⟨m-k,by omega⟩;rw[zHj,zC5 (n:=d) fun i _=>by rw[zA oM];grind,qD (g:=fun t=>l t*v t j) fun t e=>by rw[zC e],c j b];grind) i oM
 rwa[zC a]at this
theorem zGd.all{v:Nat->Nat->Rat}(h:zGd n r v):∀i,i<=r->∃B,zHS n i i v (fun k=>k) B:=by
 intro i;induction i with
 |zero=>intro _;exact⟨fun _ _=>0,zHS.start n v _ _⟩
 | succ i g=>
  intro d;obtain⟨B,a⟩:=g oM;by_cases c:zDY n (rdB n B i (v i))<n
  .have b:=a.push c
   have e:(fun k=>if k=i then i else k)=fun k=>k:=by
    funext k
    split;omega;rfl
   rw[e]at b;exact⟨_,b⟩
  exfalso;refine(h.first d).notin ?_;exact((a.skip c).row i oM).trans fun k f=>(a.base k f).more oM
theorem zGd.le{v:Nat->Nat->Rat}(h:zGd n r v):r<=n:=by
 obtain⟨B,a⟩:=h.all r (xgf _);exact a.ec.le
theorem zGd.cols{A:Nat->Nat->Rat}(hI:zGd C r fun k=>A (σ k))(m:∀k,k<r->σ k<R)(b:∀j,j<C->Cmb R s (fun l i=>A i (τ l)) fun i=>A i j):
  zGd s r fun k l=>A (σ k) (τ l):=fun l e=>hI l fun j c=>by
 obtain⟨n,h⟩:=b j c;rw[qD (g:=fun k=>zAw s fun q=>n q*(l k*A (σ k) (τ q))) fun k d=>by
  have a:=h _ (m k d);dsimp only at a ⊢
  rw[a,<-zA4];exact qD fun q _=>by grind]
 rw[zEN];exact zC5 fun q f=>by rw[zA4,e q f];grind
theorem zUj{s:Nat}{A:Nat->Nat->Rat}{τ:Nat->Nat}(hI:zGd C r fun k=>A (σ k))(d:∀k,k<r->σ k<R)(sI:∀i,i<R->Cmb C r (fun k=>A (σ k)) (A i))
  (c:zGd R s fun l i=>A i (τ l)) (e:∀l,l<s->τ l<C) (f:∀j,j<C->Cmb R s (fun l i=>A i (τ l)) fun i=>A i j):
  r=s/\zGd s r (fun k l=>A (σ k) (τ l))/\zGd r s fun l k=>A (σ k) (τ l):=by
 have a:=zGd.cols hI d f;have b:=zGd.cols (A:=fun j i=>A i j) (R:=C) (C:=R) (σ:=τ) (τ:=σ) c e sI;exact⟨Nat.le_antisymm a.le b.le,a,b⟩
theorem zVQ(n:Nat)(c:Nat->Rat):∃q:Int,q≠0/\∃z:Nat->Int,∀k,k<n->(z k:Rat)=q*c k:=by
 induction n with
 |zero=>exact⟨1,by decide,fun _=>0,fun k a=>by omega⟩
 | succ n f=>
  obtain⟨q,b,z,d⟩:=f;have hd:((c n).den:Int)≠0:=by have:=(c n).den_nz;omega
  refine⟨q*(c n).den,Int.mul_ne_zero b hd,fun k=>if k=n then q*(c n).num else z k*(c n).den,fun k a=>?_⟩;have i:(((c n).den:Int):Rat)≠0:=by exact_mod_cast hd
  by_cases e:k=n
  .subst e
   dsimp only;rw[zC rfl];have g:c k=((c k).num:Rat)/(((c k).den:Int):Rat):=by
    rw[<-Rat.divInt_eq_div,Rat.num_divInt_den]
   rw[Rat.intCast_mul,Rat.intCast_mul];have h:(((c k).den:Int):Rat)*c k=(c k).num:=by grind
   grind
  dsimp only;rw[zA e,Rat.intCast_mul,Rat.intCast_mul,d k oM];grind
theorem zLC{t:Nat}(a:k<n)(c:t<n)(h:t≠k):det n (zEs M k (M t))=0:=by
 rcases jG h with g|g
 exact zFI g a fun b=>by unfold zEs;rw[zA oM,zC rfl]
 exact zFI g c fun b=>by unfold zEs;rw[zC rfl,zA oM]
theorem zTu{c:Nat->Rat}(h:∀l,l<n->(b l:Rat)=zAw n fun k=>c k*M k l):
  ∀k,k<n->((det n M:Int):Rat)*c k=((det n (zEs M k b):Int):Rat):=by
 intro k d;obtain⟨q,r,z,i⟩:=zVQ n c;have j:∀l,l<n->q*b l=yZ n fun t=>z t*M t l:=fun l f=>by
  have:((q*b l:Int):Rat)=((yZ n fun t=>z t*M t l:Int):Rat):=by
   rw[zEw,Rat.intCast_mul,h l f,<-zA4];exact qD fun t g=>by rw[Rat.intCast_mul,i t g];grind
  exact_mod_cast this
 have m:det n (zEs M k fun l=>q*b l)=z k*det n M:=by
  have e:det n (zEs M k fun l=>q*b l)=det n (zEs M k fun l=>yZ n fun t=>z t*M t l):=zCu fun a _ l f=>by
   unfold zEs;split;exact j l f;rfl
  rw[e,zFt d,zCF d fun t g p=>by rw[zLC d g p,zZ],zLD]
 have o:det n (zEs M k fun l=>q*b l)=q*det n (zEs M k b):=by
  have e:(fun l=>q*b l)=fun l=>q*b l+0*b l:=by funext l;omega
  rw[e,zEZ d];omega
 have s:(q:Rat)*((det n (zEs M k b):Int):Rat)=q*c k*((det n M:Int):Rat):=by
  rw[<-Rat.intCast_mul,<-o,m,Rat.intCast_mul,i k d]
 have u:(q:Rat)≠0:=by exact_mod_cast r
 grind
theorem zSE{A:Nat->Nat->Int}{b:Nat->Int}(q:∀k,k<r->σ k<R)(s:∀l,l<r->τ l<C)
  (sI:∀i,i<R->Cmb C r (fun k j=>(A (σ k) j:Rat)) fun j=>A i j) (h:Cmb C R (fun i j=>(A i j:Rat)) fun j=>b j):
  ∃x:Nat->Int,∀j,j<C->det r (fun k l=>A (σ k) (τ l))*b j=yZ R fun i=>x i*A i j:=by
 obtain⟨c,e⟩:=h.trans sI;have a:=zTu (M:=fun k l=>A (σ k) (τ l)) (c:=c) (b:=fun l=>b (τ l)) fun l o=>e _ (s l o)
 refine⟨fun i=>yZ r fun k=>if σ k=i then det r (zEs (fun k l=>A (σ k) (τ l)) k fun l=>b (τ l))else 0,fun j m=>?_⟩;have f:(yZ R fun i=>(yZ r fun k=>if σ k=i then det r (zEs (fun k l=>A (σ k) (τ l)) k fun l=>b (τ l))else 0)*A i j)=yZ r fun k=>det r (zEs (fun k l=>A (σ k) (τ l)) k fun l=>b (τ l))*A (σ k) j:=by
  have g:(yZ R fun i=>(yZ r fun k=>if σ k=i then det r (zEs (fun k l=>A (σ k) (τ l)) k fun l=>b (τ l))else 0)*A i j)=yZ R fun i=>yZ r fun k=>(if σ k=i then det r (zEs (fun k l=>A (σ k) (τ l)) k fun l=>b (τ l))else 0)*A i j:=yF fun i _=>(zQy _ _ _).symm
  rw[g,zGW];exact yF fun k a=>by
   rw[zCF (q k a) fun i _ p=>by rw[zA (zL p),zAM],zC rfl]
 rw[f];have:((det r (fun k l=>A (σ k) (τ l))*b j:Int):Rat)=((yZ r fun k=>det r (zEs (fun k l=>A (σ k) (τ l)) k fun l=>b (τ l))*A (σ k) j:Int):Rat):=by
  have d:=e j m;dsimp only at d;rw[zEw,Rat.intCast_mul,d,<-zA4];exact qD fun k n=>by rw[Rat.intCast_mul,<-a k n];grind
 exact_mod_cast this
theorem zIQ{n:Int}(d:n≠0)(h:∀j,j<C->n*b j=yZ R fun i=>x i*A i j):Cmb C R (fun i j=>(A i j:Rat)) fun j=>b j:=
 ⟨fun i=>(x i:Rat)/n,fun j c=>by
  have a:((n*b j:Int):Rat)=zAw R fun i=>(x i:Rat)*A i j:=by
   rw[h j c,zEw];exact qD fun i _=>Rat.intCast_mul _ _
  rw[Rat.intCast_mul]at a;have e:(n:Rat)≠0:=by exact_mod_cast d
  rw[qD (g:=fun i=>1/(n:Rat)*((x i:Rat)*A i j)) fun i _=>by grind,zA4];grind⟩
end Go.Proofs.YtniiekppgdkknaaGreat
