/- Joined. -/
import Derived.Test.YtniiekppgdkknaaGreatM10
set_option linter.unusedVariables false
set_option linter.unusedSimpArgs false
set_option linter.unusedSectionVars false
set_option maxHeartbeats 16000000
set_option maxRecDepth 100000
variable{cs:Array Go.Value}{k:Int}{q r:List Int}{B C Cs Ct M R a c i j n:Nat}{F P Q:Nat->Nat->Int}{t:Go.TypeId}{A:Go.Value}{w w':Go.World}
namespace Go.Proofs.YtniiekppgdkknaaGreat
open Go.RowKit
inductive Op where
 |add (i j:Nat) (k:Int)
 |swap (i j:Nat)
 |neg (i:Nat)
def Op.f:Op->(Nat->Nat->Int)->(Nat->Nat->Int)
 | .add i j k,F=>zDX F i j k
 | .swap i j,F=>zJO F i j
 | .neg i,F=>zDT F i
def Op.d:Op->(Nat->Nat->Int)->(Nat->Nat->Int)
 | .add i j k,F=>zDX F j i (-k)
 | .swap i j,F=>zJO F i j
 | .neg i,F=>zDT F i
def Op.b(o:Op)(x:Bst):Bst:=⟨o.f x.s,o.f x.t,o.d x.i⟩
def Op.g:Op->Nat
 | .add _ _ k=>1+k.natAbs
 |_=>1
def Op.ok(n:Nat):Op->Prop
 | .add i j _=>i<n/\j<n/\i≠j
 | .swap i j=>i<n/\j<n
 | .neg i=>i<n
def zEH:List Op->(Nat->Nat->Int)->(Nat->Nat->Int)
 | [],F=>F
 |o::l,F=>zEH l (o.f F)
def zQH:List Op->(Nat->Nat->Int)->(Nat->Nat->Int)
 | [],F=>F
 |o::l,F=>zQH l (o.d F)
def zDv:List Op->Bst->Bst
 | [],x=>x
 |o::l,x=>zDv l (o.b x)
def gro:List Op->Nat
 | []=>1
 |o::l=>o.g*gro l
def zA2(n:Nat)(l:List Op):Prop:=∀o∈l,o.ok n
theorem zQG(l:List Op):∀x:Bst,zDv l x=⟨zEH l x.s,zEH l x.t,zQH l x.i⟩:=by
 induction l with
 |nil=>intro x;rfl
 |cons o l a=>intro x;exact a _
theorem zHd(l m:List Op):∀x,zDv (l++m) x=zDv m (zDv l x):=by
 induction l with
 |nil=>intro F;rfl
 |cons o l a=>intro F;exact a _
theorem zA2.app{l m:List Op}(h:zA2 n l)(k:zA2 n m):zA2 n (l++m):=fun o a=>(List.mem_append.1 a).elim (h o) (k o)
theorem zA2.cons{o:Op}{m:List Op}(h:o.ok n)(k:zA2 n m):zA2 n (o::m):=fun p hp=>by
 rcases List.mem_cons.1 hp with rfl|hp
 exact h;exact k p hp
theorem zA2.nil:zA2 n []:=fun o a=>by cases a
def leM(M n C:Nat)(F:Nat->Nat->Int):Prop:=∀a,a<n->∀b,b<C->(F a b).natAbs<=M
theorem leM.mono{c:Nat}(h:leM M n C F)(d:M<=c):leM c n C F:=fun a e b f=>zF (h a e b f) d
theorem leM.ok(h:leM M n C F)(c:M<B):okF B n C F:=fun a d b e=>zM (h a d b e) c
theorem zP0(h:leM M n C F)(f:i<n)(g:j<n):leM (M*(1+k.natAbs)) n C (zDX F i j k):=by
 intro a e b c;unfold zDX;split
 .have l:=h i f b c
  have d:=h j g b c;have m:(k*F j b).natAbs<=k.natAbs*M:=by rw[qT];exact qA _ d
  have o:(F i b+k*F j b).natAbs<=(F i b).natAbs+(k*F j b).natAbs:=by omega
  rw[jT,zAp,zP M];omega
 exact zF (h a e b c) (qJ _ oM)
theorem zNi(c:i<n)(d:j<n)(b:a<n):swp i j a<n:=by unfold swp;split;exact d;split;exact c;exact b
theorem zP1{o:Op}(h:leM M n C F)(e:o.ok n):leM (M*o.g) n C (o.f F):=by
 cases o with
 |add i j k=>exact zP0 h e.1 e.2.1
 |swap i j=>
  intro a c b d;simp only[Op.g,Nat.mul_one];exact h _ (zNi e.1 e.2 c) b d
 |neg i=>
  intro a c b d;simp only[Op.g,Nat.mul_one,Op.f,zDT];split;rw[qO];exact h a c b d;exact h a c b d
theorem zVh{o:Op}(h:leM M n C F)(a:o.ok n):leM (M*o.g) n C (o.d F):=by
 cases o with
 |add i j k=>
  have:=zP0 (k:=-k) h a.2.1 a.1;rwa[qO]at this
 |swap i j=>exact zP1 (o:=.swap i j) h a
 |neg i=>exact zP1 (o:=.neg i) h a
theorem zNE{l:List Op}(a:zA2 n l):∀{M:Nat} {F:Nat->Nat->Int},leM M n C F->leM (M*gro l) n C (zEH l F):=by
 induction l with
 |nil=>intro M F h;simpa[gro,zEH]using h
 |cons o l c=>
  intro M F h;have:=c (fun p b=>a p (qG _ b)) (zP1 h (a o (zAP ..)));rwa[zN]at this
theorem zR4{l:List Op}(a:zA2 n l):∀{M:Nat} {F:Nat->Nat->Int},leM M n C F->leM (M*gro l) n C (zQH l F):=by
 induction l with
 |nil=>intro M F h;simpa[gro,zQH]using h
 |cons o l c=>
  intro M F h;have:=c (fun p b=>a p (qG _ b)) (zVh h (a o (zAP ..)));rwa[zN]at this
def leB(M n Cs Ct:Nat)(x:Bst):Prop:=leM M n Cs x.s/\leM M n Ct x.t/\leM M n Ct x.i
theorem zUK{o:Op}{x:Bst}(h:leB M n Cs Ct x)(a:o.ok n):leB (M*o.g) n Cs Ct (o.b x):=⟨zP1 h.1 a,zP1 h.2.1 a,zVh h.2.2 a⟩
theorem zUL{l:List Op}(a:zA2 n l){x:Bst}(h:leB M n Cs Ct x):leB (M*gro l) n Cs Ct (zDv l x):=by
 rw[zQG];exact⟨zNE a h.1,zNE a h.2.1,zR4 a h.2.2⟩
theorem zNK{x:Bst}(h:leB M n Cs Ct x)(g:i<n)(d:j<n)(m:i≠j)(l:1<=M)(c:M*(1+k.natAbs)<B):zGu B n Cs Ct x i j k:=by
 have e:M*(1+k.natAbs)=M+M*k.natAbs:=by rw[jT,zAp]
 have q:k.natAbs<=M*k.natAbs:=jF _ l;have f:∀z:Int,z.natAbs<=M->(k*z).natAbs<B:=fun z p=>by
  have:k.natAbs*z.natAbs<=k.natAbs*M:=qA _ p;rw[qT];rw[zP k.natAbs M]at this;omega
 have b:=zUK (o:=.add i j k) h ⟨g,d,m⟩;exact⟨by omega,fun t a=>f _ (h.1 j d t a),fun t a=>⟨f _ (h.2.1 j d t a),f _ (h.2.2 i g t a)⟩,b.1.ok c,b.2.1.ok c,b.2.2.ok c⟩
theorem zWU{b:Nat}{o:Op}{G:Nat->Nat->Int}(d:o.ok n)(h:∀a,a<n->F a b=yZ R fun t=>P a t*G t b):∀a,a<n->o.f F a b=yZ R fun t=>o.f P a t*G t b:=by
 intro a c;cases o with
 | add i j k=>
  show(if a=i then F i b+k*F j b else F a b)=yZ R fun t=>(if a=i then P i t+k*P j t else P a t)*G t b
  by_cases e:a=i
  .rw[zC e,h i d.1,h j d.2.1,<-zBA,<-zC4]
   refine yF fun t f=>?_
   rw[zC e,zCb,zBD]
  rw[zA e,h a c];refine yF fun t f=>?_
  rw[zA e]
 |swap i j=>exact h _ (zNi d.1 d.2 c)
 | neg i=>
  show(if a=i then-(F a b)else F a b)=yZ R fun t=>(if a=i then-(P a t)else P a t)*G t b
  by_cases e:a=i
  .rw[zC e,h a c,<-Int.neg_one_mul,<-zBA]
   refine yF fun t f=>?_
   rw[zC e,yQ,yQ,jR]
  rw[zA e,h a c];refine yF fun t f=>?_
  rw[zA e]
theorem zUb{b:Nat}{l:List Op}(c:zA2 n l):∀{P F G:Nat->Nat->Int},(∀a,a<n->F a b=yZ R fun t=>P a t*G t b)->∀a,a<n->zEH l F a b=yZ R fun t=>zEH l P a t*G t b:=by
 induction l with
 |nil=>intro P F G h;exact h
 |cons o l e=>
  intro P F G h;exact e (fun p d=>c p (qG _ d)) (zWU (c o (zAP ..)) h)
theorem zUG(b:a<n)(G:Nat->Int):G a=yZ n fun t=>idf a t*G t:=by
 rw[zCF (c:=a) b];unfold idf;rw[zC rfl,jR];intro i f d;unfold idf;rw[zA (fun e=>d e.symm),zAM]
theorem zQI{l:List Op}(d:zA2 n l)(F:Nat->Nat->Int):∀a,a<n->∀b,zEH l F a b=yZ n fun t=>zEH l idf a t*F t b:=
 fun a c b=>zUb d (fun a c=>zUG c fun t=>F t b) a c
def dot(C:Nat)(P Q:Nat->Nat->Int)(a b:Nat):Int:=yZ C fun t=>P a t*Q b t
theorem zVl{o:Op}(f:o.ok n)(h:∀a,a<n->∀b,b<n->dot C P Q a b=idf a b):∀a,a<n->∀b,b<n->dot C (o.f P) (o.d Q) a b=idf a b:=by
 intro a g b l;cases o with
 | add i j k=>
  obtain⟨u,w,v⟩:=f;have e:dot C (zDX P i j k) (zDX Q j i (-k)) a b=dot C P Q a b+(if a=i then k*dot C P Q j b else 0)+(if b=j then(-k)*dot C P Q a i+(if a=i then(-k)*(k*dot C P Q j i)else 0)else 0):=by
   unfold dot zDX;by_cases d:a=i
   .subst d
    by_cases c:b=j
    .subst c
     simp only[if_true];rw[<-zBA,<-zBA,<-zBA,<-zBA,<-zC4,<-zC4,<-zC4];refine yF fun t m=>?_
     generalize P a t=p;generalize P b t=q;generalize Q a t=r;generalize Q b t=s;grind
    simp only[if_true,if_neg c];rw[<-zBA,<-zC4,jN];refine yF fun t m=>?_
    rw[zCb,zBD]
   by_cases c:b=j
   .subst c
    simp only[if_true,if_neg d];rw[<-zBA,jN,jN,<-zC4];refine yF fun t m=>?_
    rw[zDz,zBf]
   simp only[if_neg d,if_neg c];rw[jN,jN]
  show dot C (zDX P i j k) (zDX Q j i (-k)) a b=_;rw[e,h a g b l,h j w b l,h a g i u,h j w i u];unfold idf;have y:¬ j=i:=fun h=>v h.symm
  by_cases d:a=i
  .by_cases c:b=j
   .subst d
    subst c;simp[v,y];omega
   have x:¬ j=b:=fun h=>c h.symm
   subst d;simp[c,x]
  by_cases c:b=j
  .subst c
   simp[d]
  simp[d,c]
 |swap i j=>
  show dot C P Q (swp i j a) (swp i j b)=_;rw[h _ (zNi f.1 f.2 g) _ (zNi f.1 f.2 l)];unfold idf swp;split<;>split<;>(try split)<;>(try split)<;>(try split)<;>(try split)<;>first|rfl|omega
 | neg i=>
  have e:dot C (zDT P i) (zDT Q i) a b=(if a=i then-1 else 1)*((if b=i then-1 else 1)*dot C P Q a b):=by
   unfold dot zDT;rw[<-zBA,<-zBA];refine yF fun t m=>?_
   generalize P a t=p;generalize Q b t=q;split<;>split<;>grind
  show dot C (zDT P i) (zDT Q i) a b=_;rw[e,h a g b l];unfold idf;split<;>split<;>split<;>omega
theorem zUa{l:List Op}(c:zA2 n l):∀{P Q:Nat->Nat->Int},(∀a,a<n->∀b,b<n->dot C P Q a b=idf a b)->∀a,a<n->∀b,b<n->dot C (zEH l P) (zQH l Q) a b=idf a b:=by
 induction l with
 |nil=>intro P Q h;exact h
 |cons o l e=>
  intro P Q h;exact e (fun p d=>c p (qG _ d)) (zVl (c o (zAP ..)) h)
def cod(n:Nat)(Q P:Nat->Nat->Int)(a b:Nat):Int:=yZ n fun t=>Q t a*P t b
theorem zLM{f g:Nat->Int}{d:Int}(l:i<n)(o:j<n)(q:i≠j)(h:∀t,t<n->t≠i->t≠j->f t=g t)(c:f i=g i+d)(k:f j=g j-d):yZ n f=yZ n g:=by
 have e:yZ n (fun t=>f t-g t)=0:=by
  have:∀m,m<=n->yZ m (fun t=>f t-g t)=(if i<m then d else 0)-(if j<m then d else 0):=by
   intro m;induction m with
   |zero=>intro _;rfl
   | succ m p=>
    intro r;show yZ m _+(f m-g m)=_;rw[p oM];by_cases b:m=i
    .subst b
     rw[c];split<;>split<;>split<;>(try split)<;>omega
    by_cases a:m=j
    .subst a
     rw[k];split<;>split<;>split<;>(try split)<;>omega
    rw[h m oM b a];split<;>split<;>split<;>(try split)<;>omega
  rw[this n (xgf _),zC l,zC o];omega
 have a:yZ n f=yZ n g+yZ n (fun t=>f t-g t):=by
  rw[<-zC4];exact yF fun t s=>by omega
 omega
theorem zUu(e:i<n)(g:j<n)(f:Nat->Int):yZ n (fun t=>f (swp i j t))=yZ n f:=by
 by_cases a:i=j
 .subst a
  refine yF fun t h=>?_
  unfold swp;split<;>(try split)<;>simp_all
 refine zLM (d:=f j-f i) e g a (fun t h b c=>?_) ?_ ?_;unfold swp;rw[zA b,zA c];unfold swp;rw[zC rfl];omega;unfold swp;rw[zA oM,zC rfl];omega
theorem zVk{o:Op}(e:o.ok n)(a b:Nat):cod n (o.d Q) (o.f P) a b=cod n Q P a b:=by
 cases o with
 | add i j k=>
  obtain⟨l,m,c⟩:=e;refine zLM (i:=i) (j:=j) (d:=k*(Q i a*P j b)) l m c (fun t p f g=>?_) ?_ ?_;simp only[Op.d,Op.f,zDX,if_neg f,if_neg g]
  .simp only[Op.d,Op.f,zDX,if_true,if_neg c]
   rw[zDz,zBf]
  simp only[Op.d,Op.f,zDX,if_true,if_neg (fun h=>c (Eq.symm h))];rw[zCb,zBD,yQ];rfl
 |swap i j=>exact zUu e.1 e.2 fun t=>Q t a*P t b
 |neg i=>
  refine yF fun t p=>?_
  simp only[Op.d,Op.f,zDT];split;rw[Int.neg_mul_neg];rfl
theorem zUZ{l:List Op}(c:zA2 n l):∀{P Q:Nat->Nat->Int} (a b:Nat),cod n (zQH l Q) (zEH l P) a b=cod n Q P a b:=by
 induction l with
 |nil=>intro P Q a b;rfl
 |cons o l e=>
  intro P Q a b;show cod n (zQH l (o.d Q)) (zEH l (o.f P)) a b=_;rw[e (fun p d=>c p (qG _ d)),zVk (c o (zAP ..))]
theorem zFO{l:List Op}(f:zA2 n l)(F:Nat->Nat->Int):∀a,a<n->∀b,F a b=yZ n fun t=>zQH l idf t a*zEH l F t b:=by
 intro a e b;have d:=zUZ (P:=F) (Q:=idf) f a b;unfold cod at d;rw[d,zCF (c:=a) e];unfold idf;rw[zC rfl,jR];intro t h g;unfold idf;rw[zA g,zAM]
abbrev tHW:TypeId:=119
def zET(w:World)(A:Value)(n:Nat):Prop:=∃g cap cs,A=slq g n cap/\n<=cap/\cap<=9223372036854775807/\Blk w g tR cs/\∀i,i<n->cs[i]?=some (.slice none 0 0)
theorem zET.I(h:zET w A n)(i:BWq w w'):zET w' A n:=by
 obtain⟨g,a,cs,b,c,d,e,f⟩:=h;exact⟨g,a,cs,b,c,d,e.I i,f⟩
theorem zKX{g b:Nat}(c:Blk w g t cs)(d:yY w b r)(e:¬ t=tI):g≠b:=by
 rintro rfl;obtain⟨f,a,-⟩:=d;exact e (congrArg (fun o:Option Obj=>match o with|some (Obj.cells _ t _)=>t|_=>0) (c.symm.trans a))
theorem Blk.row{g b:Nat}(a:Blk w g t cs)(c:zA5 [b] w w')(d:yY w b r)(e:¬ t=tI):Blk w' g t cs:=
 (c.old g a.lt (by simpa using zKX a d e)).trans a
theorem Blk.row2{g b:Nat}(a:Blk w g t cs)(e:zA5 [b,c] w w')(h:yY w b r)(f:yY w c q)(d:¬ t=tI):Blk w' g t cs:=
 (e.old g a.lt (by simp;exact⟨zKX a h d,zKX a f d⟩)).trans a
theorem zET.row{b:Nat}(h:zET w A n)(j:zA5 [b] w w')(k:yY w b r):zET w' A n:=by
 obtain⟨g,a,cs,c,d,e,f,i⟩:=h;exact⟨g,a,cs,c,d,e,f.row j k dE,i⟩
theorem zET.row2{b:Nat}(h:zET w A n)(k:zA5 [b,c] w w')(m:yY w b r)(l:yY w c q):zET w' A n:=by
 obtain⟨g,a,cs,d,e,f,i,j⟩:=h;exact⟨g,a,cs,d,e,f,i.row2 k m l dE,j⟩
theorem zET.at_(h:zET w A n)(e:i<n):∃g a,A=slq g n a/\w.cell? ⟨g,i,none⟩=some (.slice none 0 0):=by
 obtain⟨g,a,cs,b,f,j,c,d⟩:=h;exact⟨g,a,b,(cell_of_row w g i cs tR _ c).trans (d i e)⟩
theorem zKT(b:Value)(k:Int)(w:World)(f:yA w b k):
  CPq 74 #[.slice none 0 0,.slice none 0 0,b] w fun e w'=>(∃u,e= .returned u)/\BWq w w':=by
 obtain⟨n,j,m,l,o,rfl,-⟩:=id f;go_enter Tryz.func74,Tryz.ntmps74;go_upto_region 1 with(fail)
 refine zE ?_;intro c a;obtain⟨d,h,i⟩:=qL a;clear a;go_wp2;go_loopw [10] (fun g wr=>g=niq 0/\wr=c) (fun _ _=>0)
 case atStart=>exact⟨rfl,rfl⟩
 obtain⟨rfl,rfl⟩:=hrel;go_wp2;exact bodyPost_end (results_none rfl _ _ _) rfl ⟨⟨_,rfl⟩,d⟩
theorem zDr(v:Value)(zs:List Int)(w:World)(h:zAR w v zs):
  CPq 69 #[v] w fun e w'=>e= .returned (niq (zEp 0 zs))/\BWq w w':=by
 obtain⟨E,n,H,rfl,r,O,P,I⟩:=id h;have o:=xgw r;clear r I;go_enter Tryz.func69,Tryz.ntmps69;go_wp2;refine zIm (fun q wt=>q={tmps:=#[.slice E n H,undef,niq 0,niq (-1),undef,undef,undef,undef,undef,undef,undef,undef,undef,undef,undef,undef,undef,undef,undef,undef],defers:=[]}/\wt=w) (fun _ _=>0) rfl ?_ ?_
 .go_wp2
 rintro q wr ⟨rfl,j⟩;have j:=j.symm;subst j;go_wp2;go_loopw [3,8] (fun u i wr=>∃k:Nat,k<=n/\u=niq (-1)/\i=niq k/\BWq w wr/\Hid (zEp 0 zs=zEp k (zs.drop k))) (fun _ i _=>n-(intOf i).toNat)
 case atStart=>exact⟨0,oM,rfl,rfl,zB _ _,by rw[xgk];exact xgw rfl⟩
 obtain⟨k,S,rfl,rfl,f,g⟩:=hrel;by_cases L:k<n
 .obtain⟨b,z,s,a,l,c,rfl,Q,B,F,G,M⟩:=(h.I f).cell (k:=k) (by rw[o.out];exact L)
  have p:=xgw B;clear B;go_upto_region 5 with(fail)
  refine zE ?_;intro D x;obtain⟨t,C,T⟩:=qL x;have N:=C.two;clear F G x;go_wp2_with fail
  refine(zAn _ z D (M.ext (lx t)).J).mono ?_;rintro e U ⟨rfl,J⟩;have y:=nx (nx f t) J;by_cases d:z=0
  .rw[zDi d]
   go_wp2;go_roundw
   case rel=>
    refine⟨k+1,oM,rfl,by simp,y,xgw ?_⟩;rw[g.out,zKh p.out];conv=>lhs;unfold zEp
    rw[zA (by simp[d])]
   case measure=>exact meq
  have A:=zFq d;obtain⟨m,K⟩:∃m,zAB z 0=m:=⟨_,rfl⟩;rw[K]at A ⊢
  have R:(m==0)=false:=by simpa using A
  go_wp2;rw[Exit.jump_ret];go_ret;refine⟨?_,y⟩;rw[g.out,zKh p.out];conv=>rhs;unfold zEp
  rw[zC d];rfl
 obtain rfl:k=n:=oM;go_wp2;rw[Exit.jump_ret];go_ret;refine⟨?_,f⟩;rw[g.out,qX (zBo o.out)];rfl
theorem lx0{W:World}(h:BWq w W):zBC w W:=lx h
theorem zS5(bw:Nat)(W X Y:Value)(n Cs Ct i j:Nat)(G H L:List Nat)(a0 T a1:Nat->Nat->Int)(kv:Value)(k:Int)(w:World)(b4:Blk w bw tHW #[W,X,Y])(h:zHO w W X Y n Cs Ct G H L a0 T a1)(z:i<n)(J:j<n)(a5:i≠j)(d:yA w kv k)
  (K:n<=1000000) (c5:Cs<=1000000) (b2:Ct<=1000000) (hS:zO3 Cs a0 i j k) (hT:zO3 Ct T i j k) (hI:zO3 Ct a1 j i (-k)) (b7:Sm k):
  CPq 106 #[ptq bw 0,niq i,niq j,kv] w fun e w'=>(∃u,e= .returned u)/\jB (fun b=>b∈G∨b∈H∨b∈L) w w'/\Blk w' bw tHW #[W,X,Y]∧
   zHO w' W X Y n Cs Ct G H L (zDX a0 i j k) (zDX T i j k) (zDX a1 j i (-k)):=by
 obtain⟨so,sn,sc,rfl,s1,s2,s3,-⟩:=id (yH.rows h.s);obtain⟨uo,tn,tc,rfl,t1,t2,t3,-⟩:=id (yH.rows h.t);obtain⟨io,c7,ic,rfl,i1,i2,i3,-⟩:=id (yH.rows h.i);obtain⟨kn,ka,kl,kc,kx,rfl,b8⟩:=id d;have d0:=xgw b8;have HS:=xgv hS;have HT:=xgv hT;have HI:=xgv hI;have Z:=xgv b7;have c4:qS (Sm (-k)):=⟨Z.out.mono (by rw[qO];exact xgf _)⟩;clear b8 hS hT hI b7;obtain⟨f,g,m,a3,a2,a4,a9,a8,b0⟩:=h;have c2:=xgv a9;have c1:=xgv a8;have c3:=xgv b0;clear a9 a8 b0;have e1:n=sn:=by rw[<-s1];simp[yV]
 have e2:n=tn:=by rw[<-t1];simp[yV]
 have e3:n=c7:=by rw[<-i1];simp[yV]
 subst e1;subst e2;subst e3;clear s1 t1 i1;obtain⟨gs,_,rfl,-⟩:=yH.at_ f (i:=i) (by rw[f.len];exact z);obtain⟨gt,_,rfl,-⟩:=yH.at_ g (i:=i) (by rw[g.len];exact z);obtain⟨gi,_,rfl,-⟩:=yH.at_ m (i:=i) (by rw[m.len];exact z);have a6:∀b,b∈G∨b∈H∨b∈L->b<w.heap.size:=fun b hb=>by
  rcases hb with hb|hb|hb
  exact(f.blk hb).elim fun r R=>R.lt
  exact(g.blk hb).elim fun r R=>R.lt
  exact(m.blk hb).elim fun r R=>R.lt
 go_enter Tryz.func106,Tryz.ntmps106;go_upto_region 1 with(fail)
 refine zE ?_;intro W0 b3;obtain⟨I,l,d2⟩:=qL b3;have bx:=b4.I I;have f:=f.I I;have g:=g.I I;have m:=m.I I;have d:=d.ext (lx I);have C:=jB.of (fun b=>b∈G∨b∈H∨b∈L) I;clear b3 b4;obtain⟨N,bi,o,b5,t,P,S,-⟩:=yH.at_ f (i:=i) (by rw[f.len];exact z);obtain⟨O,bj,p,b6,D,Q,U,-⟩:=yH.at_ f (i:=j) (by rw[f.len];exact J);obtain rfl:gs=N:=by injection o with o;injection o
 obtain rfl:gs=O:=by injection p with p;injection p
 clear o p P Q;have c:=xgd t;obtain⟨ri,F⟩:=f.blk c;have V:=bx.three;have M:=l.two;have b9:=bx.lt;have lk:=l.lt;refine yD 15 [] ?_;refine sRd ?_;refine sRf ?_;intro w8 x;have A:=f.I x;have q:=F.I x;clear S U V M;go_wp2_with fail
 refine(zHX A z J a5 t D _ (k) (d.ext (lx0 x)) c5 HS.out Z.out).mono ?_;rintro e w9 ⟨⟨u,rfl⟩,a,B⟩;have E:w.heap.size≠bi:=by have:=a6 bi (by simp[c]);omega
 have bx:=(bx.I x).row a q dE;have l:Blk w9 w.heap.size 51 #[.bool kn,.slice ka kl kc]:=(a.old _ (l.I x).lt (by simpa using E)).trans (l.I x);have d:=(d.ext (lx0 x)).ext a.lext;have C:=(C.trans (jB.of _ x)).trans (⟨a.bel,a.lext,fun k d K=>a.old k d (by simp;rintro rfl;exact K (by simp[c]))⟩:jB _ w8 w9);have g:=(g.I x).only a (fun s=>a3 _ c s) q;have m:=(m.I x).only a (fun s=>a2 _ c s) q;have f:Wri w9 (slq gs n sc) n Cs G (zDX a0 i j k):=B;clear a q F A B c E t D;go_upto_region 2 with(fail)
 obtain⟨N,ci,o,b5,t,P,S,-⟩:=yH.at_ g (i:=i) (by rw[g.len];exact z);obtain⟨O,cj,p,b6,D,Q,U,-⟩:=yH.at_ g (i:=j) (by rw[g.len];exact J);obtain rfl:gt=N:=by injection o with o;injection o
 obtain rfl:gt=O:=by injection p with p;injection p
 clear o p P Q;have c:=xgd t;obtain⟨ri,F⟩:=g.blk c;have V:=bx.three;have M:=l.two;have b9:=bx.lt;have lk:=l.lt;refine yD 15 [] ?_;refine sRd ?_;refine sRf ?_;intro c8 v;have A:=g.I v;have q:=F.I v;clear S U V M;go_wp2_with fail
 refine(zHX A z J a5 t D _ (k) (d.ext (lx0 v)) b2 HT.out Z.out).mono ?_;rintro e a7 ⟨⟨u,rfl⟩,a,B⟩;have E:w.heap.size≠ci:=by have:=a6 ci (by simp[c]);omega
 have bx:=(bx.I v).row a q dE;have l:Blk a7 w.heap.size 51 #[.bool kn,.slice ka kl kc]:=(a.old _ (l.I v).lt (by simpa using E)).trans (l.I v);have d:=(d.ext (lx0 v)).ext a.lext;have C:=(C.trans (jB.of _ v)).trans (⟨a.bel,a.lext,fun k d K=>a.old k d (by simp;rintro rfl;exact K (by simp[c]))⟩:jB _ c8 a7);have f:=(f.I v).only a (fun s=>a3 _ s c) q;have m:=(m.I v).only a (fun s=>a4 _ c s) q;have g:Wri a7 (slq gt n tc) n Ct H (zDX T i j k):=B;clear a q F A B c E t D;go_upto_region 3 with(fail)
 obtain⟨N,di,o,b5,t,P,S,-⟩:=yH.at_ m (i:=j) (by rw[m.len];exact J);obtain⟨O,dj,p,b6,D,Q,U,-⟩:=yH.at_ m (i:=i) (by rw[m.len];exact z);obtain rfl:gi=N:=by injection o with o;injection o
 obtain rfl:gi=O:=by injection p with p;injection p
 clear o p P Q;have c:=xgd t;obtain⟨ri,F⟩:=m.blk c;have V:=bx.three;have M:=l.two;have b9:=bx.lt;have lk:=l.lt;refine yD 16 [pcI 15 (-k)] ?_;refine sRd ?_;refine sRc (fun wS hI Gk hG=>by go_simp;exact ck hG (zCN _ k _ (d.ext hI.lext).J Z.out)) (fun d3 _=>?_);refine sRe ?_;intro c9 y c6;have A:=m.I y;have q:=F.I y;clear S U V M;go_wp2_with fail
 refine(zHX A J z (zL a5) t D _ (-k) c6 b2 HI.out c4.out).mono ?_;rintro e c0 ⟨⟨u,rfl⟩,a,B⟩;have E:w.heap.size≠di:=by have:=a6 di (by simp[c]);omega
 have bx:=(bx.I y).row a q dE;have l:Blk c0 w.heap.size 51 #[.bool kn,.slice ka kl kc]:=(a.old _ (l.I y).lt (by simpa using E)).trans (l.I y);have d:=(d.ext (lx0 y)).ext a.lext;have C:=(C.trans (jB.of _ y)).trans (⟨a.bel,a.lext,fun k d K=>a.old k d (by simp;rintro rfl;exact K (by simp[c]))⟩:jB _ c9 c0);have f:=(f.I y).only a (fun s=>a2 _ s c) q;have g:=(g.I y).only a (fun s=>a4 _ s c) q;go_wp2;exact bodyPost_end (results_none rfl _ _ _) rfl ⟨⟨_,rfl⟩,C,bx,f,g,B,a3,a2,a4,c2.out,c1.out,c3.out⟩
theorem zS6(bw:Nat)(Ah Au Av mv:Value)(n Cs Ct i j:Nat)(X Y W:List Nat)(b0 T a9:Nat->Nat->Int)(y s t z:Int)(w:World)(c6:Blk w bw tHW #[Ah,Au,Av])(h:zHO w Ah Au Av n Cs Ct X Y W b0 T a9)(H:i<n)(S:j<n)(b6:i≠j)(hm:M4V w mv y s t z)
  (I:n<=1000000) (e4:Cs<=1000000) (c4:Ct<=1000000) (hS:zTb Cs (b0 i) (b0 j) y s t z) (hT:zTb Ct (T i) (T j) y s t z) (hI:zTb Ct (a9 i) (a9 j) z (-t) (-s) y) (V:Sm y/\Sm s/\Sm t/\Sm z):
  CPq 107 #[ptq bw 0,niq i,niq j,mv] w fun e w'=>(∃u,e= .returned u)/\jB (fun b=>b∈X∨b∈Y∨b∈W) w w'/\Blk w' bw tHW #[Ah,Au,Av]∧
   zHO w' Ah Au Av n Cs Ct X Y W (zAQ b0 i j y s t z) (zAQ T i j y s t z) (zAQ a9 i j z (-t) (-s) y):=by
 obtain⟨so,sn,sc,rfl,s1,s2,s3,-⟩:=id (yH.rows h.s);obtain⟨uo,tn,tc,rfl,t1,t2,t3,-⟩:=id (yH.rows h.t);obtain⟨io,e6,ic,rfl,i1,i2,i3,-⟩:=id (yH.rows h.i);have HS:=xgv hS;have HT:=xgv hT;have HI:=xgv hI;have HK:=xgv V;have d2:Sm z/\Sm (-t)/\Sm (-s)/\Sm y:=⟨V.2.2.2,V.2.2.1.mono (by rw[qO];exact xgf _),V.2.1.mono (by rw[qO];exact xgf _),V.1⟩;have e0:=xgv d2;obtain⟨n0,a0,l0,c0,n1,a1,l1,c1,n2,a2,l2,c2,n3,a3,l3,c3,rfl,J,K,L,M⟩:=id hm;have A:=xgv (And.intro J (And.intro K (And.intro L M)));clear hS hT hI V hm d2 J K L M;obtain⟨l,m,o,a4,Z,a5,b8,b7,b9⟩:=h;have d8:=xgv b8;have d7:=xgv b7;have d9:=xgv b9;clear b8 b7 b9;have e1:n=sn:=by rw[<-s1];simp[yV]
 have e2:n=tn:=by rw[<-t1];simp[yV]
 have e3:n=e6:=by rw[<-i1];simp[yV]
 subst e1;subst e2;subst e3;clear s1 t1 i1;obtain⟨gs,_,rfl,-⟩:=yH.at_ l (i:=i) (by rw[l.len];exact H);obtain⟨gt,_,rfl,-⟩:=yH.at_ m (i:=i) (by rw[m.len];exact H);obtain⟨gi,_,rfl,-⟩:=yH.at_ o (i:=i) (by rw[o.len];exact H);have U:∀b,b∈X∨b∈Y∨b∈W->b<w.heap.size:=fun b hb=>by
  rcases hb with hb|hb|hb
  exact(l.blk hb).elim fun r hr=>hr.lt
  exact(m.blk hb).elim fun r hr=>hr.lt
  exact(o.blk hb).elim fun r hr=>hr.lt
 go_enter Tryz.func107,Tryz.ntmps107;go_upto_region 1 with(fail)
 refine zE ?_;intro W0 c5;obtain⟨a6,B,g4⟩:=qL c5;have bx:=c6.I a6;have l:=l.I a6;have m:=m.I a6;have o:=o.I a6;have d:=jB.of (fun b=>b∈X∨b∈Y∨b∈W) a6;have f8:=zFM z (-t);have f9:=zFM (-s) y;have g3:=zJu z (-t) (-s) y;clear c5 c6;obtain⟨g1,bi,v,c9,E,a7,o1,-⟩:=yH.at_ l (i:=i) (by rw[l.len];exact H);obtain⟨g2,bj,x,d0,F,a8,o2,-⟩:=yH.at_ l (i:=j) (by rw[l.len];exact S);obtain rfl:gs=g1:=by injection v with v;injection v
 obtain rfl:gs=g2:=by injection x with x;injection x
 clear v x a7 a8;have f:=xgd E;have g:=xgd F;obtain⟨ri,Q⟩:=l.blk f;obtain⟨rj,R⟩:=l.blk g;have x1:=bx.three;obtain⟨k0,k1,k2,k3,k4,k5,k6,k7⟩:=B.eight;have d3:=bx.lt;have lm:=B.lt;have J:=A.out.1.ext d.lext;have K:=A.out.2.1.ext d.lext;have L:=A.out.2.2.1.ext d.lext;have M:=A.out.2.2.2.ext d.lext;refine yD 15 [] ?_;refine sRd ?_;refine sRf ?_;intro w8 D;have O:=l.I D;have p:=Q.I D;have q:=R.I D;clear o1 o2 x1 k0 k1 k2 k3 k4 k5 k6 k7;go_wp2_with fail
 refine(zFK O H S b6 E F ⟨_,_,_,_,_,_,_,_,_,_,_,_,_,_,_,_,rfl,J.ext (lx0 D),K.ext (lx0 D),L.ext (lx0 D),M.ext (lx0 D)⟩ e4 HS.out HK.out).mono ?_;rintro e w9 ⟨⟨u,rfl⟩,a,P⟩;have b2:w.heap.size≠bi:=by have:=U bi (by simp[f]);omega
 have b3:w.heap.size≠bj:=by have:=U bj (by simp[g]);omega
 have bx:=(bx.I D).row2 a p q dE;have B:Blk w9 w.heap.size 169 #[.bool n0,.slice a0 l0 c0,.bool n1,.slice a1 l1 c1,.bool n2,.slice a2 l2 c2,.bool n3,.slice a3 l3 c3]:=(B.I D).row2 a p q dE;have d:=(d.trans (jB.of _ D)).trans (⟨a.bel,a.lext,fun k hk I=>a.old k hk (by simp;exact⟨fun e=>I (by rw[e];simp[f]),fun e=>I (by rw[e];simp[g])⟩)⟩:jB _ w8 w9);have m:=(m.I D).only2 a (fun c=>a4 _ f c) (fun c=>a4 _ g c) p q;have o:=(o.I D).only2 a (fun c=>Z _ f c) (fun c=>Z _ g c) p q;have l:=P;clear a p Q q R O P f g b2 b3 E F;go_upto_region 2 with(fail)
 obtain⟨g1,ci,v,c9,E,a7,o1,-⟩:=yH.at_ m (i:=i) (by rw[m.len];exact H);obtain⟨g2,cj,x,d0,F,a8,o2,-⟩:=yH.at_ m (i:=j) (by rw[m.len];exact S);obtain rfl:gt=g1:=by injection v with v;injection v
 obtain rfl:gt=g2:=by injection x with x;injection x
 clear v x a7 a8;have f:=xgd E;have g:=xgd F;obtain⟨ri,Q⟩:=m.blk f;obtain⟨rj,R⟩:=m.blk g;have x1:=bx.three;obtain⟨k0,k1,k2,k3,k4,k5,k6,k7⟩:=B.eight;have d3:=bx.lt;have lm:=B.lt;have J:=A.out.1.ext d.lext;have K:=A.out.2.1.ext d.lext;have L:=A.out.2.2.1.ext d.lext;have M:=A.out.2.2.2.ext d.lext;refine yD 15 [] ?_;refine sRd ?_;refine sRf ?_;intro e9 C;have O:=m.I C;have p:=Q.I C;have q:=R.I C;clear o1 o2 x1 k0 k1 k2 k3 k4 k5 k6 k7;go_wp2_with fail
 refine(zFK O H S b6 E F ⟨_,_,_,_,_,_,_,_,_,_,_,_,_,_,_,_,rfl,J.ext (lx0 C),K.ext (lx0 C),L.ext (lx0 C),M.ext (lx0 C)⟩ c4 HT.out HK.out).mono ?_;rintro e d4 ⟨⟨u,rfl⟩,a,P⟩;have b2:w.heap.size≠ci:=by have:=U ci (by simp[f]);omega
 have b3:w.heap.size≠cj:=by have:=U cj (by simp[g]);omega
 have bx:=(bx.I C).row2 a p q dE;have B:Blk d4 w.heap.size 169 #[.bool n0,.slice a0 l0 c0,.bool n1,.slice a1 l1 c1,.bool n2,.slice a2 l2 c2,.bool n3,.slice a3 l3 c3]:=(B.I C).row2 a p q dE;have d:=(d.trans (jB.of _ C)).trans (⟨a.bel,a.lext,fun k hk I=>a.old k hk (by simp;exact⟨fun e=>I (by rw[e];simp[f]),fun e=>I (by rw[e];simp[g])⟩)⟩:jB _ e9 d4);have l:=(l.I C).only2 a (fun c=>a4 _ c f) (fun c=>a4 _ c g) p q;have o:=(o.I C).only2 a (fun c=>a5 _ f c) (fun c=>a5 _ g c) p q;have m:=P;clear a p Q q R O P f g b2 b3 E F;go_upto_region 3 with(fail)
 obtain⟨g1,di,v,c9,E,a7,o1,-⟩:=yH.at_ o (i:=i) (by rw[o.len];exact H);obtain⟨g2,dj,x,d0,F,a8,o2,-⟩:=yH.at_ o (i:=j) (by rw[o.len];exact S);obtain rfl:gi=g1:=by injection v with v;injection v
 obtain rfl:gi=g2:=by injection x with x;injection x
 clear v x a7 a8;have f:=xgd E;have g:=xgd F;obtain⟨ri,Q⟩:=o.blk f;obtain⟨rj,R⟩:=o.blk g;have x1:=bx.three;obtain⟨k0,k1,k2,k3,k4,k5,k6,k7⟩:=B.eight;have d3:=bx.lt;have lm:=B.lt;have J:=A.out.1.ext d.lext;have K:=A.out.2.1.ext d.lext;have L:=A.out.2.2.1.ext d.lext;have M:=A.out.2.2.2.ext d.lext;refine yD 31 [pcI 20 (-t),pcD 21 [20] (M2V z (-t)),pcI 25 (-s),pcD 29 [25] (M2V (-s) y),pcD 30 [21,29] (fun w e7=>M4V w e7 z (-t) (-s) y)] ?_;refine sRd ?_;refine sRc (fun wS hI Gk G=>by go_simp;exact ck G (zCN _ t _ (L.ext hI.lext).J HK.out.2.2.1)) (fun h1 _=>?_);refine sRc (fun wS hI b4 Gk G=>?_) (fun h2 _=>?_)
 .obtain⟨f0,f2,f4,f6,h5,rfl,h7⟩:=id b4
  go_simp;exact⟨G _ _ ⟨_,_,_,_,_,_,_,_,rfl,M.ext hI.lext,b4⟩,zB _ _⟩
 refine sRd ?_;refine sRc (fun wS hI Gk G=>by go_simp;exact ck G (zCN _ s _ (K.ext hI.lext).J HK.out.2.1)) (fun h3 _=>?_);refine sRd ?_;refine sRc (fun wS hI b5 Gk G=>?_) (fun h4 _=>?_)
 .obtain⟨f1,f3,f5,f7,h6,rfl,h8⟩:=id b5
  go_simp;exact⟨G _ _ ⟨_,_,_,_,_,_,_,_,rfl,b5,J.ext hI.lext⟩,zB _ _⟩
 refine sRc (fun wS hI c7 c8 Gk G=>?_) (fun e8 _=>?_)
 .obtain⟨p0,p1,p2,p3,p4,p5,p6,p7,rfl,p8,p9⟩:=c7
  obtain⟨q0,q1,q2,q3,q4,q5,q6,q7,rfl,q8,q9⟩:=c8;go_simp;exact⟨G _ _ ⟨_,_,_,_,_,_,_,_,_,_,_,_,_,_,_,_,rfl,p8,p9,q8,q9⟩,zB _ _⟩
 refine sRe ?_;intro d5 N b4 c7 b5 c8 e5;have O:=o.I N;have p:=Q.I N;have q:=R.I N;have d1:M4V d5 e8 z (-t) (-s) y:=e5;obtain⟨p0,p1,p2,p3,p4,p5,p6,p7,p8,p9,g5,g6,g7,g8,g9,h0,rfl,-⟩:=id d1;clear o1 o2 x1 k0 k1 k2 k3 k4 k5 k6 k7 J K L M;go_wp2_with fail
 refine(zFK O H S b6 E F d1 c4 HI.out e0.out).mono ?_;rintro e d6 ⟨⟨u,rfl⟩,a,P⟩;have b2:w.heap.size≠di:=by have:=U di (by simp[f]);omega
 have b3:w.heap.size≠dj:=by have:=U dj (by simp[g]);omega
 have bx:=(bx.I N).row2 a p q dE;have B:Blk d6 w.heap.size 169 #[.bool n0,.slice a0 l0 c0,.bool n1,.slice a1 l1 c1,.bool n2,.slice a2 l2 c2,.bool n3,.slice a3 l3 c3]:=(B.I N).row2 a p q dE;have d:=(d.trans (jB.of _ N)).trans (⟨a.bel,a.lext,fun k hk I=>a.old k hk (by simp;exact⟨fun e=>I (by rw[e];simp[f]),fun e=>I (by rw[e];simp[g])⟩)⟩:jB _ d5 d6);have l:=(l.I N).only2 a (fun c=>Z _ c f) (fun c=>Z _ c g) p q;have m:=(m.I N).only2 a (fun c=>a5 _ c f) (fun c=>a5 _ c g) p q;go_wp2;exact bodyPost_end (results_none rfl _ _ _) rfl ⟨⟨_,rfl⟩,d,bx,l,m,P,a4,Z,a5,d8.out,d7.out,d9.out⟩
theorem zDD(t:TypeId)(n:Nat)(cs:Array Value)(k:Int)(j:Nat)(v:Value)(W:World)(h:Tryz.prog.underlying t=some (.array n tR))(c:k=(j:Int))(g:j<n)(hv:cs[j]?=some v):
  (Instr.index t (.agg cs) (niq k)).run Tryz.prog W= .ok v W:=by
 subst c;obtain⟨m,b,i,e,l⟩:=info_parts zCt;have a:(0:Int)<=(j:Int)/\(j:Int)<(n:Int):=oM;have d:=Tryz.underlying31;simp[Instr.index,run_underlying h,asIntOf,a,part,isAgg,run_underlying d,sizeOf,typeInfo,b,e,hv,go_sem];intro f;omega
theorem zS7(bw:Nat)(Ah Au Av:Value)(n Cs Ct i:Nat)(X Y W:List Nat)(q r p:Nat->Nat->Int)(w:World)(a5:Blk w bw tHW #[Ah,Au,Av])(h:zHO w Ah Au Av n Cs Ct X Y W q r p)(g:i<n)
  (Z:n<=1000000) (d0:Cs<=1000000) (d2:Ct<=1000000) (hS:∀a,a<n->∀b,b<Cs->Sm (q a b)) (hT:∀a,a<n->∀b,b<Ct->Sm (r a b)) (hI:∀a,a<n->∀b,b<Ct->Sm (p a b)):
  CPq 108 #[ptq bw 0,niq i] w fun e w'=>(∃u,e= .returned u)/\jB (fun b=>b∈X∨b∈Y∨b∈W) w w'/\Blk w' bw tHW #[Ah,Au,Av]∧
   zHO w' Ah Au Av n Cs Ct X Y W (zDT q i) (zDT r i) (zDT p i):=by
 obtain⟨so,sn,sc,rfl,s1,s2,s3,-⟩:=id (yH.rows h.s);obtain⟨uo,tn,tc,rfl,t1,t2,t3,-⟩:=id (yH.rows h.t);obtain⟨io,c9,ic,rfl,i1,i2,i3,-⟩:=id (yH.rows h.i);have HS:=xgv hS;have HT:=xgv hT;have HI:=xgv hI;clear hS hT hI;obtain⟨o,d,l,a9,a8,b0,b4,b3,b5⟩:=h;have c1:=xgv b4;have c0:=xgv b3;have c2:=xgv b5;clear b4 b3 b5;have e1:n=sn:=by rw[<-s1];simp[yV]
 have e2:n=tn:=by rw[<-t1];simp[yV]
 have e3:n=c9:=by rw[<-i1];simp[yV]
 subst e1;subst e2;subst e3;clear s1 t1 i1;obtain⟨gs,T,rfl,c4,a4,-,o1,-⟩:=yH.at_ o (i:=i) (by rw[o.len];exact g);obtain⟨gt,U,rfl,c5,a6,-,o2,-⟩:=yH.at_ d (i:=i) (by rw[d.len];exact g);obtain⟨gi,V,rfl,c3,a7,-,o3,-⟩:=yH.at_ l (i:=i) (by rw[l.len];exact g);have H:=jB.refl (fun b=>b∈X∨b∈Y∨b∈W) w;have x1:=a5.three;have d3:=a5.lt;go_enter Tryz.func108,Tryz.ntmps108;go_upto_region 0 with(fail)
 refine zBK [] ?_;refine sRd ?_;refine sRf ?_;intro w0 a2;have H:=H.trans (jB.of _ a2);have bx:=a5.I a2;have o:=o.I a2;have d:=d.I a2;have l:=l.I a2;clear o1 o2 o3 x1 a5 c4 c5 c3;go_wp2;go_loopw [30] (fun mv wr=>∃m:Nat,m<=3/\mv=niq m/\jB (fun b=>b∈X∨b∈Y∨b∈W) w wr/\Blk wr bw tHW #[slq gs n sc,slq gt n tc,slq gi n ic]∧
  Wri wr (slq gs n sc) n Cs X (if 0<m then zDT q i else q)/\Wri wr (slq gt n tc) n Ct Y (if 1<m then zDT r i else r)/\Wri wr (slq gi n ic) n Ct W (if 2<m then zDT p i else p)) (fun mv _=>3-(intOf mv).toNat)
 case atStart=>exact⟨0,oM,rfl,H,bx,o,d,l⟩
 clear H bx o d l;obtain⟨m,hm,rfl,H,bx,o,d,l⟩:=hrel;by_cases c6:m=0
 .subst c6
  rw[zA oM]at o d l;have A:=xgd a4;have P:=o.rowAt g a4;have b7:=fun a1=>zDD 171 3 #[slq T Cs Cs,slq U Ct Ct,slq V Ct Ct] 0 0 _ a1 Tryz.underlying171 rfl oM rfl
  have Q:∀F:Nat->Int,qQ Cs F=qQ Cs (jD (fun t=>-F t) F 0):=fun F=>qZ fun t _=>by unfold jD;rw[zA oM]
  rw[Q]at P;clear Q;go_wp2;go_loopw [35] (fun E wt=>∃j:Nat,j<=Cs/\E=niq j/\zA5 [T] wr wt/\(∃G,G=(fun t=>-q i t)/\yY wt T (qQ Cs (jD G (q i) j)))) (fun E _=>Cs-(intOf E).toNat)
  case atStart=>exact⟨0,oM,rfl,zA5.refl _ _,_,rfl,P⟩
  rename World=>wt
  obtain⟨j,hj,rfl,c,G,L,f⟩:=hrel;have x:=xgv (congrFun L);clear L;have b6:=c.bel.size;by_cases s:j<Cs
  .obtain⟨xs,xa,xl,xc,v1,v2,-,-,v⟩:=f.cell (qU s)
   have a3:jD G (q i) j j=q i j:=by unfold jD;rw[zA oM]
   rw[a3]at v;have b8:=f.lt;go_upto_region 6 with(fail)
   refine zE ?_;intro W6 M;obtain⟨y,I,b9⟩:=qL M;have d1:=I.two;have c:=c.trans (zA5.of [T] y);have f:=f.I y;have v:=v.ext (lx y);have l7:=I.lt;clear v1 v2 M;have a0:=xgv (HS.out i g j s);go_wp2_with fail
   refine(zCN _ (q i j) W6 v.J a0.out).mono ?_;rintro e w9 ⟨u,rfl,R,N⟩;obtain⟨pn,pa,pl,pc,px,rfl,O⟩:=id R;have b2:=xgw O;clear O;have S:=f.I N;obtain⟨zs,za,zl,zc,z1,z2,z3,z4,-⟩:=S.cell (qU s);have D:=S.set (k:=j) (by rw[zO];exact s) R;have c:=c.trans (zA5.of [T] N);go_wp2;go_roundw
   case rel=>
    have B:(qQ Cs (jD G (q i) j)).set j (-(q i j))=qQ Cs (jD G (q i) (j+1)):=by
     rw[zDJ];exact qZ fun t _=>by
      unfold jD;by_cases K:t=j
      .subst K
       rw[zC rfl,zC oM,x.out]
      rw[zA K];by_cases J:t<j
      .rw[zC J,zC oM]
      rw[zA J,zA oM]
    rw[B]at D;refine⟨_,_,_,_,_,_,_,_,_,_,_,_,_,?_,rfl⟩;exact⟨j+1,oM,by simp,c.trans ⟨yM (yM (zB _ _) (zG _) _ _) (zG _) _ _,D.2,fun i _ g=>yG _ _ _ _ _ _ _ (by simpa using g)⟩,_,funext x.out,D.1⟩
   case measure=>exact meq
  obtain rfl:j=Cs:=oM;have B:qQ j (jD G (q i) j)=qQ j (fun t=>-q i t):=qZ fun t d=>by unfold jD;rw[zC d];exact x.out t
  rw[B]at f;go_wp2;go_roundw
  case measure=>simp[intOf]
  have C:=o.rowAt g a4;exact⟨1,oM,by simp,H.trans ⟨c.bel,c.lext,fun k hk Z=>c.old k hk (by simp;rintro rfl;exact Z (.inl A))⟩,bx.row c C dE,by simpa using o.negRow g a4 c f,by simpa using d.only c (fun z=>a9 _ A z) C,by simpa using l.only c (fun z=>a8 _ A z) C⟩
 by_cases c7:m=1
 .subst c7
  rw[zC oM]at o;rw[zA oM]at d l;have A:=xgd a6;have P:=d.rowAt g a6;have b7:=fun a1=>zDD 171 3 #[slq T Cs Cs,slq U Ct Ct,slq V Ct Ct] 1 1 _ a1 Tryz.underlying171 rfl oM rfl
  have Q:∀F:Nat->Int,qQ Ct F=qQ Ct (jD (fun t=>-F t) F 0):=fun F=>qZ fun t _=>by unfold jD;rw[zA oM]
  rw[Q]at P;clear Q;go_wp2;go_loopw [35] (fun E wt=>∃j:Nat,j<=Ct/\E=niq j/\zA5 [U] wr wt/\(∃G,G=(fun t=>-r i t)/\yY wt U (qQ Ct (jD G (r i) j)))) (fun E _=>Ct-(intOf E).toNat)
  case atStart=>exact⟨0,oM,rfl,zA5.refl _ _,_,rfl,P⟩
  rename World=>wt
  obtain⟨j,hj,rfl,c,G,L,f⟩:=hrel;have x:=xgv (congrFun L);clear L;have b6:=c.bel.size;by_cases s:j<Ct
  .obtain⟨xs,xa,xl,xc,v1,v2,-,-,v⟩:=f.cell (qU s)
   have a3:jD G (r i) j j=r i j:=by unfold jD;rw[zA oM]
   rw[a3]at v;have b8:=f.lt;go_upto_region 6 with(fail)
   refine zE ?_;intro W6 M;obtain⟨y,I,b9⟩:=qL M;have d1:=I.two;have c:=c.trans (zA5.of [U] y);have f:=f.I y;have v:=v.ext (lx y);have l7:=I.lt;clear v1 v2 M;have a0:=xgv (HT.out i g j s);go_wp2_with fail
   refine(zCN _ (r i j) W6 v.J a0.out).mono ?_;rintro e w9 ⟨u,rfl,R,N⟩;obtain⟨pn,pa,pl,pc,px,rfl,O⟩:=id R;have b2:=xgw O;clear O;have S:=f.I N;obtain⟨zs,za,zl,zc,z1,z2,z3,z4,-⟩:=S.cell (qU s);have D:=S.set (k:=j) (by rw[zO];exact s) R;have c:=c.trans (zA5.of [U] N);go_wp2;go_roundw
   case rel=>
    have B:(qQ Ct (jD G (r i) j)).set j (-(r i j))=qQ Ct (jD G (r i) (j+1)):=by
     rw[zDJ];exact qZ fun t _=>by
      unfold jD;by_cases K:t=j
      .subst K
       rw[zC rfl,zC oM,x.out]
      rw[zA K];by_cases J:t<j
      .rw[zC J,zC oM]
      rw[zA J,zA oM]
    rw[B]at D;refine⟨_,_,_,_,_,_,_,_,_,_,_,_,_,?_,rfl⟩;exact⟨j+1,oM,by simp,c.trans ⟨yM (yM (zB _ _) (zG _) _ _) (zG _) _ _,D.2,fun i _ g=>yG _ _ _ _ _ _ _ (by simpa using g)⟩,_,funext x.out,D.1⟩
   case measure=>exact meq
  obtain rfl:j=Ct:=oM;have B:qQ j (jD G (r i) j)=qQ j (fun t=>-r i t):=qZ fun t d=>by unfold jD;rw[zC d];exact x.out t
  rw[B]at f;go_wp2;go_roundw
  case measure=>simp[intOf]
  have C:=d.rowAt g a6;exact⟨2,oM,by simp,H.trans ⟨c.bel,c.lext,fun k hk Z=>c.old k hk (by simp;rintro rfl;exact Z ((fun h=>.inr (.inl h)) A))⟩,bx.row c C dE,by simpa using o.only c (fun z=>a9 _ z A) C,by simpa using d.negRow g a6 c f,by simpa using l.only c (fun z=>b0 _ A z) C⟩
 by_cases c8:m=2
 .subst c8
  rw[zC oM]at o d;rw[zA oM]at l;have A:=xgd a7;have P:=l.rowAt g a7;have b7:=fun a1=>zDD 171 3 #[slq T Cs Cs,slq U Ct Ct,slq V Ct Ct] 2 2 _ a1 Tryz.underlying171 rfl oM rfl
  have Q:∀F:Nat->Int,qQ Ct F=qQ Ct (jD (fun t=>-F t) F 0):=fun F=>qZ fun t _=>by unfold jD;rw[zA oM]
  rw[Q]at P;clear Q;go_wp2;go_loopw [35] (fun E wt=>∃j:Nat,j<=Ct/\E=niq j/\zA5 [V] wr wt/\(∃G,G=(fun t=>-p i t)/\yY wt V (qQ Ct (jD G (p i) j)))) (fun E _=>Ct-(intOf E).toNat)
  case atStart=>exact⟨0,oM,rfl,zA5.refl _ _,_,rfl,P⟩
  rename World=>wt
  obtain⟨j,hj,rfl,c,G,L,f⟩:=hrel;have x:=xgv (congrFun L);clear L;have b6:=c.bel.size;by_cases s:j<Ct
  .obtain⟨xs,xa,xl,xc,v1,v2,-,-,v⟩:=f.cell (qU s)
   have a3:jD G (p i) j j=p i j:=by unfold jD;rw[zA oM]
   rw[a3]at v;have b8:=f.lt;go_upto_region 6 with(fail)
   refine zE ?_;intro W6 M;obtain⟨y,I,b9⟩:=qL M;have d1:=I.two;have c:=c.trans (zA5.of [V] y);have f:=f.I y;have v:=v.ext (lx y);have l7:=I.lt;clear v1 v2 M;have a0:=xgv (HI.out i g j s);go_wp2_with fail
   refine(zCN _ (p i j) W6 v.J a0.out).mono ?_;rintro e w9 ⟨u,rfl,R,N⟩;obtain⟨pn,pa,pl,pc,px,rfl,O⟩:=id R;have b2:=xgw O;clear O;have S:=f.I N;obtain⟨zs,za,zl,zc,z1,z2,z3,z4,-⟩:=S.cell (qU s);have D:=S.set (k:=j) (by rw[zO];exact s) R;have c:=c.trans (zA5.of [V] N);go_wp2;go_roundw
   case rel=>
    have B:(qQ Ct (jD G (p i) j)).set j (-(p i j))=qQ Ct (jD G (p i) (j+1)):=by
     rw[zDJ];exact qZ fun t _=>by
      unfold jD;by_cases K:t=j
      .subst K
       rw[zC rfl,zC oM,x.out]
      rw[zA K];by_cases J:t<j
      .rw[zC J,zC oM]
      rw[zA J,zA oM]
    rw[B]at D;refine⟨_,_,_,_,_,_,_,_,_,_,_,_,_,?_,rfl⟩;exact⟨j+1,oM,by simp,c.trans ⟨yM (yM (zB _ _) (zG _) _ _) (zG _) _ _,D.2,fun i _ g=>yG _ _ _ _ _ _ _ (by simpa using g)⟩,_,funext x.out,D.1⟩
   case measure=>exact meq
  obtain rfl:j=Ct:=oM;have B:qQ j (jD G (p i) j)=qQ j (fun t=>-p i t):=qZ fun t d=>by unfold jD;rw[zC d];exact x.out t
  rw[B]at f;go_wp2;go_roundw
  case measure=>simp[intOf]
  have C:=l.rowAt g a7;exact⟨3,oM,by simp,H.trans ⟨c.bel,c.lext,fun k hk Z=>c.old k hk (by simp;rintro rfl;exact Z ((fun h=>.inr (.inr h)) A))⟩,bx.row c C dE,by simpa using o.only c (fun z=>a8 _ z A) C,by simpa using d.only c (fun z=>b0 _ z A) C,by simpa using l.negRow g a7 c f⟩
 obtain rfl:m=3:=oM;rw[zC oM]at o d l;go_wp2;exact bodyPost_end (results_none rfl _ _ _) rfl ⟨⟨_,rfl⟩,H,bx,o,d,l,a9,a8,b0,c1.out,c0.out,c2.out⟩
theorem zKW(b:Value)(h i j k:Int)(w:World)(f:M4V w b h i j k):
  CPq 141 #[.slice none 0 0,.slice none 0 0,b] w fun e w'=>(∃u,e= .returned u)/\BWq w w':=by
 obtain⟨B,l,x,q,C,m,y,r,D,n,z,s,E,o,A,t,rfl,-⟩:=id f;go_enter Tryz.func141,Tryz.ntmps141;go_upto_region 1 with(fail)
 refine zE ?_;intro c a;obtain⟨d,p,v⟩:=qL a;clear a;go_wp2;go_loopw [11] (fun g wr=>g=niq 0/\wr=c) (fun _ _=>0)
 case atStart=>exact⟨rfl,rfl⟩
 obtain⟨rfl,rfl⟩:=hrel;go_wp2;exact bodyPost_end (results_none rfl _ _ _) rfl ⟨⟨_,rfl⟩,d⟩
theorem zRA(J:Nat)(z A B:Value)(n Cs i j:Nat)(q:List Nat)(S:Nat->Nat->Int)(kv:Value)(k:Int)(w:World)(a0:Blk w J tHW #[z,A,B])(a:Wri w z n Cs q S)(g:zET w A n)(hv:zET w B n)(y:i<n)(E:j<n)(b3:i≠j)(f:yA w kv k)
  (hn:n<=1000000) (a8:Cs<=1000000) (X:zO3 Cs S i j k) (a4:Sm k):
  CPq 106 #[ptq J 0,niq i,niq j,kv] w fun e w'=>(∃u,e= .returned u)/\jB (fun b=>b∈q) w w'/\Blk w' J tHW #[z,A,B]∧
   Wri w' z n Cs q (zDX S i j k)/\zET w' A n/\zET w' B n:=by
 obtain⟨so,sn,sc,rfl,s1,s2,s3,-⟩:=id (yH.rows a);obtain⟨kn,ka,kl,kc,kx,rfl,a5⟩:=id f;have b5:=xgw a5;have HS:=xgv X;have Q:=xgv a4;clear a5 X a4;have e1:n=sn:=by rw[<-s1];simp[yV]
 subst e1;clear s1;obtain⟨K,_,rfl,-⟩:=yH.at_ a (i:=i) (by rw[a.len];exact y);obtain⟨U,tc,-,rfl,-⟩:=id g;obtain⟨T,ic,-,rfl,-⟩:=id hv;have b4:∀b,b∈q->b<w.heap.size:=fun b hb=>(a.blk hb).elim fun r hr=>hr.lt
 go_enter Tryz.func106,Tryz.ntmps106;go_upto_region 1 with(fail)
 refine zE ?_;intro W0 Y;obtain⟨s,d,b7⟩:=qL Y;have bx:=a0.I s;have a:=a.I s;have g:=g.I s;have hv:=hv.I s;have f:=f.ext (lx s);have p:=jB.of (fun b=>b∈q) s;clear Y a0;obtain⟨v,R,h,M,L,a9,t,-⟩:=yH.at_ a (i:=i) (by rw[a.len];exact y);obtain⟨x,bj,l,b6,Z,b0,H,-⟩:=yH.at_ a (i:=j) (by rw[a.len];exact E);obtain rfl:K=v:=by injection h with h;injection h
 obtain rfl:K=x:=by injection l with l;injection l
 clear h l a9 b0;have F:=xgd L;obtain⟨ri,a6⟩:=a.blk F;have I:=bx.three;have C:=d.two;have a7:=bx.lt;have lk:=d.lt;refine yD 15 [] ?_;refine sRd ?_;refine sRf ?_;intro w8 m;have V:=a.I m;have G:=a6.I m;clear t H I C;go_wp2_with fail
 refine(zHX V y E b3 L Z _ (k) (f.ext (lx0 m)) a8 HS.out Q.out).mono ?_;rintro e P ⟨⟨u,rfl⟩,o,W⟩;have a3:w.heap.size≠R:=by have:=b4 R (by simp[F]);omega
 have bx:=(bx.I m).row o G dE;have d:Blk P w.heap.size 51 #[.bool kn,.slice ka kl kc]:=(o.old _ (d.I m).lt (by simpa using a3)).trans (d.I m);have f:=(f.ext (lx0 m)).ext o.lext;have p:=(p.trans (jB.of _ m)).trans (⟨o.bel,o.lext,fun k f hn=>o.old k f (by simp;rintro rfl;exact hn (by simp[F]))⟩:jB _ w8 P);have g:=(g.I m).row o G;have hv:=(hv.I m).row o G;have a:Wri P (slq K n sc) n Cs q (zDX S i j k):=W;clear o G a6 V W F a3 L Z;go_upto_region 2 with(fail)
 obtain⟨v,N,h,t⟩:=g.at_ y;obtain⟨x,O,l,H⟩:=g.at_ E;obtain⟨rfl,rfl⟩:U=v/\tc=N:=by simpa using h
 obtain⟨rfl,rfl⟩:U=x/\tc=O:=by simpa using l
 have M:=yW _ _ t;clear h l;have I:=bx.three;have C:=d.two;have a7:=bx.lt;have lk:=d.lt;refine yD 15 [] ?_;refine sRd ?_;refine sRf ?_;intro b9 a1;go_wp2_with fail
 refine(zKT _ k _ (f.ext (lx0 a1))).mono ?_;rintro e c0 ⟨⟨u,rfl⟩,D⟩;have c:=nx a1 D;have bx:=bx.I c;have d:=d.I c;have p:=p.trans (jB.of _ c);have a:=a.I c;have g:=g.I c;have hv:=hv.I c;have f:=f.ext (lx c);clear t H I C c D M;go_upto_region 3 with(fail)
 obtain⟨v,N,h,t⟩:=hv.at_ E;obtain⟨x,O,l,H⟩:=hv.at_ y;obtain⟨rfl,rfl⟩:T=v/\ic=N:=by simpa using h
 obtain⟨rfl,rfl⟩:T=x/\ic=O:=by simpa using l
 have M:=yW _ _ t;clear h l;have I:=bx.three;have C:=d.two;have a7:=bx.lt;have lk:=d.lt;refine yD 16 [pcI 15 (-k)] ?_;refine sRd ?_;refine sRc (fun wS hI Gk hG=>by go_simp;exact ck hG (zCN _ k _ (f.ext hI.lext).J Q.out)) (fun b8 _=>?_);refine sRe ?_;intro c1 b2 a2;obtain⟨pn,pa,pl,pc,px,rfl,-⟩:=id a2;go_wp2_with fail
 refine(zKT _ (-k) _ a2).mono ?_;rintro e c2 ⟨⟨u,rfl⟩,D⟩;have c:=nx b2 D;have bx:=bx.I c;have d:=d.I c;have p:=p.trans (jB.of _ c);have a:=a.I c;have g:=g.I c;have hv:=hv.I c;go_wp2;exact bodyPost_end (results_none rfl _ _ _) rfl ⟨⟨_,rfl⟩,p,bx,a,g,hv⟩
theorem zRB(bw:Nat)(L M N mv:Value)(n Cs i j:Nat)(D:List Nat)(S:Nat->Nat->Int)(p f g q:Int)(w:World)(b5:Blk w bw tHW #[L,M,N])(c:Wri w L n Cs D S)(o:zET w M n)(hv:zET w N n)(I:i<n)(R:j<n)(d3:i≠j)(hm:M4V w mv p f g q)
  (hn:n<=1000000) (c8:Cs<=1000000) (hS:zTb Cs (S i) (S j) p f g q) (c4:Sm p/\Sm f/\Sm g/\Sm q):
  CPq 107 #[ptq bw 0,niq i,niq j,mv] w fun e w'=>(∃u,e= .returned u)/\jB (fun b=>b∈D) w w'/\Blk w' bw tHW #[L,M,N]∧
   Wri w' L n Cs D (zAQ S i j p f g q)/\zET w' M n/\zET w' N n:=by
 obtain⟨so,sn,sc,rfl,s1,s2,s3,-⟩:=id (yH.rows c);have HS:=xgv hS;have HK:=xgv c4;obtain⟨n0,a0,l0,c0,n1,a1,l1,c1,n2,a2,l2,c2,n3,a3,l3,c3,rfl,x,y,z,A⟩:=id hm;have h:=xgv (And.intro x (And.intro y (And.intro z A)));clear hS c4 hm x y z A;have e1:n=sn:=by rw[<-s1];simp[yV]
 subst e1;clear s1;obtain⟨gs,_,rfl,-⟩:=yH.at_ c (i:=i) (by rw[c.len];exact I);obtain⟨gt,tc,-,rfl,-⟩:=id o;obtain⟨gi,ic,-,rfl,-⟩:=id hv;have b8:∀b,b∈D->b<w.heap.size:=fun b hb=>(c.blk hb).elim fun r hr=>hr.lt
 go_enter Tryz.func107,Tryz.ntmps107;go_upto_region 1 with(fail)
 refine zE ?_;intro W0 b4;obtain⟨G,l,f2⟩:=qL b4;have bx:=b5.I G;have c:=c.I G;have o:=o.I G;have hv:=hv.I G;have a:=jB.of (fun b=>b∈D) G;have e9:=zFM q (-g);have f0:=zFM (-f) p;have f1:=zJu q (-g) (-f) p;clear b4 b5;obtain⟨E,bi,s,a8,a4,c9,C,-⟩:=yH.at_ c (i:=i) (by rw[c.len];exact I);obtain⟨F,bj,t,e8,a5,d0,o2,-⟩:=yH.at_ c (i:=j) (by rw[c.len];exact R);obtain rfl:gs=E:=by injection s with s;injection s
 obtain rfl:gs=F:=by injection t with t;injection t
 clear s t c9 d0;have T:=xgd a4;have U:=xgd a5;obtain⟨ri,c5⟩:=c.blk T;obtain⟨rj,c6⟩:=c.blk U;have x1:=bx.three;obtain⟨V,W,X,Y,Z,k5,k6,k7⟩:=l.eight;have c7:=bx.lt;have lm:=l.lt;have x:=h.out.1.ext a.lext;have y:=h.out.2.1.ext a.lext;have z:=h.out.2.2.1.ext a.lext;have A:=h.out.2.2.2.ext a.lext;refine yD 15 [] ?_;refine sRd ?_;refine sRf ?_;intro w8 m;have b2:=c.I m;have J:=c5.I m;have K:=c6.I m;clear C o2 x1 V W X Y Z k5 k6 k7;go_wp2_with fail
 refine(zFK b2 I R d3 a4 a5 ⟨_,_,_,_,_,_,_,_,_,_,_,_,_,_,_,_,rfl,x.ext (lx0 m),y.ext (lx0 m),z.ext (lx0 m),A.ext (lx0 m)⟩ c8 HS.out HK.out).mono ?_;rintro e w9 ⟨⟨u,rfl⟩,B,b3⟩;have d4:w.heap.size≠bi:=by have:=b8 bi (by simp[T]);omega
 have d5:w.heap.size≠bj:=by have:=b8 bj (by simp[U]);omega
 have bx:=(bx.I m).row2 B J K dE;have l:Blk w9 w.heap.size 169 #[.bool n0,.slice a0 l0 c0,.bool n1,.slice a1 l1 c1,.bool n2,.slice a2 l2 c2,.bool n3,.slice a3 l3 c3]:=(l.I m).row2 B J K dE;have a:=(a.trans (jB.of _ m)).trans (⟨B.bel,B.lext,fun k hk hn=>B.old k hk (by simp;exact⟨fun e=>hn (by rw[e];simp[T]),fun e=>hn (by rw[e];simp[U])⟩)⟩:jB _ w8 w9);have o:=(o.I m).row2 B J K;have hv:=(hv.I m).row2 B J K;have c:=b3;clear B J c5 K c6 b2 b3 T U d4 d5 a4 a5;go_upto_region 2 with(fail)
 obtain⟨E,a9,s,C⟩:=o.at_ I;obtain⟨F,b0,t,o2⟩:=o.at_ R;obtain⟨rfl,rfl⟩:gt=E/\tc=a9:=by simpa using s
 obtain⟨rfl,rfl⟩:gt=F/\tc=b0:=by simpa using t
 have a8:=yW _ _ C;clear s t;have x1:=bx.three;obtain⟨V,W,X,Y,Z,k5,k6,k7⟩:=l.eight;have P:=l;have x:=h.out.1.ext a.lext;have y:=h.out.2.1.ext a.lext;have z:=h.out.2.2.1.ext a.lext;have A:=h.out.2.2.2.ext a.lext;have c7:=bx.lt;have lk:=P.lt;refine yD 15 [] ?_;refine sRd ?_;refine sRf ?_;intro g6 H;go_wp2_with fail
 refine(zKW _ p f g q _ ⟨_,_,_,_,_,_,_,_,_,_,_,_,_,_,_,_,rfl,x.ext (lx0 H),y.ext (lx0 H),z.ext (lx0 H),A.ext (lx0 H)⟩).mono ?_;rintro e g7 ⟨⟨u,rfl⟩,Q⟩;have d:=nx H Q;have bx:=bx.I d;have l:=l.I d;have a:=a.trans (jB.of _ d);have c:=c.I d;have o:=o.I d;have hv:=hv.I d;clear C o2 x1 V W X Y Z k5 k6 k7 d Q a8 P x y z A;go_upto_region 3 with(fail)
 obtain⟨E,a9,s,C⟩:=hv.at_ I;obtain⟨F,b0,t,o2⟩:=hv.at_ R;obtain⟨rfl,rfl⟩:gi=E/\ic=a9:=by simpa using s
 obtain⟨rfl,rfl⟩:gi=F/\ic=b0:=by simpa using t
 have a8:=yW _ _ C;clear s t;have x1:=bx.three;obtain⟨V,W,X,Y,Z,k5,k6,k7⟩:=l.eight;have P:=l;have x:=h.out.1.ext a.lext;have y:=h.out.2.1.ext a.lext;have z:=h.out.2.2.1.ext a.lext;have A:=h.out.2.2.2.ext a.lext;have c7:=bx.lt;have lk:=P.lt;refine yD 31 [pcI 20 (-g),pcD 21 [20] (M2V q (-g)),pcI 25 (-f),pcD 29 [25] (M2V (-f) p),pcD 30 [21,29] (fun w d6=>M4V w d6 q (-g) (-f) p)] ?_;refine sRd ?_;refine sRc (fun wS hI O v=>by go_simp;exact ck v (zCN _ g _ (z.ext hI.lext).J HK.out.2.2.1)) (fun f9 _=>?_);refine sRc (fun wS hI a6 O v=>?_) (fun g3 _=>?_)
 .obtain⟨d9,e2,e4,e6,g9,rfl,h1⟩:=id a6
  go_simp;exact⟨v _ _ ⟨_,_,_,_,_,_,_,_,rfl,A.ext hI.lext,a6⟩,zB _ _⟩
 refine sRd ?_;refine sRc (fun wS hI O v=>by go_simp;exact ck v (zCN _ f _ (y.ext hI.lext).J HK.out.2.1)) (fun g4 _=>?_);refine sRd ?_;refine sRc (fun wS hI a7 O v=>?_) (fun g5 _=>?_)
 .obtain⟨e0,e3,e5,e7,h0,rfl,h2⟩:=id a7
  go_simp;exact⟨v _ _ ⟨_,_,_,_,_,_,_,_,rfl,a7,x.ext hI.lext⟩,zB _ _⟩
 refine sRc (fun wS hI b6 b7 O v=>?_) (fun d7 _=>?_)
 .obtain⟨p0,p1,p2,p3,p4,p5,p6,p7,rfl,p8,p9⟩:=b6
  obtain⟨q0,q1,q2,q3,q4,q5,q6,q7,rfl,q8,q9⟩:=b7;go_simp;exact⟨v _ _ ⟨_,_,_,_,_,_,_,_,_,_,_,_,_,_,_,_,rfl,p8,p9,q8,q9⟩,zB _ _⟩
 refine sRe ?_;intro d8 d1 a6 b6 a7 b7 d2;have b9:M4V d8 d7 q (-g) (-f) p:=d2;obtain⟨p0,p1,p2,p3,p4,p5,p6,p7,p8,p9,f3,f4,f5,f6,f7,f8,rfl,-⟩:=id b9;go_wp2_with fail
 refine(zKW _ q (-g) (-f) p _ b9).mono ?_;rintro e g8 ⟨⟨u,rfl⟩,Q⟩;have d:=nx d1 Q;have bx:=bx.I d;have l:=l.I d;have a:=a.trans (jB.of _ d);have c:=c.I d;have o:=o.I d;have hv:=hv.I d;go_wp2;exact bodyPost_end (results_none rfl _ _ _) rfl ⟨⟨_,rfl⟩,a,bx,c,o,hv⟩
theorem zRC(A:Nat)(x y z:Value)(n Cs i:Nat)(s:List Nat)(d:Nat->Nat->Int)(w:World)(C:Blk w A tHW #[x,y,z])(c:Wri w x n Cs s d)(g:zET w y n)(hv:zET w z n)(l:i<n)
  (Z:n<=1000000) (b5:Cs<=1000000) (U:∀a,a<n->∀b,b<Cs->Sm (d a b)):
  CPq 108 #[ptq A 0,niq i] w fun e w'=>(∃u,e= .returned u)/\jB (fun b=>b∈s) w w'/\Blk w' A tHW #[x,y,z]∧
   Wri w' x n Cs s (zDT d i)/\zET w' y n/\zET w' z n:=by
 obtain⟨so,sn,sc,rfl,s1,s2,s3,-⟩:=id (yH.rows c);have HS:=xgv U;have e1:n=sn:=by rw[<-s1];simp[yV]
 subst e1;clear s1 U;obtain⟨P,o,rfl,a6,B,-,o1,-⟩:=yH.at_ c (i:=i) (by rw[c.len];exact l);obtain⟨Q,tc,rfl,o2⟩:=g.at_ l;obtain⟨O,ic,rfl,o3⟩:=hv.at_ l;have h:=jB.refl (fun b=>b∈s) w;have x1:=C.three;have b9:=C.lt;have a7:=yW _ _ o2;have a5:=yW _ _ o3;go_enter Tryz.func108,Tryz.ntmps108;go_upto_region 0 with(fail)
 refine zBK [] ?_;refine sRd ?_;refine sRf ?_;intro w0 v;have h:=h.trans (jB.of _ v);have bx:=C.I v;have c:=c.I v;have g:=g.I v;have hv:=hv.I v;clear o1 o2 o3 x1 C a6 a7 a5;go_wp2;go_loopw [30] (fun M wr=>∃m:Nat,m<=3/\M=niq m/\jB (fun b=>b∈s) w wr/\Blk wr A tHW #[slq P n sc,slq Q n tc,slq O n ic]∧
  Wri wr (slq P n sc) n Cs s (if 0<m then zDT d i else d)/\zET wr (slq Q n tc) n/\zET wr (slq O n ic) n) (fun M _=>3-(intOf M).toNat)
 case atStart=>exact⟨0,oM,rfl,h,bx,c,g,hv⟩
 clear h bx c g hv;obtain⟨m,hm,rfl,h,bx,c,g,hv⟩:=hrel;by_cases a8:m=0
 .subst a8
  rw[zA oM]at c;have b2:=xgd B;have a1:=c.rowAt l B;have Y:=fun W=>zDD 171 3 #[slq o Cs Cs,.slice none 0 0,.slice none 0 0] 0 0 _ W Tryz.underlying171 rfl oM rfl
  have a2:∀F:Nat->Int,qQ Cs F=qQ Cs (jD (fun t=>-F t) F 0):=fun F=>qZ fun t _=>by unfold jD;rw[zA oM]
  rw[a2]at a1;clear a2;go_wp2;go_loopw [35] (fun r wt=>∃j:Nat,j<=Cs/\r=niq j/\zA5 [o] wr wt/\(∃G,G=(fun t=>-d i t)/\yY wt o (qQ Cs (jD G (d i) j)))) (fun r _=>Cs-(intOf r).toNat)
  case atStart=>exact⟨0,oM,rfl,zA5.refl _ _,_,rfl,a1⟩
  rename World=>wt
  obtain⟨j,hj,rfl,f,G,T,p⟩:=hrel;have H:=xgv (congrFun T);clear T;have b6:=f.bel.size;by_cases D:j<Cs
  .obtain⟨xs,xa,xl,xc,v1,v2,-,-,E⟩:=p.cell (qU D)
   have b3:jD G (d i) j j=d i j:=by unfold jD;rw[zA oM]
   rw[b3]at E;have b7:=p.lt;go_upto_region 6 with(fail)
   refine zE ?_;intro W6 V;obtain⟨I,N,b8⟩:=qL V;have d1:=N.two;have f:=f.trans (zA5.of [o] I);have p:=p.I I;have E:=E.ext (lx I);have l7:=N.lt;clear v1 v2 V;have a4:=xgv (HS.out i l j D);go_wp2_with fail
   refine(zCN _ (d i j) W6 E.J a4.out).mono ?_;rintro e w9 ⟨u,rfl,g,X⟩;obtain⟨pn,pa,pl,pc,px,rfl,a0⟩:=id g;have b4:=xgw a0;clear a0;have a3:=p.I X;obtain⟨zs,za,zl,zc,z1,z2,z3,z4,-⟩:=a3.cell (qU D);have L:=a3.set (k:=j) (by rw[zO];exact D) g;have f:=f.trans (zA5.of [o] X);go_wp2;go_roundw
   case rel=>
    have J:(qQ Cs (jD G (d i) j)).set j (-(d i j))=qQ Cs (jD G (d i) (j+1)):=by
     rw[zDJ];exact qZ fun t _=>by
      unfold jD;by_cases S:t=j
      .subst S
       rw[zC rfl,zC oM,H.out]
      rw[zA S];by_cases R:t<j
      .rw[zC R,zC oM]
      rw[zA R,zA oM]
    rw[J]at L;refine⟨_,_,_,_,_,_,_,_,_,_,_,_,_,?_,rfl⟩;exact⟨j+1,oM,by simp,f.trans ⟨yM (yM (zB _ _) (zG _) _ _) (zG _) _ _,L.2,fun i _ l=>yG _ _ _ _ _ _ _ (by simpa using l)⟩,_,funext H.out,L.1⟩
   case measure=>exact meq
  obtain rfl:j=Cs:=oM;have J:qQ j (jD G (d i) j)=qQ j (fun t=>-d i t):=qZ fun t ht=>by unfold jD;rw[zC ht];exact H.out t
  rw[J]at p;go_wp2;go_roundw
  case measure=>simp[intOf]
  have K:=c.rowAt l B;exact⟨1,oM,by simp,h.trans ⟨f.bel,f.lext,fun k hk Z=>f.old k hk (by simp;rintro rfl;exact Z (id b2))⟩,bx.row f K dE,by simpa using c.negRow l B f p,g.row f K,hv.row f K⟩
 by_cases a9:m=1
 .subst a9
  rw[zC oM]at c;have Y:=fun W=>zDD 171 3 #[slq o Cs Cs,.slice none 0 0,.slice none 0 0] 1 1 _ W Tryz.underlying171 rfl oM rfl
  go_wp2;go_loopw [35] (fun r wt=>r=niq 0/\wt=wr) (fun _ _=>0)
  case atStart=>exact⟨rfl,rfl⟩
  rename World=>wt
  obtain⟨rfl,q⟩:=hrel;have q:=q.symm;subst q;go_wp2;go_roundw
  case measure=>simp[intOf]
  exact⟨2,oM,by simp,h,bx,by simpa using c,g,hv⟩
 by_cases b0:m=2
 .subst b0
  rw[zC oM]at c;have Y:=fun W=>zDD 171 3 #[slq o Cs Cs,.slice none 0 0,.slice none 0 0] 2 2 _ W Tryz.underlying171 rfl oM rfl
  go_wp2;go_loopw [35] (fun r wt=>r=niq 0/\wt=wr) (fun _ _=>0)
  case atStart=>exact⟨rfl,rfl⟩
  rename World=>wt
  obtain⟨rfl,q⟩:=hrel;have q:=q.symm;subst q;go_wp2;go_roundw
  case measure=>simp[intOf]
  exact⟨3,oM,by simp,h,bx,by simpa using c,g,hv⟩
 obtain rfl:m=3:=oM;rw[zC oM]at c;go_wp2;exact bodyPost_end (results_none rfl _ _ _) rfl ⟨⟨_,rfl⟩,h,bx,c,g,hv⟩
end Go.Proofs.YtniiekppgdkknaaGreat
