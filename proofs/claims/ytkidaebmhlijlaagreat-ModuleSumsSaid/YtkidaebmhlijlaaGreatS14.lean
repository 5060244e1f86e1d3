/- Joined. -/
import Derived.Test.YtkidaebmhlijlaaGreatS11
import Derived.Test.YtkidaebmhlijlaaGreatS12
set_option linter.unusedVariables false
set_option linter.unusedSimpArgs false
set_option linter.unusedSectionVars false
set_option maxHeartbeats 16000000
set_option maxRecDepth 100000
variable{B C Cs Ct M R T a h i j k k' m n p q r r' rank t:Nat}{L cols x:Nat->Int}{c c':Nat->Nat}{A F G H P Q X:Nat->Nat->Int}
namespace Go.Proofs.YtkidaebmhlijlaaGreat
open Go.RowKit
theorem zLd(n:Nat)(w:World)(hn:n<=1000000):
  Calls Tryz.prog 64 #[.int .i64 n] w fun e w'=>e= .returned (.slice (some ⟨w.heap.size,0,none⟩) n n)/\Blk w' w.heap.size tN (zBZ n (fun t=>(t:Int)))/\Below w.heap.size w w':=by
 have hmk:=fun W=>mkN (n:Int) n rfl oM W
 obtain⟨f,hf⟩:∃f:Nat->Int,(fun t:Nat=>(t:Int))=f:=⟨_,rfl⟩;have hfi:∀i:Nat,(i:Int)=f i:=fun i=>congrFun hf i
 rw[hf];have HF:=xgv hfi;clear hf hfi;go_enter Tryz.func64,Tryz.ntmps64;go_upto_region 2 with(fail)
 refine zD ?_;intro W0 hW0;obtain⟨hB0,bA,hs0⟩:=qM hW0;have hst:zBZ n (fun _=>0)=zBZ n (zHd f 0):=zDw fun t _=>by unfold zHd;rw[if_neg oM]
 rw[hst]at bA;clear hW0 hmk hst;go_wp2;go_loopw [9] (fun iv wr=>∃i:Nat,i<=n/\iv= .int .i64 i/\Below w.heap.size w wr/\Blk wr w.heap.size tN (zBZ n (zHd f i))) (fun iv _=>n-(intOf iv).toNat)
 case atStart=>exact⟨0,by omega,rfl,hB0,bA⟩
 obtain⟨i,hi,rfl,hB,bA⟩:=hrel;by_cases hlt:i<n
 ·have k1:=(bA.cell i).trans (zEE hlt)
  have k2:=bA.frozen i;have hbs:=bA.set_ i (.int .i64 (f i));rw[zJd,zKM,<-HF.out]at hbs;go_wp2;go_roundw
  case rel=>exact⟨i+1,by omega,by simp,yJ hB (xgf _) _ _,by simpa using hbs⟩
  case measure=>simp[intOf];omega
 obtain rfl:i=n:=by omega
 have he:zBZ i (zHd f i)=zBZ i f:=zDw fun t ht=>by unfold zHd;rw[if_pos ht]
 rw[he]at bA;go_wp2;go_ret;exact⟨rfl,bA,hB⟩
theorem zPo(i m b:Nat)(w:World)(hb:Blk w b 3 #[.int .i64 m])(hi:i<m):
  Calls Tryz.prog 106 #[.int .i64 i,.pointer (some ⟨b,0,none⟩)] w fun e w'=>e= .returned (.bool false)/\Below w.heap.size w w':=by
 have q1:=hb.cell 0;go_enter Tryz.func106,Tryz.ntmps106;go_wp2;go_ret;refine⟨?_,zA _ _⟩;have h1:decide ((i:Int) ≥ (m:Int))=false:=decide_eq_false oM;simp[h1];try omega
theorem zL3(m:Nat)(w:World):
  Calls Tryz.prog 105 #[.int .i64 m] w fun e w'=>e= .returned (.func (.func 106) #[] #[.pointer (some ⟨w.heap.size,0,none⟩)])/\Blk w' w.heap.size 3 #[.int .i64 m]/\Below w.heap.size w w':=by
 have hmf:∀(fn:Fn) (first cap:Array Value) (w:World),(Instr.makeFunc fn first cap).run Tryz.prog w= .ok (.func fn first cap) w:=fun _ _ _ _=>rfl
 go_enter Tryz.func105,Tryz.ntmps105;go_upto_region 1 with(fail)
 refine zD ?_;intro W0 hW0;obtain⟨hB0,bx,hs0⟩:=qM hW0;clear hW0;go_wp2;go_ret;exact⟨rfl,bx,hB0⟩
theorem zTb(n m g b:Nat)(w:World)(hg:Blk w g tN (zBZ n (fun t=>(t:Int))))(hb:Blk w b 3 #[.int .i64 m])(hn:n<=m)(hm:m<=1000000):
  Calls Tryz.prog 152 #[.slice (some ⟨g,0,none⟩) n n,.func (.func 106) #[] #[.pointer (some ⟨b,0,none⟩)]] w fun e w'=>e= .returned (.int .i64 (-1))/\Below w.heap.size w w':=by
 go_enter Tryz.func152,Tryz.ntmps152;go_wp2;go_loopw [8] (fun iv wr=>∃i:Nat,i<=n/\iv= .int .i64 i/\Below w.heap.size w wr) (fun iv _=>n-(intOf iv).toNat)
 case atStart=>exact⟨0,by omega,rfl,zA _ _⟩
 obtain⟨i,hi,rfl,hB⟩:=hrel;by_cases hlt:i<n
 ·have q1:=((hg.below hB).cell i).trans (zEE hlt)
  go_wp2_with fail
  refine(zPo i m b _ (hb.below hB) oM).mono ?_;rintro e w1 ⟨rfl,hb1⟩;have hB:=nx hB hb1;clear q1;go_wp2;go_roundw
  case rel=>exact⟨i+1,by omega,by simp,hB⟩
  case measure=>simp[intOf];omega
 obtain rfl:i=n:=by omega
 go_wp2;go_ret;exact⟨rfl,hB⟩
theorem zLZ(n m g b:Nat)(w:World)(hg:Blk w g tN (zBZ n (fun t=>(t:Int))))(hb:Blk w b 3 #[.int .i64 m])(hn:n<=m)(hm:m<=1000000):
  Calls Tryz.prog 107 #[.slice (some ⟨g,0,none⟩) n n,.func (.func 106) #[] #[.pointer (some ⟨b,0,none⟩)]] w fun e w'=>e= .returned (.bool false)/\Below w.heap.size w w':=by
 have H:=xgv hg;have HB:=xgv hb;clear hg hb;go_enter Tryz.func107,Tryz.ntmps107;go_wp2_with fail
 refine(zTb n m g b w H.out HB.out hn hm).mono ?_;rintro e w1 ⟨rfl,hb1⟩;go_wp2;go_ret;exact⟨rfl,hb1⟩
inductive Op where
 |add (i j:Nat) (k:Int)
 |swap (i j:Nat)
 |neg (i:Nat)
def Op.f:Op->(Nat->Nat->Int)->(Nat->Nat->Int)
 | .add i j k,F=>zCe F i j k
 | .swap i j,F=>zG9 F i j
 | .neg i,F=>zDM F i
def Op.d:Op->(Nat->Nat->Int)->(Nat->Nat->Int)
 | .add i j k,F=>zCe F j i (-k)
 | .swap i j,F=>zG9 F i j
 | .neg i,F=>zDM F i
def Op.b(o:Op)(x:Bst):Bst:=⟨o.f x.s,o.f x.t,o.d x.i⟩
def Op.g:Op->Nat
 | .add _ _ k=>1+k.natAbs
 |_=>1
def Op.ok(n:Nat):Op->Prop
 | .add i j _=>i<n/\j<n/\i≠j
 | .swap i j=>i<n/\j<n
 | .neg i=>i<n
def zA9:List Op->(Nat->Nat->Int)->(Nat->Nat->Int)
 | [],F=>F
 |o::l,F=>zA9 l (o.f F)
def zMe:List Op->(Nat->Nat->Int)->(Nat->Nat->Int)
 | [],F=>F
 |o::l,F=>zMe l (o.d F)
def zCK:List Op->Bst->Bst
 | [],x=>x
 |o::l,x=>zCK l (o.b x)
def gro:List Op->Nat
 | []=>1
 |o::l=>o.g*gro l
def jN(n:Nat)(l:List Op):Prop:=∀o∈l,o.ok n
theorem zHQ(l:List Op):∀x:Bst,zCK l x=⟨zA9 l x.s,zA9 l x.t,zMe l x.i⟩:=by
 induction l with
 |nil=>intro x;rfl
 |cons o l ih=>intro x;exact ih _
theorem zGL(l:List Op)(x:Bst):(zCK l x).s=zA9 l x.s:=by rw[zHQ]
theorem zFJ(l m:List Op):∀F,zA9 (l++m) F=zA9 m (zA9 l F):=by
 induction l with
 |nil=>intro F;rfl
 |cons o l ih=>intro F;exact ih _
theorem zDa(l m:List Op):∀x,zCK (l++m) x=zCK m (zCK l x):=by
 induction l with
 |nil=>intro F;rfl
 |cons o l ih=>intro F;exact ih _
theorem zGa(l m:List Op):gro (l++m)=gro l*gro m:=by
 induction l with
 |nil=>simp[gro]
 |cons o l ih=>simp[gro,ih,Nat.mul_assoc]
theorem jN.app{l m:List Op}(h:jN n l)(k:jN n m):jN n (l++m):=fun o ho=>(List.mem_append.1 ho).elim (h o) (k o)
theorem jN.cons{o:Op}{m:List Op}(h:o.ok n)(k:jN n m):jN n (o::m):=fun p hp=>by
 rcases List.mem_cons.1 hp with rfl|hp
 exact h;exact k p hp
theorem jN.nil:jN n []:=fun o ho=>by cases ho
theorem Op.g_pos(o:Op):1<=o.g:=by cases o<;>simp[Op.g]
theorem zHH(l:List Op):1<=gro l:=by
 induction l with
 |nil=>exact xgf _
 |cons o l ih=>exact yA o.g_pos ih
def leM(M n C:Nat)(F:Nat->Nat->Int):Prop:=∀a,a<n->∀b,b<C->(F a b).natAbs<=M
theorem leM.mono{M':Nat}(h:leM M n C F)(hM:M<=M'):leM M' n C F:=fun a ha b hb=>zB (h a ha b hb) hM
theorem leM.ok(h:leM M n C F)(hM:M<B):okF B n C F:=fun a ha b hb=>zJ (h a ha b hb) hM
theorem zRZ{k:Int}(h:leM M n C F)(hi:i<n)(hj:j<n):leM (M*(1+k.natAbs)) n C (zCe F i j k):=by
 intro a ha b hb;unfold zCe;split
 ·have h1:=h i hi b hb
  have h2:=h j hj b hb;have h3:(k*F j b).natAbs<=k.natAbs*M:=by rw[qZ];exact zF _ h2
  have h4:(F i b+k*F j b).natAbs<=(F i b).natAbs+(k*F j b).natAbs:=by omega
  rw[zAF,zAn,zN M];omega
 exact zB (h a ha b hb) (zQ _ oM)
theorem zOi(hi:i<n)(hj:j<n)(ha:a<n):swp i j a<n:=by unfold swp;split;exact hj;split;exact hi;exact ha
theorem zRb{o:Op}(h:leM M n C F)(ho:o.ok n):leM (M*o.g) n C (o.f F):=by
 cases o with
 |add i j k=>exact zRZ h ho.1 ho.2.1
 |swap i j=>
  intro a ha b hb;simp only[Op.g,Nat.mul_one];exact h _ (zOi ho.1 ho.2 ha) b hb
 |neg i=>
  intro a ha b hb;simp only[Op.g,Nat.mul_one,Op.f,zDM];split;rw[zT];exact h a ha b hb;exact h a ha b hb
theorem zXA{o:Op}(h:leM M n C F)(ho:o.ok n):leM (M*o.g) n C (o.d F):=by
 cases o with
 |add i j k=>
  have:=zRZ (k:=-k) h ho.2.1 ho.1;rwa[zT]at this
 |swap i j=>exact zRb (o:=.swap i j) h ho
 |neg i=>exact zRb (o:=.neg i) h ho
theorem zDX{l:List Op}(hl:jN n l):∀{M:Nat} {F:Nat->Nat->Int},leM M n C F->leM (M*gro l) n C (zA9 l F):=by
 induction l with
 |nil=>intro M F h;simpa[gro,zA9]using h
 |cons o l ih=>
  intro M F h;have:=ih (fun p hp=>hl p (zR _ hp)) (zRb h (hl o (zAC ..)));rwa[zC]at this
theorem zKj{l:List Op}(hl:jN n l):∀{M:Nat} {F:Nat->Nat->Int},leM M n C F->leM (M*gro l) n C (zMe l F):=by
 induction l with
 |nil=>intro M F h;simpa[gro,zMe]using h
 |cons o l ih=>
  intro M F h;have:=ih (fun p hp=>hl p (zR _ hp)) (zXA h (hl o (zAC ..)));rwa[zC]at this
def leB(M n Cs Ct:Nat)(x:Bst):Prop:=leM M n Cs x.s/\leM M n Ct x.t/\leM M n Ct x.i
theorem zVt{o:Op}{x:Bst}(h:leB M n Cs Ct x)(ho:o.ok n):leB (M*o.g) n Cs Ct (o.b x):=⟨zRb h.1 ho,zRb h.2.1 ho,zXA h.2.2 ho⟩
theorem zGd{l:List Op}(hl:jN n l){x:Bst}(h:leB M n Cs Ct x):leB (M*gro l) n Cs Ct (zCK l x):=by
 rw[zHQ];exact⟨zDX hl h.1,zDX hl h.2.1,zKj hl h.2.2⟩
theorem zIE{k:Int}{x:Bst}(h:leB M n Cs Ct x)(hi:i<n)(hj:j<n)(hij:i≠j)(hM:1<=M)(hB:M*(1+k.natAbs)<B):zFI B n Cs Ct x i j k:=by
 have e:M*(1+k.natAbs)=M+M*k.natAbs:=by rw[zAF,zAn]
 have hk:k.natAbs<=M*k.natAbs:=qK _ hM;have hp:∀z:Int,z.natAbs<=M->(k*z).natAbs<B:=fun z hz=>by
  have:k.natAbs*z.natAbs<=k.natAbs*M:=zF _ hz;rw[qZ];rw[zN k.natAbs M]at this;omega
 have h2:=zVt (o:=.add i j k) h ⟨hi,hj,hij⟩;exact⟨by omega,fun t ht=>hp _ (h.1 j hj t ht),fun t ht=>⟨hp _ (h.2.1 j hj t ht),hp _ (h.2.2 i hi t ht)⟩,h2.1.ok hB,h2.2.1.ok hB,h2.2.2.ok hB⟩
theorem zXt{b:Nat}{o:Op}(ho:o.ok n)(h:∀a,a<n->F a b=qH R fun t=>P a t*G t b):∀a,a<n->o.f F a b=qH R fun t=>o.f P a t*G t b:=by
 intro a ha;cases o with
 | add i j k=>
  show(if a=i then F i b+k*F j b else F a b)=qH R fun t=>(if a=i then P i t+k*P j t else P a t)*G t b
  by_cases e:a=i
  ·rw[if_pos e,h i ho.1,h j ho.2.1,<-jH,<-zBj]
   refine zL fun t ht=>?_
   rw[if_pos e,zBk,qI]
  rw[if_neg e,h a ha];refine zL fun t ht=>?_
  rw[if_neg e]
 |swap i j=>exact h _ (zOi ho.1 ho.2 ha)
 | neg i=>
  show(if a=i then-(F a b)else F a b)=qH R fun t=>(if a=i then-(P a t)else P a t)*G t b
  by_cases e:a=i
  ·rw[if_pos e,h a ha,<-zDP,<-jH]
   refine zL fun t ht=>?_
   rw[if_pos e,yD,yD,zAD]
  rw[if_neg e,h a ha];refine zL fun t ht=>?_
  rw[if_neg e]
theorem zNU{b:Nat}{l:List Op}(hl:jN n l):∀{P F G:Nat->Nat->Int},(∀a,a<n->F a b=qH R fun t=>P a t*G t b)->∀a,a<n->zA9 l F a b=qH R fun t=>zA9 l P a t*G t b:=by
 induction l with
 |nil=>intro P F G h;exact h
 |cons o l ih=>
  intro P F G h;exact ih (fun p hp=>hl p (zR _ hp)) (zXt (hl o (zAC ..)) h)
theorem zKe(ha:a<n)(G:Nat->Int):G a=qH n fun t=>idf a t*G t:=by
 rw[zBB (c:=a) ha];unfold idf;rw[if_pos rfl,zAD];intro i hi hne;unfold idf;rw[if_neg (fun e=>hne e.symm),yB]
theorem zK0{l:List Op}(hl:jN n l)(F:Nat->Nat->Int):∀a,a<n->∀b,zA9 l F a b=qH n fun t=>zA9 l idf a t*F t b:=
 fun a ha b=>zNU hl (fun a ha=>zKe ha fun t=>F t b) a ha
def dot(C:Nat)(P Q:Nat->Nat->Int)(a b:Nat):Int:=qH C fun t=>P a t*Q b t
theorem zXH{o:Op}(ho:o.ok n)(h:∀a,a<n->∀b,b<n->dot C P Q a b=idf a b):∀a,a<n->∀b,b<n->dot C (o.f P) (o.d Q) a b=idf a b:=by
 intro a ha b hb;cases o with
 | add i j k=>
  obtain⟨hi,hj,hij⟩:=ho;have e:dot C (zCe P i j k) (zCe Q j i (-k)) a b=dot C P Q a b+(if a=i then k*dot C P Q j b else 0)+(if b=j then(-k)*dot C P Q a i+(if a=i then(-k)*(k*dot C P Q j i)else 0)else 0):=by
   unfold dot zCe;by_cases e1:a=i
   ·subst e1
    by_cases e2:b=j
    ·subst e2
     simp only[if_true];rw[<-jH,<-jH,<-jH,<-jH,<-zBj,<-zBj,<-zBj];refine zL fun t ht=>?_
     generalize P a t=p;generalize P b t=q;generalize Q a t=r;generalize Q b t=s;grind
    simp only[if_true,if_neg e2];rw[<-jH,<-zBj,jZ];refine zL fun t ht=>?_
    rw[zBk,qI]
   by_cases e2:b=j
   ·subst e2
    simp only[if_true,if_neg e1];rw[<-jH,jZ,jZ,<-zBj];refine zL fun t ht=>?_
    rw[zCs,jO]
   simp only[if_neg e1,if_neg e2];rw[jZ,jZ]
  show dot C (zCe P i j k) (zCe Q j i (-k)) a b=_;rw[e,h a ha b hb,h j hj b hb,h a ha i hi,h j hj i hi];unfold idf;have hji:¬ j=i:=fun h=>hij h.symm
  by_cases e1:a=i
  ·by_cases e2:b=j
   ·subst e1
    subst e2;simp[hij,hji];omega
   have e3:¬ j=b:=fun h=>e2 h.symm
   subst e1;simp[e2,e3]
  by_cases e2:b=j
  ·subst e2
   simp[e1]
  simp[e1,e2]
 |swap i j=>
  show dot C P Q (swp i j a) (swp i j b)=_;rw[h _ (zOi ho.1 ho.2 ha) _ (zOi ho.1 ho.2 hb)];unfold idf swp;split<;>split<;>(try split)<;>(try split)<;>(try split)<;>(try split)<;>first|rfl|omega
 | neg i=>
  have e:dot C (zDM P i) (zDM Q i) a b=(if a=i then-1 else 1)*((if b=i then-1 else 1)*dot C P Q a b):=by
   unfold dot zDM;rw[<-jH,<-jH];refine zL fun t ht=>?_
   generalize P a t=p;generalize Q b t=q;split<;>split<;>grind
  show dot C (zDM P i) (zDM Q i) a b=_;rw[e,h a ha b hb];unfold idf;split<;>split<;>split<;>omega
theorem zIn{l:List Op}(hl:jN n l):∀{P Q:Nat->Nat->Int},(∀a,a<n->∀b,b<n->dot C P Q a b=idf a b)->∀a,a<n->∀b,b<n->dot C (zA9 l P) (zMe l Q) a b=idf a b:=by
 induction l with
 |nil=>intro P Q h;exact h
 |cons o l ih=>
  intro P Q h;exact ih (fun p hp=>hl p (zR _ hp)) (zXH (hl o (zAC ..)) h)
def cod(n:Nat)(Q P:Nat->Nat->Int)(a b:Nat):Int:=qH n fun t=>Q t a*P t b
theorem zI3{f g:Nat->Int}{d:Int}(hi:i<n)(hj:j<n)(hij:i≠j)(h:∀t,t<n->t≠i->t≠j->f t=g t)(h1:f i=g i+d)(h2:f j=g j-d):qH n f=qH n g:=by
 have e:qH n (fun t=>f t-g t)=0:=by
  have:∀m,m<=n->qH m (fun t=>f t-g t)=(if i<m then d else 0)-(if j<m then d else 0):=by
   intro m;induction m with
   |zero=>intro _;rfl
   | succ m ih=>
    intro hm;show qH m _+(f m-g m)=_;rw[ih oM];by_cases e1:m=i
    ·subst e1
     rw[h1];split<;>split<;>split<;>(try split)<;>omega
    by_cases e2:m=j
    ·subst e2
     rw[h2];split<;>split<;>split<;>(try split)<;>omega
    rw[h m oM e1 e2];split<;>split<;>split<;>(try split)<;>omega
  rw[this n (xgf _),if_pos hi,if_pos hj];omega
 have e2:qH n f=qH n g+qH n (fun t=>f t-g t):=by
  rw[<-zBj];exact zL fun t ht=>by omega
 omega
theorem zWH(hi:i<n)(hj:j<n)(f:Nat->Int):qH n (fun t=>f (swp i j t))=qH n f:=by
 by_cases hij:i=j
 ·subst hij
  refine zL fun t ht=>?_
  unfold swp;split<;>(try split)<;>simp_all
 refine zI3 (d:=f j-f i) hi hj hij (fun t ht h1 h2=>?_) ?_ ?_;unfold swp;rw[if_neg h1,if_neg h2];unfold swp;rw[if_pos rfl];omega;unfold swp;rw[if_neg oM,if_pos rfl];omega
theorem zXG{o:Op}(ho:o.ok n)(a b:Nat):cod n (o.d Q) (o.f P) a b=cod n Q P a b:=by
 cases o with
 | add i j k=>
  obtain⟨hi,hj,hij⟩:=ho;refine zI3 (i:=i) (j:=j) (d:=k*(Q i a*P j b)) hi hj hij (fun t ht h1 h2=>?_) ?_ ?_;simp only[Op.d,Op.f,zCe,if_neg h1,if_neg h2]
  ·simp only[Op.d,Op.f,zCe,if_true,if_neg hij]
   rw[zCs,jO]
  simp only[Op.d,Op.f,zCe,if_true,if_neg (fun h=>hij (Eq.symm h))];rw[zBk,qI,yD];rfl
 |swap i j=>exact zWH ho.1 ho.2 fun t=>Q t a*P t b
 |neg i=>
  refine zL fun t ht=>?_
  simp only[Op.d,Op.f,zDM];split;rw[Int.neg_mul_neg];rfl
theorem zNT{l:List Op}(hl:jN n l):∀{P Q:Nat->Nat->Int} (a b:Nat),cod n (zMe l Q) (zA9 l P) a b=cod n Q P a b:=by
 induction l with
 |nil=>intro P Q a b;rfl
 |cons o l ih=>
  intro P Q a b;show cod n (zMe l (o.d Q)) (zA9 l (o.f P)) a b=_;rw[ih (fun p hp=>hl p (zR _ hp)),zXG (hl o (zAC ..))]
theorem zEf{l:List Op}(hl:jN n l)(F:Nat->Nat->Int):∀a,a<n->∀b,F a b=qH n fun t=>zMe l idf t a*zA9 l F t b:=by
 intro a ha b;have h1:=zNT (P:=F) (Q:=idf) hl a b;unfold cod at h1;rw[h1,zBB (c:=a) ha];unfold idf;rw[if_pos rfl,zAD];intro t ht hne;unfold idf;rw[if_neg hne,yB]
def zYw(n k:Nat):List Nat:=(List.range n).take k++(List.range n).drop (k+1)
def lap(n:Nat)(M:List (List Int))(j:Nat):Int:=qH j fun t=>sg1 t*(ent M 0 t*det n (mnr (ent M) 0 t))
def Bst.mix(x:Bst)(i j:Nat)(a b c d:Int):Bst:=⟨yZ x.s i j a b c d,yZ x.t i j a b c d,yZ x.i i j d (-c) (-b) a⟩
theorem zJb(F:Nat->Nat->Int)(hij:i≠j)(a b c d q:Int):
  zCe (zDM (zG9 (yZ F i j (-c) (-d) (a-q*c) (b-q*d)) i j) j) i j q=yZ F i j a b c d:=by
 funext r t
 have hji:j≠i:=zP hij;have s1:swp i j i=j:=by unfold swp;rw[if_pos rfl]
 have s2:swp i j j=i:=by unfold swp;rw[if_neg hji,if_pos rfl]
 have b1:∀p q' r' s',yZ F i j p q' r' s' i t=p*F i t+q'*F j t:=fun p q' r' s'=>by unfold yZ;rw[if_pos rfl]
 have b2:∀p q' r' s',yZ F i j p q' r' s' j t=r'*F i t+s'*F j t:=fun p q' r' s'=>by unfold yZ;rw[if_neg hji,if_pos rfl]
 have v1:zDM (zG9 (yZ F i j (-c) (-d) (a-q*c) (b-q*d)) i j) j i t=(a-q*c)*F i t+(b-q*d)*F j t:=by
  unfold zDM zG9;rw[if_neg hij,s1,b2]
 have v2:zDM (zG9 (yZ F i j (-c) (-d) (a-q*c) (b-q*d)) i j) j j t=-((-c)*F i t+(-d)*F j t):=by
  unfold zDM zG9;rw[if_pos rfl,s2,b1]
 by_cases h1:r=i
 ·subst h1
  rw[b1];unfold zCe;rw[if_pos rfl,v1,v2];simp only[Int.sub_mul,Int.neg_mul,Int.mul_add,Int.mul_neg,Int.neg_add,Int.neg_neg,<-Int.mul_assoc];omega
 unfold zCe;rw[if_neg h1];by_cases h2:r=j
 ·subst h2
  rw[v2,b2];simp only[Int.neg_mul,Int.neg_add,Int.neg_neg]
 unfold zDM zG9 yZ swp;rw[if_neg h2,if_neg h1,if_neg h2,if_neg h1,if_neg h2,if_neg h1,if_neg h2]
theorem zMp(F:Nat->Nat->Int)(hij:i≠j)(a b c d q:Int):
  zCe (zDM (zG9 (yZ F i j (b-q*d) (-(a-q*c)) d (-c)) i j) j) j i (-q)=yZ F i j d (-c) (-b) a:=by
 funext r t
 have hji:j≠i:=zP hij;have s1:swp i j i=j:=by unfold swp;rw[if_pos rfl]
 have s2:swp i j j=i:=by unfold swp;rw[if_neg hji,if_pos rfl]
 have b1:∀p q' r' s',yZ F i j p q' r' s' i t=p*F i t+q'*F j t:=fun p q' r' s'=>by unfold yZ;rw[if_pos rfl]
 have b2:∀p q' r' s',yZ F i j p q' r' s' j t=r'*F i t+s'*F j t:=fun p q' r' s'=>by unfold yZ;rw[if_neg hji,if_pos rfl]
 have v1:zDM (zG9 (yZ F i j (b-q*d) (-(a-q*c)) d (-c)) i j) j i t=d*F i t+(-c)*F j t:=by
  unfold zDM zG9;rw[if_neg hij,s1,b2]
 have v2:zDM (zG9 (yZ F i j (b-q*d) (-(a-q*c)) d (-c)) i j) j j t=-((b-q*d)*F i t+(-(a-q*c))*F j t):=by
  unfold zDM zG9;rw[if_pos rfl,s2,b1]
 by_cases h1:r=j
 ·subst h1
  rw[b2];unfold zCe;rw[if_pos rfl,v1,v2];simp only[Int.sub_mul,Int.neg_mul,Int.mul_add,Int.mul_neg,Int.neg_add,Int.neg_neg,Int.neg_sub,<-Int.mul_assoc];omega
 unfold zCe;rw[if_neg h1];by_cases h2:r=i
 ·subst h2
  rw[v1,b1]
 unfold zDM zG9 yZ swp;rw[if_neg h1,if_neg h2,if_neg h1,if_neg h2,if_neg h1,if_neg h2,if_neg h1]
theorem zN2(F:Nat->Nat->Int)(hij:i≠j)(b:Int):zCe F i j b=yZ F i j 1 b 0 1:=by
 funext r t
 unfold zCe yZ;by_cases h1:r=i
 ·rw[if_pos h1,if_pos h1,zAD]
 rw[if_neg h1,if_neg h1];by_cases h2:r=j
 ·rw[if_pos h2,h2];omega
 rw[if_neg h2]
theorem zQh(F:Nat->Nat->Int)(hij:i≠j)(b:Int):zCe F j i (-b)=yZ F i j 1 (-0) (-b) 1:=by
 funext r t
 unfold zCe yZ;by_cases h1:r=j
 ·subst h1
  rw[if_pos rfl,if_neg (zP hij),if_pos rfl];omega
 rw[if_neg h1];by_cases h2:r=i
 ·rw[if_pos h2,h2];omega
 rw[if_neg h2,if_neg h1]
theorem zLT(F:Nat->Nat->Int)(hij:i≠j)(b:Int):zCe (zDM (zDM F i) j) i j (-b)=yZ F i j (-1) b 0 (-1):=by
 funext r t
 have hji:=zP hij;unfold zCe zDM yZ;by_cases h1:r=i
 ·subst h1
  rw[if_pos rfl,if_neg hij,if_pos rfl,if_pos rfl,if_neg hji,if_pos rfl,yD,zDp,zB1,yD,zAD]
 rw[if_neg h1,if_neg h1];by_cases h2:r=j
 ·subst h2
  rw[if_pos rfl,if_neg hji,if_pos rfl];omega
 rw[if_neg h2,if_neg h1,if_neg h2]
theorem zOu(F:Nat->Nat->Int)(hij:i≠j)(b:Int):zCe (zDM (zDM F i) j) j i (-(-b))=yZ F i j (-1) (-0) (-b) (-1):=by
 funext r t
 have hji:=zP hij;unfold zCe zDM yZ;by_cases h1:r=j
 ·subst h1
  rw[if_pos rfl,if_pos rfl,if_neg hji,if_neg hij,if_pos rfl,if_neg hji,if_pos rfl,zB1,zDp,yD,yD,zAD];omega
 rw[if_neg h1,if_neg h1];by_cases h2:r=i
 ·subst h2
  rw[if_pos rfl,if_pos rfl];omega
 rw[if_neg h2,if_neg h2,if_neg h1]
theorem zVy(hi:i<n)(hj:j<n)(hij:i≠j):∀(m:Nat) (a b c d:Int),c.natAbs=m->a*d-b*c=1->∃l,jN n l/\∀x:Bst,x.mix i j a b c d=zCK l x:=by
 intro m;induction m using Nat.strongRecOn with
 | ind m ih=>
  intro a b c d hm hdet;by_cases hc:c=0
  ·subst hc
   have had:a*d=1:=by rw[zZ]at hdet;omega
   have ha1:a.natAbs=1:=by
    have h1:=congrArg Int.natAbs had;rw[qZ]at h1;exact Nat.eq_one_of_mul_eq_one_right h1
   have hsg:(a=1/\d=1)∨(a=-1/\d=-1):=by
    rcases(by omega:a=1∨a=-1)with e|e
    subst e;exact .inl ⟨rfl,by omega⟩;subst e;exact .inr ⟨rfl,by omega⟩
   rcases hsg with⟨rfl,rfl⟩|⟨rfl,rfl⟩
   ·refine⟨[.add i j b],jN.cons ⟨hi,hj,hij⟩ jN.nil,fun x=>?_⟩
    show(⟨_,_,_⟩:Bst)=⟨zCe x.s i j b,zCe x.t i j b,zCe x.i j i (-b)⟩;rw[zN2 x.s hij,zN2 x.t hij,zQh x.i hij]
   refine⟨[.neg i,.neg j,.add i j (-b)],jN.cons hi (jN.cons hj (jN.cons ⟨hi,hj,hij⟩ jN.nil)),fun x=>?_⟩;show(⟨_,_,_⟩:Bst)=⟨zCe (zDM (zDM x.s i) j) i j (-b),zCe (zDM (zDM x.t i) j) i j (-b),zCe (zDM (zDM x.i i) j) j i (-(-b))⟩;rw[zLT x.s hij,zLT x.t hij,zOu x.i hij]
  have h1:a-a/c*c=a%c:=by have:=Int.emod_add_mul_ediv a c;rw[qL]at this;omega
  have h2:=zAt a hc;have h3:=Int.emod_lt a hc;obtain⟨q,hq⟩:∃q,a/c=q:=⟨_,rfl⟩;rw[hq]at h1;have hd:-c*(b-q*d)- -d*(a-q*c)=1:=by
   have e1:-c*(b-q*d)=-(b*c)+q*c*d:=by rw[Int.mul_sub,yD,yD,qL c b,<-qI,qL c q];omega
   have e2:-d*(a-q*c)=-(a*d)+q*c*d:=by rw[Int.mul_sub,yD,yD,qL d a,qL d (q*c)];omega
   rw[e1,e2];omega
  obtain⟨l,hl,e⟩:=ih (a-q*c).natAbs oM (-c) (-d) (a-q*c) (b-q*d) rfl hd;refine⟨l++ [.swap i j,.neg j,.add i j q],hl.app (jN.cons (o:=.swap i j) ⟨hi,hj⟩ (jN.cons (o:=.neg j) hj (jN.cons (o:=.add i j q) ⟨hi,hj,hij⟩ jN.nil))),fun x=>?_⟩;rw[zDa,<-e x];show(⟨_,_,_⟩:Bst)=⟨zCe (zDM (zG9 (yZ x.s i j (-c) (-d) (a-q*c) (b-q*d)) i j) j) i j q,zCe (zDM (zG9 (yZ x.t i j (-c) (-d) (a-q*c) (b-q*d)) i j) j) i j q,zCe (zDM (zG9 (yZ x.i i j (b-q*d) (-(a-q*c)) (-(-d)) (-c)) i j) j) j i (-q)⟩;rw[zJb x.s hij,zJb x.t hij,zB1,zMp x.i hij]
theorem zNF{c:Nat}(hc:c<C)(h:F i c≠0)(hz:∀t,t<c->F i t=0):lead C F i=(c:Int):=by
 rcases zCT C F i with⟨-,h2⟩|⟨j,h1,h2,h3,h4⟩
 exact absurd (h2 c hc) h;rcases yG j c with h5|h5|h5
 exact absurd (hz j h5) h3;rw[h1,h5];exact absurd (h4 c h5) h
theorem zFw(hz:∀t,t<C->F i t=0):lead C F i=-1:=by
 rcases zCT C F i with⟨h1,-⟩|⟨j,h1,h2,h3,h4⟩
 exact h1;exact absurd (hz j h2) h3
theorem zGv(h:lead C F i<0):∀t,t<C->F i t=0:=by
 rcases zCT C F i with⟨-,h1⟩|⟨j,h1,-⟩
 exact h1;omega
theorem zPP(h:∀t,t<C->F i t=G j t):lead C F i=lead C G j:=by
 unfold lead;rw[qX h]
theorem zS9(L:Nat->Int)(c:Int):∀m k,k<=adv L c m k/\adv L c m k<=k+m/\(∀i,k<=i->i<adv L c m k->L i<c)/\(adv L c m k<k+m->¬ L (adv L c m k)<c):=by
 intro m;induction m with
 |zero=>intro k;exact⟨xgf _,xgf _,fun i h1 h2=>by unfold adv at h2;omega,fun h=>by unfold adv at h;omega⟩
 | succ m ih=>
  intro k;unfold adv;by_cases h:L k<c
  ·rw[if_pos h]
   obtain⟨h1,h2,h3,h4⟩:=ih (k+1);refine⟨by omega,by omega,fun i a b=>?_,fun hh=>h4 oM⟩;by_cases e:i=k
   ·rw[e];exact h
   exact h3 i oM b
  rw[if_neg h];exact⟨xgf _,by omega,fun i a b=>by omega,fun _=>h⟩
theorem zNw{c:Int}(h:0<m->¬ L k<c):adv L c m k=k:=by
 cases m with
 |zero=>rfl
 |succ m=>unfold adv;rw[if_neg (h oM)]
theorem zQa{c:Int}(hk:k<r)(h:L k<c):adv L c (r-k) k=adv L c (r-(k+1)) (k+1):=by
 obtain⟨m,hm⟩:∃m,r-k=m+1:=⟨r-k-1,by omega⟩;rw[hm];have:r-(k+1)=m:=by omega
 rw[this];show(if L k<c then adv L c m (k+1)else k)=_;rw[if_pos h]
theorem zI4{B n Ct f c:Nat}{x:Bst}(h0:lead Cs x.s m=(c:Int))(h1:adv (lead Cs x.s) (lead Cs x.s m) (rank-k) k=k')(h2:k'<rank)(h3:lead Cs x.s k'=(c:Int))
  (hok:zFI B n Cs Ct x m k' (-(x.s m c/x.s k' c))):
  zBt B n Cs Ct m rank (f+1) k x=zBt B n Cs Ct m rank f k' (if x.s m c%x.s k' c=0 then zCK [.add m k' (-(x.s m c/x.s k' c))] x else zCK [.add m k' (-(x.s m c/x.s k' c)),.swap m k'] x):=by
 have hc:(lead Cs x.s m).toNat=c:=by rw[h0];rfl
 conv=>lhs;unfold zBt
 rw[h1,hc,if_neg oM,if_pos ⟨h2,by rw[h3,h0]⟩,if_pos hok];rfl
theorem zNp:∀{f k:Nat} {x:Bst} {r:Bst × Bool},zBt B n Cs Ct m rank f k x=some r->zBt B n Cs Ct m rank (f+1) k x=some r:=by
 intro f;induction f with
 |zero=>intro k x r h;cases h
 | succ f ih=>
  intro k x r h;unfold zBt at h ⊢
  split
  ·rename_i h1
   rw[if_pos h1]at h;exact h
  rename_i h1;rw[if_neg h1]at h;split
  ·rename_i h2
   rw[if_pos h2]at h;split
   ·rename_i h3
    rw[if_pos h3]at h;exact ih h
   rename_i h3;rw[if_neg h3]at h;exact h
  rename_i h2;rw[if_neg h2]at h;exact h
theorem zSi{f g:Nat}{x:Bst}{r:Bst × Bool}(h:zBt B n Cs Ct m rank f k x=some r)(hfg:f<=g):zBt B n Cs Ct m rank g k x=some r:=by
 obtain⟨d,rfl⟩:=zAU hfg;clear hfg;induction d with
 |zero=>exact h
 |succ d ih=>exact zNp ih
theorem eu1(hp:0<p):1+q<=(1+q)*(2*p*p):=zQ _ (by
 have:=yA hp hp
 rw[zC];omega)
theorem eu2(hp:0<p)(ha:p<=a)(h:a=p*q+r):1+q<=2*a*p:=by
 have h1:q<=p*q:=qK _ hp;have h2:2*a<=2*a*p:=zQ _ hp;omega
theorem eu3(hr:r<=p):(1+q)*(2*p*r)<=(1+q)*(2*p*p):=zF _ (zF _ hr)
theorem eu4(hr:r<=p)(h:a=p*q+r):(1+q)*(2*p*r)<=2*a*p:=by
 have h1:q*r<=q*p:=zF _ hr;have h2:(1+q)*r<=a:=by
  rw[zY,zAo,h,zN p];omega
 have h3:(1+q)*(2*p*r)=2*p*((1+q)*r):=by rw[Nat.mul_left_comm]
 have h4:2*a*p=2*p*a:=by rw[zC,zC,zN a]
 rw[h3,h4];exact zF _ h2
theorem zWw{B c:Nat}(hk:k<rank)(hrm:rank<=m)(hmn:m<n)(hc:c<Cs):∀(p:Nat) (x:Bst) (M Gb:Nat),leB M n Cs Ct x->1<=M->0<p->x.s k c=(p:Int)->x.s m c≠0->
  (∀t,t<c->x.s k t=0)->(∀t,t<c->x.s m t=0)->((1+(x.s m c/(p:Int)).natAbs)*(2*p*p)<=Gb∨((p:Int)<=x.s m c/\2*(x.s m c).natAbs*p<=Gb))->M*Gb<B->
  ∃f0 l,(∀f,zBt B n Cs Ct m rank (f+f0) k x=zBt B n Cs Ct m rank f k (zCK l x))/\jN n l/\gro l<=Gb/\(∀a,a≠m->a≠k->∀b,zA9 l x.s a b=x.s a b)∧
   (∀t,t<c->zA9 l x.s k t=0)/\0<zA9 l x.s k c/\zA9 l x.s k c<=(p:Int)/\(∀t,t<=c->zA9 l x.s m t=0):=by
 intro p;induction p using Nat.strongRecOn with
 |ind p ih=>
 intro x M Gb hM hM1 hp hkc hmc hzk hzm hG hMB;have hmk:m≠k:=by omega
 have hlm:lead Cs x.s m=(c:Int):=zNF hc hmc hzm;have hlk:lead Cs x.s k=(c:Int):=zNF hc oM hzk;have hadv:adv (lead Cs x.s) (lead Cs x.s m) (rank-k) k=k:=zNw fun _=>by rw[hlm,hlk];omega
 have hdm:=zAc (x.s m c) p;have hr0:=zAt (x.s m c) (b:=(p:Int)) oM;have hrp:=zA2 (x.s m c) (b:=(p:Int)) oM;obtain⟨q,hq⟩:∃q,x.s m c/(p:Int)=q:=⟨_,rfl⟩;obtain⟨r,hr⟩:∃r:Nat,x.s m c%(p:Int)=(r:Int):=⟨(x.s m c%(p:Int)).toNat,by omega⟩;rw[hq,hr]at hdm;rw[hr]at hrp;rw[hq]at hG;have hcase2:(p:Int)<=x.s m c->(x.s m c).natAbs=p*q.natAbs+r/\p<=(x.s m c).natAbs:=fun hpa=>by
  have hq0:0<=q:=by rw[<-hq];exact zCZ oM oM
  have:((q.natAbs:Nat):Int)=q:=by omega
  refine⟨?_,by omega⟩;have h5:((p*q.natAbs+r:Nat):Int)=x.s m c:=by rw[zAP,yP,this];exact hdm
  omega
 have hGq:1+q.natAbs<=Gb:=by
  rcases hG with h|⟨h1,h2⟩
  exact zB (eu1 hp) h;obtain⟨h3,h4⟩:=hcase2 h1;exact zB (eu2 hp h4 h3) h2
 have hGr:(1+q.natAbs)*(2*p*r)<=Gb:=by
  rcases hG with h|⟨h1,h2⟩
  exact zB (eu3 oM) h;obtain⟨h3,h4⟩:=hcase2 h1;exact zB (eu4 oM h3) h2
 have hqq:x.s m c/x.s k c=q:=by rw[hkc,hq]
 have hrr:x.s m c%x.s k c=(r:Int):=by rw[hkc,hr]
 have hok:zFI B n Cs Ct x m k (-(x.s m c/x.s k c)):=by
  rw[hqq];refine zIE hM hmn oM hmk hM1 ?_;rw[zT];exact zJ (zF _ hGq) hMB
 have hoa:(Op.add m k (-q)).ok n:=⟨hmn,by omega,hmk⟩;have hga:(Op.add m k (-q)).g=1+q.natAbs:=by simp[Op.g]
 have hmr:∀t,(zCe x.s m k (-q)) m t=x.s m t+-q*x.s k t:=fun t=>by unfold zCe;rw[if_pos rfl]
 have hmc':x.s m c+-q*x.s k c=(r:Int):=by
  rw[hkc,yD,qL q];omega
 by_cases hr2:r=0
 ·refine⟨1,[.add m k (-q)],fun f=>?_,jN.cons hoa jN.nil,?_,?_,?_,?_,?_,?_⟩
  ·rw[zI4 hlm hadv hk hlk hok,hqq,hrr,if_pos oM]
  ·show _*1<=_
   rw[zAn,hga];exact hGq
  ·intro a h1 h2 b
   show zCe x.s m k (-q) a b=_;unfold zCe;rw[if_neg h1]
  ·intro t ht
   show zCe x.s m k (-q) k t=_;unfold zCe;rw[if_neg (fun h=>hmk h.symm)];exact hzk t ht
  ·show 0<zCe x.s m k (-q) k c
   unfold zCe;rw[if_neg (fun h=>hmk h.symm),hkc];omega
  ·show zCe x.s m k (-q) k c<=_
   unfold zCe;rw[if_neg (fun h=>hmk h.symm),hkc];omega
  intro t ht;show zCe x.s m k (-q) m t=_;rw[hmr];rcases zG t c with h|h
  rw[hzk t h,hzm t h];omega;obtain rfl:t=c:=by omega
  rw[hmc',hr2];rfl
 have hos:(Op.swap m k).ok n:=⟨hmn,by omega⟩;have hy:leB (M*(1+q.natAbs)) n Cs Ct (zCK [.add m k (-q),.swap m k] x):=by
  have:=zGd (jN.cons hoa (jN.cons hos jN.nil)) hM;rwa[show gro [Op.add m k (-q),Op.swap m k]=1+q.natAbs by simp[gro,Op.g]]at this
 have hk2:∀t,(zCK [.add m k (-q),.swap m k] x).s k t=x.s m t+-q*x.s k t:=fun t=>by
  show zCe x.s m k (-q) (swp m k k) t=_;rw[show swp m k k=m by unfold swp;rw[if_neg oM,if_pos rfl],hmr]
 have hm2:∀t,(zCK [.add m k (-q),.swap m k] x).s m t=x.s k t:=fun t=>by
  show zCe x.s m k (-q) (swp m k m) t=_;rw[show swp m k m=k by unfold swp;rw[if_pos rfl]];unfold zCe;rw[if_neg oM]
 have ho2:∀a,a≠m->a≠k->∀b,(zCK [.add m k (-q),.swap m k] x).s a b=x.s a b:=fun a h1 h2 b=>by
  show zCe x.s m k (-q) (swp m k a) b=_;rw[show swp m k a=a by unfold swp;rw[if_neg h1,if_neg h2]];unfold zCe;rw[if_neg h1]
 obtain⟨f0,l,e1,e2,e3,e4,e5,e6,e7,e8⟩:=ih r oM (zCK [.add m k (-q),.swap m k] x) (M*(1+q.natAbs)) (2*p*r) hy (yA hM1 oM) oM (by rw[hk2,hmc']) (by rw[hm2,hkc];omega)
  (fun t ht=>by rw[hk2,hzk t ht,hzm t ht];omega) (fun t ht=>by rw[hm2,hzk t ht]) (.inr ⟨by rw[hm2,hkc];omega,by rw[hm2,hkc];exact xgf _⟩) (by rw[zC];exact zJ (zF _ hGr) hMB)
 have es:(zCK [.add m k (-q),.swap m k] x).s=zA9 [.add m k (-q),.swap m k] x.s:=zGL _ _;have ef:zA9 l (zCK [.add m k (-q),.swap m k] x).s=zA9 ([.add m k (-q),.swap m k]++l) x.s:=by rw[zFJ,es]
 rw[ef]at e4 e5 e6 e7 e8;refine⟨f0+1,[.add m k (-q),.swap m k]++l,fun f=>?_,(jN.cons hoa (jN.cons hos jN.nil)).app e2,?_,fun a h1 h2 b=>?_,e5,e6,by omega,e8⟩
 ·have:=zI4 (f:=f+f0) hlm hadv hk hlk hok
  rw[hqq,hrr,if_neg oM]at this;rw[<-zD3,this,e1,zDa]
 ·rw[zGa]
  refine zB (zF _ e3) ?_;rw[show gro [Op.add m k (-q),Op.swap m k]=1+q.natAbs by simp[gro,Op.g]];exact hGr
 rw[e4 a h1 h2 b,ho2 a h1 h2 b]
structure Ech(C r:Nat)(c:Nat->Nat)(F:Nat->Nat->Int):Prop where
 lt:∀k,k<r->c k<C
 pos:∀k,k<r->0<F k (c k)
 zero:∀k,k<r->∀t,t<c k->F k t=0
 inc:∀k l,k<l->l<r->c k<c l
theorem Ech.lead(h:Ech C r c F)(hk:k<r):lead C F k=(c k:Int):=zNF (h.lt k hk) (by have:=h.pos k hk;omega) (h.zero k hk)
def zD6(k:Nat):Nat->List Op
 |0=>[]
 |m+1=>.swap (k+m+1) (k+m)::zD6 k m
def zMA(k m a:Nat):Nat:=if a=k then k+m else if k<a/\a<=k+m then a-1 else a
theorem zUB(k m:Nat):∀x,zVA k m x=zCK (zD6 k m) x:=by
 induction m with
 |zero=>intro x;rfl
 |succ m ih=>intro x;exact ih _
theorem zUC(k m:Nat):∀(F:Nat->Nat->Int) (a b:Nat),zA9 (zD6 k m) F a b=F (zMA k m a) b:=by
 induction m with
 |zero=>
  intro F a b;show F a b=_;congr 1;unfold zMA;split<;>(try split)<;>omega
 |succ m ih=>
  intro F a b;show zA9 (zD6 k m) (zG9 F (k+m+1) (k+m)) a b=_;rw[ih];show F (swp (k+m+1) (k+m) (zMA k m a)) b=_;congr 1;unfold zMA swp;split<;>split<;>(try split)<;>(try split)<;>(try split)<;>(try split)<;>omega
theorem zSL(h:k+m<n):jN n (zD6 k m):=by
 induction m with
 |zero=>exact jN.nil
 |succ m ih=>exact jN.cons ⟨by omega,by omega⟩ (ih oM)
theorem zPu(k m:Nat):gro (zD6 k m)=1:=by
 induction m with
 |zero=>rfl
 |succ m ih=>simp[zD6,gro,Op.g,ih]
theorem zI5{f:Nat}{x:Bst}(hk:k<rank)(h:lead Cs x.s m<0∨lead Cs x.s k<lead Cs x.s m):zBt B n Cs Ct m rank f k x=zBt B n Cs Ct m rank f (k+1) x:=by
 cases f with
 |zero=>rfl
 |succ f=>
  unfold zBt;rcases h with h|h
  rw[if_pos h,if_pos h];rw[zQa hk h]
theorem zDC{Z b:Nat}(hZ:1<=Z)(h:a<=b):Z^a<=Z^b:=qE hZ h
theorem zPB(hT:1<=T):2*T*((1+T)*(2*T*T))<=(2*T)^4:=by
 have h1:(1+T)*(2*T*T)<=(2*T)*(2*T*T):=zO _ oM;have h2:(2*T)*((2*T)*(2*T*T))<=(2*T)*((2*T)*(2*T*(2*T))):=zF _ (zF _ (zF _ oM));have h3:(2*T)^4=(2*T)*((2*T)*(2*T*(2*T))):=by
  simp[Nat.pow_succ,Nat.mul_assoc]
 rw[h3];exact zB (zF _ h1) h2
def zVN(Cs m rank:Nat)(F G:Nat->Nat->Int)(b:Bool)(c':Nat->Nat):Prop:=
 Ech Cs (if b then rank+1 else rank) c' G/\(∀a,(if b then rank+1 else rank)<=a->a<=m->∀t,t<Cs->G a t=0)/\∀a,m<a->∀t,G a t=F a t
theorem zOj{B n Ct k:Nat}{x:Bst}(hl:lead Cs x.s m<0)(hE:Ech Cs rank c x.s)(hz:∀a,rank<=a->a<m->∀t,t<Cs->x.s a t=0):
  zBt B n Cs Ct m rank 1 k x=some (zCK [] x,false)/\zVN Cs m rank x.s (zA9 [] x.s) false c:=by
 refine⟨?_,hE,fun a h1 h2 t ht=>?_,fun a h t=>rfl⟩
 ·unfold zBt
  rw[if_pos hl];rfl
 rcases zG a m with h3|h3
 exact hz a h1 h3 t ht;obtain rfl:a=m:=by omega
 exact zGv hl t ht
theorem zOk{B Ct k k' c0:Nat}{x:Bst}{c:Nat->Nat}(hrm:rank<=m)(hmn:m<n)(hl:lead Cs x.s m=(c0:Int))(hc0:c0<Cs)(h0:x.s m c0≠0)(h0z:∀t,t<c0->x.s m t=0)
  (hE:Ech Cs rank c x.s) (hz:∀a,rank<=a->a<m->∀t,t<Cs->x.s a t=0) (ha:adv (lead Cs x.s) (lead Cs x.s m) (rank-k) k=k') (hk':k'<=rank) (hlow:∀i,i<k'->c i<c0) (hhigh:k'<rank->c0<c k'):
  ∃l,zBt B n Cs Ct m rank 1 k x=some (zCK l x,true)/\jN n l/\gro l=1/\zVN Cs m rank x.s (zA9 l x.s) true (fun a=>if a<k' then c a else if a=k' then c0 else c (a-1)):=by
 have hcn:(lead Cs x.s m).toNat=c0:=by rw[hl];rfl
 have e1:zBt B n Cs Ct m rank 1 k x=some (zVA k' (rank-k') ((if x.s m c0<0 then x.neg m else x).swap m rank),true):=by
  unfold zBt;rw[ha,hcn,if_neg oM,if_neg];rintro⟨h1,h2⟩;rw[hE.lead h1,hl]at h2;have:=hhigh h1;omega
 obtain⟨ng,hng⟩:∃ng:List Op,ng=if x.s m c0<0 then [.neg m]else []:=⟨_,rfl⟩
 have e2:(if x.s m c0<0 then x.neg m else x)=zCK ng x:=by
  rw[hng];split<;>rfl
 have hnok:jN n ng:=by
  rw[hng];split;exact jN.cons hmn jN.nil;exact jN.nil
 have hngr:gro ng=1:=by rw[hng];split<;>rfl
 obtain⟨g,hg1,hg2⟩:∃g:Int,(g=1∨g=-1)/\(∀a t,zA9 ng x.s a t=if a=m then g*x.s m t else x.s a t)/\0<g*x.s m c0:=by
  rw[hng];by_cases h:x.s m c0<0
  ·rw[if_pos h]
   refine⟨-1,.inr rfl,fun a t=>?_,by omega⟩;show zDM x.s m a t=_;unfold zDM;by_cases e:a=m
   ·rw[if_pos e,if_pos e,e];omega
   rw[if_neg e,if_neg e]
  rw[if_neg h];refine⟨1,.inl rfl,fun a t=>?_,by omega⟩;show x.s a t=_;by_cases e:a=m
  ·rw[if_pos e,e];omega
  rw[if_neg e]
 obtain⟨hg2,hg3⟩:=hg2;refine⟨ng++(.swap m rank::zD6 k' (rank-k')),?_,hnok.app (jN.cons ⟨hmn,by omega⟩ (zSL oM)),by simp[zGa,gro,hngr,zPu,Op.g],?_⟩
 ·rw[e1,e2,zUB,zDa]
  rfl
 have hF:∀a t,zA9 (ng++(.swap m rank::zD6 k' (rank-k'))) x.s a t=if swp m rank (zMA k' (rank-k') a)=m then g*x.s m t else x.s (swp m rank (zMA k' (rank-k') a)) t:=by
  intro a t;rw[zFJ];show zA9 (zD6 k' (rank-k')) (zG9 (zA9 ng x.s) m rank) a t=_;rw[zUC];show zA9 ng x.s (swp m rank (zMA k' (rank-k') a)) t=_;exact hg2 _ _
 have f1:∀a,a<k'->∀t,zA9 (ng++(.swap m rank::zD6 k' (rank-k'))) x.s a t=x.s a t:=fun a h t=>by
  have e:swp m rank (zMA k' (rank-k') a)=a:=by unfold swp zMA;split<;>split<;>(try split)<;>(try split)<;>(try split)<;>omega
  rw[hF,e,if_neg oM]
 have f2:∀t,zA9 (ng++(.swap m rank::zD6 k' (rank-k'))) x.s k' t=g*x.s m t:=fun t=>by
  have e:swp m rank (zMA k' (rank-k') k')=m:=by unfold swp zMA;split<;>(try split)<;>(try split)<;>omega
  rw[hF,e,if_pos rfl]
 have f3:∀a,k'<a->a<=rank->∀t,zA9 (ng++(.swap m rank::zD6 k' (rank-k'))) x.s a t=x.s (a-1) t:=fun a h h' t=>by
  have e:swp m rank (zMA k' (rank-k') a)=a-1:=by unfold swp zMA;split<;>split<;>(try split)<;>(try split)<;>(try split)<;>omega
  rw[hF,e,if_neg oM]
 have f4:∀a,rank<a->a≠m->∀t,zA9 (ng++(.swap m rank::zD6 k' (rank-k'))) x.s a t=x.s a t:=fun a h h' t=>by
  have e:swp m rank (zMA k' (rank-k') a)=a:=by unfold swp zMA;split<;>split<;>(try split)<;>(try split)<;>(try split)<;>omega
  rw[hF,e,if_neg oM]
 have f5:rank<m->∀t,zA9 (ng++(.swap m rank::zD6 k' (rank-k'))) x.s m t=x.s rank t:=fun h t=>by
  have e:swp m rank (zMA k' (rank-k') m)=rank:=by unfold swp zMA;split<;>split<;>(try split)<;>(try split)<;>(try split)<;>omega
  rw[hF,e,if_neg oM]
 generalize zA9 (ng++(.swap m rank::zD6 k' (rank-k'))) x.s=G at f1 f2 f3 f4 f5;refine⟨⟨fun a h=>?_,fun a h=>?_,fun a h t ht=>?_,fun a b hab hb=>?_⟩,fun a h1 h2 t ht=>?_,fun a h t=>f4 a oM oM t⟩
 ·simp only[if_true]at h
  split;exact hE.lt a oM;split;exact hc0;exact hE.lt (a-1) oM
 ·simp only[if_true]at h
  rcases yG a k' with h1|h1|h1
  rw[if_pos h1,f1 a h1];exact hE.pos a oM;rw[if_neg oM,if_pos h1,h1,f2];exact hg3;rw[if_neg oM,if_neg oM,f3 a h1 oM];exact hE.pos (a-1) oM
 ·simp only[if_true]at h
  rcases yG a k' with h1|h1|h1
  ·rw[if_pos h1]at ht
   rw[f1 a h1];exact hE.zero a oM t ht
  ·rw[if_neg oM,if_pos h1]at ht
   rw[h1,f2,h0z t ht,zZ]
  rw[if_neg oM,if_neg oM]at ht;rw[f3 a h1 oM];exact hE.zero (a-1) oM t ht
 ·simp only[if_true]at hb
  have hup:∀b,k'<b->b<rank+1->c0<c (b-1):=fun b h1 h2=>by
   rcases zG k' (b-1)with h3|h3
   ·have:=hE.inc k' (b-1) h3 oM
    have:=hhigh oM;omega
   obtain h4:b-1=k':=by omega
   rw[h4];exact hhigh oM
  rcases yG b k' with h1|h1|h1
  rw[if_pos oM,if_pos h1];exact hE.inc a b hab oM;rw[if_pos oM,if_neg oM,if_pos h1];exact hlow a oM;rw[if_neg (show ¬ b<k' by omega),if_neg (show ¬ b=k' by omega)];have hb2:=hup b h1 hb;rcases yG a k' with h2|h2|h2
  ·rw[if_pos h2]
   have:=hlow a h2;omega
  rw[if_neg oM,if_pos h2];exact hb2;rw[if_neg oM,if_neg oM];exact hE.inc _ _ oM oM
 simp only[if_true]at h1;by_cases e:a=m
 ·rw[e,f5 oM];exact hz rank (xgf _) oM t ht
 rw[f4 a oM e];exact hz a oM oM t ht
theorem zSj{B:Nat}(hrm:rank<=m)(hmn:m<n):∀(j k:Nat) (x:Bst) (M T:Nat) (c:Nat->Nat),rank<=k+j->k<=rank->leB M n Cs Ct x->leM T n Cs x.s->1<=T->1<=M->Ech Cs rank c x.s->
  (∀a,rank<=a->a<m->∀t,t<Cs->x.s a t=0)->(∀i,i<k->lead Cs x.s m<0∨lead Cs x.s i<lead Cs x.s m)->(∀G,2*T*G<=(2*T)^(4^j)->M*G<B)->
  ∃f l b c',zBt B n Cs Ct m rank f k x=some (zCK l x,b)/\jN n l/\2*T*gro l<=(2*T)^(4^j)/\zVN Cs m rank x.s (zA9 l x.s) b c':=by
 intro j;induction j with
 | zero=>
  intro k x M T c hkj hkr hM hT hT1 hM1 hE hz hL hB;by_cases hl:lead Cs x.s m<0
  ·obtain⟨h1,h2⟩:=zOj (B:=B) (n:=n) (Ct:=Ct) (k:=k) hl hE hz
   exact⟨1,[],false,c,h1,jN.nil,by simp[gro],h2⟩
  obtain⟨c0,h1,h2,h3,h4⟩:=zGw hl;obtain rfl:k=rank:=by omega
  obtain⟨l,g1,g2,g3,g4⟩:=zOk (B:=B) (n:=n) (Ct:=Ct) (k:=k) (k':=k) hrm hmn h1 h2 h3 h4 hE hz (zNw fun h=>by omega) (xgf _) (fun i hi=>by
   have:=hL i hi;rw[hE.lead hi]at this;omega) (fun h=>by omega)
  exact⟨1,l,true,_,g1,g2,by rw[g3];simp,g4⟩
 | succ j ih=>
  intro k x M T c hkj hkr hM hT hT1 hM1 hE hz hL hB;by_cases hl:lead Cs x.s m<0
  ·obtain⟨h1,h2⟩:=zOj (B:=B) (n:=n) (Ct:=Ct) (k:=k) hl hE hz
   exact⟨1,[],false,c,h1,jN.nil,by rw[show gro []=1 from rfl,zAn];exact zBG (by have:=qP (n:=j+1) (show 0<4 by omega);omega) _,h2⟩
  obtain⟨c0,h1,h2,h3,h4⟩:=zGw hl;obtain⟨a1,a2,a3,a4⟩:=zS9 (lead Cs x.s) (lead Cs x.s m) (rank-k) k;obtain⟨k',hk'⟩:∃k',adv (lead Cs x.s) (lead Cs x.s m) (rank-k) k=k':=⟨_,rfl⟩;rw[hk']at a1 a2 a3 a4;have hlow:∀i,i<k'->c i<c0:=fun i hi=>by
   rcases zG i k with h|h
   ·have:=hL i h
    rw[hE.lead (k:=i) oM]at this;omega
   have:=a3 i h hi;rw[hE.lead (k:=i) oM]at this;omega
  by_cases hcol:k'<rank/\c k'=c0
  ·obtain⟨hc1,hc2⟩:=hcol
   have hp:=hE.pos k' hc1;rw[hc2]at hp;obtain⟨p,hpp⟩:∃p:Nat,x.s k' c0=(p:Int):=⟨(x.s k' c0).toNat,by omega⟩;have hTp:p<=T:=by
    have:=hT k' oM c0 h2;omega
   have hTa:(x.s m c0).natAbs<=T:=hT m hmn c0 h2;have hq:(x.s m c0/(p:Int)).natAbs<=T:=by
    refine zB ?_ hTa;have:(0:Int)<p:=by omega
    rcases zDO 0 (x.s m c0)with h|h
    ·have g1:=zCZ h (show(0:Int)<=p by omega)
     have g2:=zC5 (p:Int) h;omega
    have g1:x.s m c0/(p:Int)<=0:=zA1 h this;have g2:x.s m c0<=x.s m c0/(p:Int):=by
     rw[zB0 this];have:x.s m c0*(p:Int)<=x.s m c0*1:=zBN h oM;omega
    omega
   have hGb:(1+(x.s m c0/(p:Int)).natAbs)*(2*p*p)<=(1+T)*(2*T*T):=qT oM (qT oM hTp);have h4b:=zPB hT1;have hpow:(2*T)^4<=(2*T)^(4^(j+1)):=zDC oM (zB (show 4<=4^1 by omega) (qE oM oM));obtain⟨f0,l1,e1,e2,e3,e4,e5,e6,e7,e8⟩:=zWw (B:=B) (Ct:=Ct) hc1 hrm hmn h2 p x M ((1+T)*(2*T*T)) hM hM1 oM hpp h3 (fun t ht=>hE.zero k' hc1 t oM) h4 (.inl hGb) (hB _ (zB h4b hpow));obtain⟨y,hy⟩:∃y,zCK l1 x=y:=⟨_,rfl⟩;have hys:y.s=zA9 l1 x.s:=by rw[<-hy,zGL]
   rw[<-hys]at e4 e5 e6 e7 e8;have hEy:Ech Cs rank c y.s:=by
    refine⟨hE.lt,fun i hi=>?_,fun i hi t ht=>?_,hE.inc⟩
    ·by_cases e:i=k'
     ·rw[e,hc2];exact e6
     rw[e4 i oM e];exact hE.pos i hi
    by_cases e:i=k'
    ·rw[e]at ht ⊢;exact e5 t oM
    rw[e4 i oM e];exact hE.zero i hi t ht
   have hg1:=zHH l1;have hlm:lead Cs y.s m<0∨(c0:Int)<lead Cs y.s m:=by
    rcases zCT Cs y.s m with⟨g,-⟩|⟨c1,g1,g2,g3,-⟩
    left;omega;right;rcases zG c0 c1 with h|h
    omega;exact absurd (e8 c1 h) g3
   have hZ:2*(T*gro l1)<=(2*T)^4:=by
    refine zB ?_ h4b;rw[<-zC];exact zF _ e3
   have hexp:(2*(T*gro l1))^(4^j)<=(2*T)^(4^(j+1)):=by
    rw[qF 4 j,zN (4^j),jS (2*T) 4];exact jB hZ _
   obtain⟨f1,l2,b,c',g1,g2,g3,g4⟩:=ih (k'+1) y (M*gro l1) (T*gro l1) c oM oM (by rw[<-hy];exact zGd e2 hM) (by rw[hys];exact zDX e2 hT) (yA hT1 hg1) (yA hM1 hg1) hEy
    (fun a h h' t ht=>by rw[e4 a oM oM];exact hz a h h' t ht)
    (fun i hi=>by
     rcases hlm with h|h
     exact .inl h;right;rw[hEy.lead oM];by_cases e:i=k'
     ·rw[e,hc2];exact h
     have:=hlow i oM;omega)
    (fun G hG=>by
     rw[zC];refine hB _ (zB ?_ (zB hG hexp));rw[zC 2 (T*gro l1),zC 2 T,zC T];exact xgf _)
   have hsk:zBt B n Cs Ct m rank f1 k' y=zBt B n Cs Ct m rank f1 (k'+1) y:=zI5 hc1 (hlm.imp id fun h=>by rw[hEy.lead hc1,hc2];exact h);have hk0:zBt B n Cs Ct m rank (f1+f0) k x=zBt B n Cs Ct m rank (f1+f0) k' x:=by
    clear hB ih e1 hexp g1 hsk;obtain⟨d,hd⟩:∃d,k'=k+d:=⟨k'-k,by omega⟩;have:∀d',d'<=d->zBt B n Cs Ct m rank (f1+f0) k x=zBt B n Cs Ct m rank (f1+f0) (k+d') x:=by
     intro d';induction d' with
     |zero=>intro _;rfl
     |succ d' ihd=>
      intro hd';rw[ihd oM];exact zI5 oM (.inr (a3 _ oM oM))
    rw[hd];exact this d (xgf _)
   refine⟨f1+f0,l1++l2,b,c',?_,e2.app g2,?_,?_⟩;rw[hk0,e1,hy,hsk,g1,zDa,hy]
   ·rw[zGa]
    refine zB ?_ (zB g3 hexp);rw[zC 2 (T*gro l1),zC 2 T,zC T];exact xgf _
   rw[zFJ,<-hys];obtain⟨t1,t2,t3⟩:=g4;exact⟨t1,t2,fun a h t=>by rw[t3 a h,e4 a oM oM]⟩
  obtain⟨l,g1,g2,g3,g4⟩:=zOk (B:=B) (n:=n) (Ct:=Ct) (k:=k) (k':=k') hrm hmn h1 h2 h3 h4 hE hz hk' oM hlow (fun h=>by
   have h5:=a4 oM;rw[hE.lead h,h1]at h5;have:c k'≠c0:=fun e=>hcol ⟨h,e⟩
   omega)
  exact⟨1,l,true,_,g1,g2,by rw[g3,zAn];exact zBG (by have:=qP (n:=j+1) (show 0<4 by omega);omega) _,g4⟩
def zFU(P:Nat->Nat->Prop)(r:Nat)(c:Nat->Nat)(F:Nat->Nat->Int):Prop:=∀i j,i<j->j<r->P i j->0<=F i (c j)/\F i (c j)<F j (c j)
theorem zSG{B:Nat}(hrn:rank<=n)(hi:i<rank)(hcols:∀k,k<rank->cols k=(c k:Int)):∀(m j:Nat) (x:Bst) (M T:Nat),j+m=rank->i<j->leB M n Cs Ct x->leM T n Cs x.s->1<=T->1<=M->Ech Cs rank c x.s->
  (∀j',i<j'->j'<j->0<=x.s i (c j')/\x.s i (c j')<x.s j' (c j'))->(∀G,2*T*G<=(2*T)^(2^m)->M*G<B)->
  ∃l,zT8 B n Cs Ct cols i m j x=some (zCK l x)/\jN n l/\2*T*gro l<=(2*T)^(2^m)/\Ech Cs rank c (zA9 l x.s)/\(∀a,a≠i->∀t,zA9 l x.s a t=x.s a t)∧
   (∀j',i<j'->j'<rank->0<=zA9 l x.s i (c j')/\zA9 l x.s i (c j')<zA9 l x.s j' (c j')):=by
 intro m;induction m with
 |zero=>
  intro j x M T hj hij hM hT hT1 hM1 hE hR hB;exact⟨[],rfl,jN.nil,by simp[gro],hE,fun a _ t=>rfl,fun j' h1 h2=>hR j' h1 oM⟩
 | succ m ih=>
  intro j x M T hj hij hM hT hT1 hM1 hE hR hB;have hjr:j<rank:=by omega
  have hcj:(cols j).toNat=c j:=by rw[hcols j hjr];rfl
  have hp:=hE.pos j hjr;have hZ1:1<=2*T:=by omega
  have hexp0:(2*T)^(2^m)<=(2*T)^(2^(m+1)):=zDC hZ1 (qE oM oM);have hskip:(0<=x.s i (c j)/\x.s i (c j)<x.s j (c j))->∃l,zT8 B n Cs Ct cols i m (j+1) x=some (zCK l x)/\jN n l/\2*T*gro l<=(2*T)^(2^(m+1))/\Ech Cs rank c (zA9 l x.s)/\(∀a,a≠i->∀t,zA9 l x.s a t=x.s a t)∧
   (∀j',i<j'->j'<rank->0<=zA9 l x.s i (c j')/\zA9 l x.s i (c j')<zA9 l x.s j' (c j')):=fun hin=>by
   obtain⟨l,g1,g2,g3,g4⟩:=ih (j+1) x M T oM oM hM hT hT1 hM1 hE (fun j' h1 h2=>by
    by_cases e:j'=j
    ·rw[e];exact hin
    exact hR j' h1 oM) (fun G hG=>hB G (zB hG hexp0))
   exact⟨l,g1,g2,zB g3 hexp0,g4⟩
  unfold zT8;rw[if_neg (by rw[hcols j hjr];omega),hcj];by_cases h0:x.s i (c j)=0
  ·rw[if_pos h0]
   exact hskip oM
  rw[if_neg h0,if_neg oM];by_cases hq0:x.s i (c j)/x.s j (c j)=0
  ·rw[if_pos hq0]
   refine hskip ?_;have h1:=zAc (x.s i (c j)) (x.s j (c j));have h2:=zAt (x.s i (c j)) (b:=x.s j (c j)) oM;have h3:=zA2 (x.s i (c j)) hp;rw[hq0,zZ]at h1;omega
  rw[if_neg hq0];obtain⟨q,hq⟩:∃q,x.s i (c j)/x.s j (c j)=q:=⟨_,rfl⟩;rw[hq];have hqT:q.natAbs<=T:=by
   refine zB ?_ (hT i oM (c j) (hE.lt j hjr));rw[<-hq];rcases zDO 0 (x.s i (c j))with h|h
   ·have g1:=zCZ h (zBT hp)
    have g2:=zC5 (x.s j (c j)) h;omega
   have g1:x.s i (c j)/x.s j (c j)<=0:=zA1 h hp;have g2:x.s i (c j)<=x.s i (c j)/x.s j (c j):=by
    rw[zB0 hp];have:x.s i (c j)*x.s j (c j)<=x.s i (c j)*1:=zBN h oM;omega
   omega
  have hb2:2*T*(1+q.natAbs)<=(2*T)^2:=by
   rw[Nat.pow_two];exact zF _ oM
  have hexp2:(2*T)^2<=(2*T)^(2^(m+1)):=zDC hZ1 (zB (show 2<=2^1 by omega) (qE oM oM));have hok:zFI B n Cs Ct x i j (-q):=zIE hM oM oM oM hM1 (by rw[zT];exact hB _ (zB hb2 hexp2));rw[if_pos hok];have hoa:(Op.add i j (-q)).ok n:=⟨by omega,by omega,by omega⟩;have hga:gro [Op.add i j (-q)]=1+q.natAbs:=by simp[gro,Op.g]
  have hst:∀a t,(zCK [.add i j (-q)] x).s a t=if a=i then x.s i t+-q*x.s j t else x.s a t:=fun a t=>rfl
  have hdm:=zAc (x.s i (c j)) (x.s j (c j));have hm0:=zAt (x.s i (c j)) (b:=x.s j (c j)) oM;have hml:=zA2 (x.s i (c j)) hp;rw[hq]at hdm;have hEy:Ech Cs rank c (zCK [.add i j (-q)] x).s:=by
   have hsm:∀t,t<=c i->x.s i t+-q*x.s j t=x.s i t:=fun t ht=>by
    rw[hE.zero j hjr t (by have:=hE.inc i j hij hjr;omega)];omega
   refine⟨hE.lt,fun a ha=>?_,fun a ha t ht=>?_,hE.inc⟩
   ·rw[hst]
    by_cases e:a=i
    ·rw[if_pos e,e,hsm _ (xgf _)];exact hE.pos i oM
    rw[if_neg e];exact hE.pos a ha
   rw[hst];by_cases e:a=i
   ·rw[e]at ht
    rw[if_pos e,hsm t oM];exact hE.zero i oM t ht
   rw[if_neg e];exact hE.zero a ha t ht
  have hexp:(2*(T*(1+q.natAbs)))^(2^m)<=(2*T)^(2^(m+1)):=by
   rw[qF 2 m,zN (2^m),jS (2*T) 2,<-zC];exact jB hb2 _
  obtain⟨l,g1,g2,g3,g4,g5,g6⟩:=ih (j+1) (zCK [.add i j (-q)] x) (M*(1+q.natAbs)) (T*(1+q.natAbs)) oM oM
   (by have:=zGd (jN.cons hoa jN.nil) hM;rwa[hga]at this)
   (by have:=zDX (jN.cons hoa jN.nil) hT;rwa[hga]at this) (yA hT1 oM) (yA hM1 oM) hEy
   (fun j' h1 h2=>by
    rw[hst,hst,if_pos rfl,if_neg oM];by_cases e:j'=j
    ·rw[e,yD,qL q]
     constructor<;>omega
    rw[hE.zero j hjr (c j') (hE.inc j' j oM hjr),zZ,jZ];exact hR j' h1 oM)
   (fun G hG=>by
    rw[zC];refine hB _ (zB ?_ (zB hG hexp));rw[zC 2 (T*_),zC 2 T,zC T];exact xgf _)
  have ef:∀l,zA9 l (zCK [.add i j (-q)] x).s=zA9 ([.add i j (-q)]++l) x.s:=fun l=>by rw[zFJ];rfl
  rw[ef]at g4 g6;refine⟨[.add i j (-q)]++l,?_,(jN.cons hoa jN.nil).app g2,?_,g4,fun a ha t=>?_,g6⟩;rw[zDa];exact g1
  ·rw[zGa,hga]
   refine zB ?_ (zB g3 hexp);rw[zC 2 (T*_),zC 2 T,zC T];exact xgf _
  rw[<-ef,g5 a ha t,hst,if_neg ha]
def zK3(rank:Nat):Nat->Nat
 |0=>0
 |i+1=>(rank-(i+1))+zK3 rank i
theorem zSF{B:Nat}(hrn:rank<=n)(hcols:∀k,k<rank->cols k=(c k:Int)):∀(i:Nat) (x:Bst) (M T:Nat),i<=rank->leB M n Cs Ct x->leM T n Cs x.s->1<=T->1<=M->Ech Cs rank c x.s->
  zFU (fun a _=>i<=a) rank c x.s->(∀G,2*T*G<=(2*T)^(2^zK3 rank i)->M*G<B)->
  ∃l,zWT B n Cs Ct cols rank i x=some (zCK l x)/\jN n l/\2*T*gro l<=(2*T)^(2^zK3 rank i)/\Ech Cs rank c (zA9 l x.s)/\zFU (fun _ _=>True) rank c (zA9 l x.s)/\(∀a,rank<=a->∀t,zA9 l x.s a t=x.s a t):=by
 intro i;induction i with
 |zero=>
  intro x M T hi hM hT hT1 hM1 hE hR hB;exact⟨[],rfl,jN.nil,by simp[gro,zK3],hE,fun a b h1 h2 _=>hR a b h1 h2 (zE _),fun a _ t=>rfl⟩
 | succ i ih=>
  intro x M T hi hM hT hT1 hM1 hE hR hB;have hZ1:1<=2*T:=by omega
  have h2p:∀e,1<=2^e:=fun e=>qP oM
  have hsum:2^zK3 rank (i+1)=2^(rank-(i+1))*2^zK3 rank i:=by
   show 2^((rank-(i+1))+zK3 rank i)=_;rw[yQ]
  have hexp1:(2*T)^(2^(rank-(i+1)))<=(2*T)^(2^zK3 rank (i+1)):=zDC hZ1 (by rw[hsum];exact zQ _ (h2p _));obtain⟨l1,g1,g2,g3,g4,g5,g6⟩:=zSG (B:=B) (Ct:=Ct) (i:=i) hrn oM hcols (rank-(i+1)) (i+1) x M T oM oM hM hT hT1 hM1 hE (fun j' h1 h2=>by omega) (fun G hG=>hB G (zB hG hexp1));have hg:=zHH l1;have hexp:(2*(T*gro l1))^(2^zK3 rank i)<=(2*T)^(2^zK3 rank (i+1)):=by
   rw[hsum,jS (2*T),<-zC];exact jB g3 _
  obtain⟨l2,k1,k2,k3,k4,k5,k6⟩:=ih (zCK l1 x) (M*gro l1) (T*gro l1) oM (zGd g2 hM) (by rw[zGL];exact zDX g2 hT) (yA hT1 hg) (yA hM1 hg) (by rw[zGL];exact g4)
   (fun a b h1 h2 h3=>by
    rw[zGL];by_cases e:a=i
    ·rw[e];exact g6 b oM h2
    rw[g5 a e,g5 b oM];exact hR a b h1 h2 oM)
   (fun G hG=>by
    rw[zC];refine hB _ (zB ?_ (zB hG hexp));rw[zC 2 (T*_),zC 2 T,zC T];exact xgf _)
  have ef:zA9 l2 (zCK l1 x).s=zA9 (l1++l2) x.s:=by rw[zFJ,zGL]
  rw[ef]at k4 k5 k6;refine⟨l1++l2,?_,g2.app k2,?_,k4,k5,fun a ha t=>?_⟩
  ·unfold zWT
   rw[g1,jV,k1,zDa]
  ·rw[zGa]
   refine zB ?_ (zB k3 hexp);rw[zC 2 (T*_),zC 2 T,zC T];exact xgf _
  rw[k6 a ha t,zGL,g5 a oM]
theorem zWA:∀m,m<6->∀r,r<=m+1->zK3 r r<=m*(m+1)/2:=by decide
structure Hnf(C n r:Nat)(c:Nat->Nat)(F:Nat->Nat->Int):Prop where
 le:r<=n
 ech:Ech C r c F
 red:zFU (fun _ _=>True) r c F
 zero:∀a,r<=a->a<n->∀t,t<C->F a t=0
def ecE:Nat->Nat->Nat
 |0,_=>1
 |l+1,m=>4^m*2^(m*(m+1)/2)*ecE l (m+1)
theorem zQ1(l:Nat):∀m,1<=ecE l m:=by
 induction l with
 |zero=>intro m;exact xgf _
 |succ l ih=>intro m;exact yA (yA (qP oM) (qP oM)) (ih _)
theorem zJh{B:Nat}(hn:n<=6):∀(l m rank:Nat) (x:Bst) (M T:Nat) (c:Nat->Nat),m+l=n->rank<=m->leB M n Cs Ct x->leM T n Cs x.s->1<=T->1<=M->Ech Cs rank c x.s->zFU (fun _ _=>True) rank c x.s->
  (∀a,rank<=a->a<m->∀t,t<Cs->x.s a t=0)->(∀G,2*T*G<=(2*T)^ecE l m->M*G<B)->
  ∃f ops r c',(∀g,f<=g->zO7 B n Cs Ct g l m rank x=some (zCK ops x))/\jN n ops/\2*T*gro ops<=(2*T)^ecE l m/\Hnf Cs n r c' (zA9 ops x.s):=by
 intro l;induction l with
 |zero=>
  intro m rank x M T c hml hrm hM hT hT1 hM1 hE hR hz hB;obtain rfl:m=n:=by omega
  exact⟨0,[],rank,c,fun g _=>rfl,jN.nil,by simp[gro,ecE],hrm,hE,hR,hz⟩
 | succ l ih=>
  intro m rank x M T c hml hrm hM hT hT1 hM1 hE hR hz hB;have hZ1:1<=2*T:=by omega
  have p4:∀e,1<=4^e:=fun e=>qP oM
  have p2:∀e,1<=2^e:=fun e=>qP oM
  have hE1:4^rank<=ecE (l+1) m:=by
   unfold ecE;exact zB (qE oM hrm) (zB (zQ _ (p2 _)) (zQ _ (zQ1 _ _)))
  obtain⟨f1,l1,b,c1,g1,g2,g3,g4,g5,g6⟩:=zSj (B:=B) (Ct:=Ct) hrm (show m<n by omega) rank 0 x M T c oM oM hM hT hT1 hM1 hE hz (fun i hi=>by omega) (fun G hG=>hB G (zB hG (zDC hZ1 hE1)));obtain⟨r1,hr1⟩:∃r1,(if b then rank+1 else rank)=r1:=⟨_,rfl⟩;rw[hr1]at g4 g5;have hr1m:r1<=m+1:=by rw[<-hr1];split<;>omega
  have hg1:=zHH l1;have g3':2*(T*gro l1)<=(2*T)^(4^m):=by
   rw[<-zC];exact zB g3 (zDC hZ1 (qE oM hrm))
  have hre:=zWA m oM r1 hr1m;have hexpR:(2*(T*gro l1))^(2^zK3 r1 r1)<=(2*T)^(4^m*2^(m*(m+1)/2)):=by
   rw[jS];exact zB (jB g3' _) (zDC (qP oM) (qE oM hre))
  have hE2:(2*T)^(4^m*2^(m*(m+1)/2))<=(2*T)^ecE (l+1) m:=zDC hZ1 (by unfold ecE;exact zQ _ (zQ1 _ _));have hassoc:∀G,2*T*(gro l1*G)=2*(T*gro l1)*G:=fun G=>by
   rw[zC 2 (T*_),zC 2 T,zC T]
  have hs1:(zCK l1 x).s=zA9 l1 x.s:=zGL _ _;obtain⟨l2,k1,k2,k3,k4,k5,k6⟩:=zSF (B:=B) (Ct:=Ct) (rank:=r1) (cols:=lead Cs (zCK l1 x).s) (c:=c1) (show r1<=n by omega) (fun k hk=>by rw[hs1];exact g4.lead hk) r1 (zCK l1 x) (M*gro l1) (T*gro l1) (xgf _) (zGd g2 hM) (by rw[hs1];exact zDX g2 hT) (yA hT1 hg1) (yA hM1 hg1) (by rw[hs1];exact g4)
   (fun a b h1 h2 h3=>by omega) (fun G hG=>by
    rw[zC];refine hB _ ?_;rw[hassoc];exact zB hG (zB hexpR hE2))
  have hg2:=zHH l2;have ef:zA9 l2 (zCK l1 x).s=zA9 (l1++l2) x.s:=by rw[zFJ,zGL]
  rw[ef]at k4 k5 k6;have hgg:gro (l1++l2)=gro l1*gro l2:=zGa _ _;have hok12:=g2.app k2;have hT2:2*(T*gro (l1++l2))<=(2*T)^(4^m*2^(m*(m+1)/2)):=by
   rw[hgg,<-zC,hassoc];exact zB k3 hexpR
  have hexpL:(2*(T*gro (l1++l2)))^ecE l (m+1)<=(2*T)^ecE (l+1) m:=by
   show _<=(2*T)^(4^m*2^(m*(m+1)/2)*ecE l (m+1));rw[jS];exact jB hT2 _
  have hassoc2:∀G,2*T*(gro (l1++l2)*G)=2*(T*gro (l1++l2))*G:=fun G=>by
   rw[zC 2 (T*_),zC 2 T,zC T]
  have hs2:(zCK (l1++l2) x).s=zA9 (l1++l2) x.s:=zGL _ _;obtain⟨f3,l3,r,c',q1,q2,q3,q4⟩:=ih (m+1) r1 (zCK (l1++l2) x) (M*gro (l1++l2)) (T*gro (l1++l2)) c1 oM hr1m (zGd hok12 hM) (by rw[hs2];exact zDX hok12 hT) (yA hT1 (zHH _)) (yA hM1 (zHH _)) (by rw[hs2];exact k4) (by rw[hs2];exact k5)
   (fun a h1 h2 t ht=>by rw[hs2,k6 a h1 t,hs1];exact g5 a h1 oM t ht)
   (fun G hG=>by
    rw[zC];refine hB _ ?_;rw[hassoc2];exact zB hG hexpL)
  refine⟨max f1 f3,(l1++l2)++l3,r,c',fun g hg=>?_,hok12.app q2,?_,?_⟩
  ·unfold zO7
   rw[zSi g1 (show f1<=g by omega),jV];dsimp only;rw[hr1];unfold zIu;rw[k1,jV,<-zDa,q1 g oM,zDa (l1++l2) l3]
  ·rw[zGa,hassoc2]
   exact zB q3 hexpL
  rw[zFJ,<-hs2];exact q4
def KE:Nat:=4194304
theorem zWs(hn:n<=4):ecE n 0<=KE:=by
 have:∀n,n<=4->ecE n 0<=4194304:=by decide
 exact this n hn
theorem zLk(hn:n<=4)(x:Bst)(M T:Nat)(hM:leB M n Cs Ct x)(hT:leM T n Cs x.s)(hT1:1<=T)(hM1:1<=M)(hB:∀G,2*T*G<=(2*T)^KE->M*G<B):
  ∃f ops r c',(∀g,f<=g->zXg B n Cs Ct g x=some (zCK ops x))/\jN n ops/\2*T*gro ops<=(2*T)^KE/\Hnf Cs n r c' (zA9 ops x.s):=by
 have hp:(2*T)^ecE n 0<=(2*T)^KE:=zDC oM (zWs hn);obtain⟨f,ops,r,c',h1,h2,h3,h4⟩:=zJh (B:=B) (Ct:=Ct) (zB hn dE) n 0 0 x M T (fun _=>0) oM oM hM hT hT1 hM1 ⟨fun k hk=>by omega,fun k hk=>by omega,fun k hk=>by omega,fun k l h1 h2=>by omega⟩ (fun i j h1 h2=>by omega) (fun a h1 h2=>by omega) (fun G hG=>hB G (zB hG hp));exact⟨f,ops,r,c',h1,h2,zB h3 hp,h4⟩
theorem zH7(h:∃t,t<r/\x t≠0):∃t,t<r/\x t≠0/\∀s,s<t->x s=0:=by
 obtain⟨t,ht⟩:=h;induction t using Nat.strongRecOn with
 | ind t ih=>
  by_cases he:∃s,s<t/\x s≠0
  ·obtain⟨s,h1,h2⟩:=he
   exact ih s h1 ⟨by omega,h2⟩
  exact⟨t,ht.1,ht.2,fun s hs=>zM fun hn=>he ⟨s,hs,hn⟩⟩
theorem zKU(hE:Ech C r c H)(ht:t<r)(hx:∀s,s<t->x s=0):(qH r fun s=>x s*H s (c t))=x t*H t (c t):=
 zBB ht fun s hs hne=>by
  rcases zG s t with h|h
  rw[hx s h,yB];rw[hE.zero s hs _ (hE.inc t s oM hs),zZ]
theorem zMq(hE:Ech C r c H){b:Nat}(ht:t<r)(hx:∀s,s<t->x s=0)(hb:b<c t):(qH r fun s=>x s*H s b)=0:=
 zBf fun s hs=>by
  rcases zG s t with h|h
  rw[hx s h,yB];have:b<c s:=by
   rcases zG t s with h2|h2
   have:=hE.inc t s h2 hs;omega;obtain rfl:s=t:=by omega
   exact hb
  rw[hE.zero s hs _ this,zZ]
theorem zG7{v:Nat->Int}(hE:Ech C r c H)(hv:∀b,b<C->v b=qH r fun t=>x t*H t b){d:Nat}(hd:d<C)(h0:v d≠0)(hz:∀b,b<d->v b=0):
  ∃j,j<r/\c j=d/\v d=x j*H j (c j):=by
 have hex:∃t,t<r/\x t≠0:=zM fun hn=>h0 (by
  rw[hv d hd];exact zBf fun t ht=>by
   have:x t=0:=zM fun h=>hn ⟨t,ht,h⟩
   rw[this,yB])
 obtain⟨t,ht,hx,hbef⟩:=zH7 hex;have h1:=zKU hE ht hbef;have h2:v (c t)=x t*H t (c t):=by rw[hv _ (hE.lt t ht),h1]
 have h3:v (c t)≠0:=by
  rw[h2];exact Int.mul_ne_zero hx (by have:=hE.pos t ht;omega)
 have h4:c t=d:=by
  rcases yG (c t) d with h|h|h
  exact absurd (hz _ h) h3;exact h;exact absurd (by rw[hv d hd];exact zMq hE ht hbef h) h0
 exact⟨t,ht,h4,by rw[<-h4];exact h2⟩
def zJI(n C:Nat)(H G:Nat->Nat->Int):Prop:=∃X:Nat->Nat->Int,∀a,a<n->∀b,b<C->G a b=qH n fun t=>X a t*H t b
theorem Hnf.span(hH:Hnf C n r c H)(h:zJI n C H G):∃X:Nat->Nat->Int,∀a,a<n->∀b,b<C->G a b=qH r fun t=>X a t*H t b:=by
 obtain⟨X,e⟩:=h;refine⟨X,fun a ha b hb=>?_⟩;rw[e a ha b hb];exact zEh hH.le fun t h2 h3=>by rw[hH.zero t h2 h3 b hb,zZ]
theorem zOB(hH:Hnf C n r c H)(hG:Hnf C n r' c' G)(h1:zJI n C H G)(h2:zJI n C G H):∀k,k<r->k<r'/\c' k=c k:=by
 obtain⟨X,hX⟩:=hH.span h1;obtain⟨Y,hY⟩:=hG.span h2;have cG:∀k,k<r'->∃j,j<r/\c j=c' k:=fun k hk=>by
  obtain⟨j,a,b,-⟩:=zG7 hH.ech (v:=G k) (x:=X k) (fun b hb=>hX k (zH hk hG.le) b hb) (hG.ech.lt k hk) (by have:=hG.ech.pos k hk;omega) (hG.ech.zero k hk);exact⟨j,a,b⟩
 have cH:∀k,k<r->∃j,j<r'/\c' j=c k:=fun k hk=>by
  obtain⟨j,a,b,-⟩:=zG7 hG.ech (v:=H k) (x:=Y k) (fun b hb=>hY k (zH hk hH.le) b hb) (hH.ech.lt k hk) (by have:=hH.ech.pos k hk;omega) (hH.ech.zero k hk);exact⟨j,a,b⟩
 intro k;induction k using Nat.strongRecOn with
 | ind k ih=>
  intro hk;obtain⟨j,hj,ej⟩:=cH k hk;have hkj:k<=j:=by
   refine zAE fun h=>?_
   have e1:=(ih j h oM).2;have:=hH.ech.inc j k h hk;omega
  have hkr:k<r':=by omega
  refine⟨hkr,?_⟩;obtain⟨i,hi,ei⟩:=cG k hkr;have h3:c' k<=c' j:=by
   rcases zG k j with h|h
   exact zAw (hG.ech.inc k j h hj);obtain rfl:k=j:=by omega
   exact xgf _
  have h4:k<=i:=by
   refine zAE fun h=>?_
   have e1:=(ih i h oM).2;have:=hG.ech.inc i k h hkr;omega
  have h5:c k<=c i:=by
   rcases zG k i with h|h
   exact zAw (hH.ech.inc k i h hi);obtain rfl:k=i:=by omega
   exact xgf _
  omega
theorem zPF(hH:Hnf C n r c H)(hG:Hnf C n r' c' G)(h1:zJI n C H G)(h2:zJI n C G H):
  r=r'/\(∀k,k<r->c' k=c k)/\∀a,a<n->∀b,b<C->G a b=H a b:=by
 have k1:=zOB hH hG h1 h2;have k2:=zOB hG hH h2 h1;have hr:r=r':=by
  have a1:r<=r':=by
   rcases qN r with h|h
   omega;have:=(k1 (r-1) oM).1;omega
  have a2:r'<=r:=by
   rcases qN r' with h|h
   omega;have:=(k2 (r'-1) oM).1;omega
  omega
 subst hr;have hc:∀k,k<r->c' k=c k:=fun k hk=>(k1 k hk).2
 obtain⟨X,hX⟩:=hH.span h1;obtain⟨Y,hY⟩:=hG.span h2;have hp:∀k,k<r->G k (c k)=H k (c k):=fun k hk=>by
  obtain⟨j,j1,j2,j3⟩:=zG7 hH.ech (v:=G k) (x:=X k) (fun b hb=>hX k (zH hk hG.le) b hb) (hG.ech.lt k hk) (by have:=hG.ech.pos k hk;omega) (hG.ech.zero k hk);obtain⟨i,i1,i2,i3⟩:=zG7 hG.ech (v:=H k) (x:=Y k) (fun b hb=>hY k (zH hk hH.le) b hb) (hH.ech.lt k hk) (by have:=hH.ech.pos k hk;omega) (hH.ech.zero k hk);have ej:j=k:=by
   rw[hc k hk]at j2;rcases yG j k with h|h|h
   have:=hH.ech.inc j k h hk;omega;exact h;have:=hH.ech.inc k j h j1;omega
  have ei:i=k:=by
   rw[hc i i1]at i2;rcases yG i k with h|h|h
   have:=hH.ech.inc i k h hk;omega;exact h;have:=hH.ech.inc k i h i1;omega
  subst ej;subst ei;rw[hc _ hk]at j3 i3;exact zC4 (by have:=hG.ech.pos _ hk;rw[hc _ hk]at this;omega) (by have:=hH.ech.pos _ hk;omega) ⟨Y _ _,by rw[i3,qL]⟩ ⟨X _ _,by rw[j3,qL]⟩
 refine⟨rfl,hc,fun a ha b hb=>?_⟩;rcases zG a r with har|har
 ·have hD:∀b,b<C->G a b-H a b=qH r fun t=>(X a t-(if t=a then 1 else 0))*H t b:=fun b hb=>by
   have e1:(qH r fun t=>(if t=a then(1:Int)else 0)*H t b)=H a b:=by
    rw[zBB har (fun i _ hne=>by rw[if_neg hne,yB]),if_pos rfl,zAD]
   have e2:=zOg r 1 (-1) (fun t=>X a t*H t b) (fun t=>(if t=a then(1:Int)else 0)*H t b);have e4:(qH r fun t=>(X a t-(if t=a then 1 else 0))*H t b)=qH r fun t=>1*(X a t*H t b)+(-1)*((if t=a then(1:Int)else 0)*H t b):=zL fun t _=>by
    rw[zDq];omega
   rw[hX a ha b hb,e4,e2,e1];omega
  have hz:∀t,t<r->X a t-(if t=a then 1 else 0)=0:=zM fun hn=>by
   have hex:∃t,t<r/\X a t-(if t=a then 1 else 0)≠0:=zM fun h=>hn fun t ht=>zM fun h2=>h ⟨t,ht,h2⟩
   obtain⟨t,ht,hx,hbef⟩:=zH7 hex;have e1:=zKU hH.ech ht hbef;rw[<-hD _ (hH.ech.lt t ht)]at e1;have hpos:=hH.ech.pos t ht;have hlow:∀y:Int,y≠0->H t (c t)<=(y*H t (c t)).natAbs:=fun y hy=>by
    rw[qZ];have:1<=y.natAbs:=by omega
    have h5:=zO (H t (c t)).natAbs this;omega
   have h6:=hlow _ hx;rw[<-e1]at h6;rcases yG t a with h|h|h
   ·have f1:=hH.ech.zero a har (c t) (hH.ech.inc t a h har)
    have f2:=hG.ech.zero a har (c t) (by rw[hc a har];exact hH.ech.inc t a h har);rw[f1,f2]at h6;simp at h6;omega
   ·subst h
    rw[hp t ht]at h6;simp at h6;omega
   obtain⟨f1,f2⟩:=hH.red a t h ht trivial;obtain⟨f3,f4⟩:=hG.red a t h ht trivial;rw[hc t ht,hp t ht]at f4;rw[hc t ht]at f3;omega
  have e4:=hD b hb;rw[zBf (fun t ht=>by rw[hz t ht,yB])]at e4;omega
 rw[hG.zero a har ha b hb,hH.zero a har ha b hb]
theorem zMr{R:Nat}{F:Nat->Nat->Int}{c:Nat->Int}{v:Nat->Nat->Int}(h:i<k):
  det k (zD1 F i fun a=>qH R fun t=>c t*v a t)=qH R fun t=>c t*det k (zD1 F i fun a=>v a t):=by
 have:=zGY (k:=k) (R:=R) (F:=trp F) (i:=i) (c:=c) (v:=fun t a=>v a t) h;rw[<-zCr]at this;refine this.trans (zL fun t ht=>?_);rw[<-zCr];rfl
theorem zQs(k:Nat):det k idf=1:=by
 rw[zEJ (fun a _ b _ h=>by unfold idf;rw[if_neg oM])];induction k with
 |zero=>rfl
 |succ k ih=>unfold yW;rw[ih];simp[idf]
theorem zVe(hk:k<=4):zM2 k<=24:=by
 have:∀k,k<=4->zM2 k<=24:=by decide
 exact this k hk
theorem zN5(hk:k<=4)(h1:1<=h)(hF:∀a,a<k->∀b,b<k->(F a b).natAbs<=h):(det k F).natAbs<=24*h^4:=
 zB (zO0 hF) (qT (zVe hk) (zDC h1 hk))
theorem zN6{V:Nat->Nat->Int}(h:∀a,a<r->∀b,b<r->qH R (fun t=>P a t*V t b)=idf a b):∃σ:Nat->Nat,(∀a,a<r->σ a<R)/\det r (fun a b=>V (σ a) b)≠0:=by
 refine zM fun hn=>?_
 have h1:(0:Int)∣det r fun a b=>qH R fun t=>P a t*V t b:=zCj fun σ hσ=>by
  have:det r (fun a b=>V (σ a) b)=0:=zM fun h0=>hn ⟨σ,hσ,h0⟩
  rw[this];exact zAL 0
 rw[zAm (G:=idf) h,zQs]at h1;have:=Int.zero_dvd.1 h1;omega
theorem zJn{σ:Nat->Nat}(hr4:r<=4)(h1:1<=h)(hE:Ech C r c H)(hred:zFU (fun _ _=>True) r c H)(hA:leM h R C A)(hback2:∀a,a<R->∀b,b<C->A a b=qH r fun t=>X t a*H t b)
  (hσ:∀a,a<r->σ a<R) (hdet:det r (fun a b=>X b (σ a))≠0):leM (24*(8*h)^4) r C H:=by
 have hpivz:∀j,j<r->∀t,j<t->t<r->H t (c j)=0:=fun j hj t h2 h3=>hE.zero t h3 _ (hE.inc j t h2 h3)
 have hV:∀j,j<r->∀a,a<R->(X j a).natAbs<=h*2^j:=by
  intro j;induction j using Nat.strongRecOn with
  | ind j ih=>
   intro hj a ha;have e:=hback2 a ha (c j) (hE.lt j hj);have hp:=hE.pos j hj;rw[zEh (n:=j+1) oM (fun t h2 h3=>by rw[hpivz j hj t oM h3,zZ])]at e;have hs:qH (j+1) (fun t=>X t a*H t (c j))=qH j (fun t=>X t a*H t (c j))+X j a*H j (c j):=rfl;rw[hs]at e;obtain⟨p,hpp⟩:∃p:Nat,H j (c j)=(p:Int):=⟨(H j (c j)).toNat,by omega⟩;have hsum:∀m,m<=j->(qH m (fun t=>X t a*H t (c j))).natAbs<=(h*2^m-h)*p:=by
    intro m;induction m with
    |zero=>intro _;simp[qH]
    | succ m ihm=>
     intro hm;have g1:=ihm oM;have g2:=ih m oM oM a ha;have g3:=hred m j oM hj trivial;have g4:(H m (c j)).natAbs<=p:=by omega
     have g5:(X m a*H m (c j)).natAbs<=h*2^m*p:=by rw[qZ];exact qT g2 g4
     have g6:(qH (m+1) (fun t=>X t a*H t (c j))).natAbs<=(qH m (fun t=>X t a*H t (c j))).natAbs+(X m a*H m (c j)).natAbs:=by
      show(qH m (fun t=>X t a*H t (c j))+X m a*H m (c j)).natAbs<=_;omega
     have g7:(h*2^m-h)*p+h*2^m*p=(h*2^(m+1)-h)*p:=by
      rw[<-zY];congr 1;have:h<=h*2^m:=zQ _ (qP oM);rw[qF,<-zC];omega
     omega
   have g1:=hsum j (xgf _);have g2:=hA a ha (c j) (hE.lt j hj);have g3:(X j a*H j (c j)).natAbs<=h+(h*2^j-h)*p:=by omega
   rw[qZ,hpp,zAh]at g3;have g4:h<=h*p:=zQ _ oM;have g5:h*p+(h*2^j-h)*p=h*2^j*p:=by
    rw[<-zY];congr 1;have:h<=h*2^j:=zQ _ (qP oM);omega
   have g6:(X j a).natAbs*p<=h*2^j*p:=by omega
   exact Nat.le_of_mul_le_mul_right g6 oM
 have hV8:∀j,j<r->∀a,a<R->(X j a).natAbs<=8*h:=fun j hj a ha=>by
  have g1:=hV j hj a ha;have g2:2^j<=2^3:=qE oM oM;have g3:h*2^j<=h*2^3:=zF _ g2;omega
 intro i hir b hb;have e1:det r (zD1 (fun a b=>X b (σ a)) i fun a=>A (σ a) b)=H i b*det r (fun a b=>X b (σ a)):=by
  have e2:det r (zD1 (fun a b=>X b (σ a)) i fun a=>A (σ a) b)=det r (zD1 (fun a b=>X b (σ a)) i fun a=>qH r fun t=>H t b*X t (σ a)):=zAm fun a ha b' hb'=>by
   unfold zD1;split
   ·dsimp only
    rw[hback2 _ (hσ a ha) b hb];exact zL fun t ht=>qL _ _
   rfl
  rw[e2,zMr (v:=fun a t=>X t (σ a)) hir,zBB (c:=i) hir];rw[zI0 (fun a b=>X b (σ a)) i];intro t ht hne;have:det r (zD1 (fun a b=>X b (σ a)) i fun a=>X t (σ a))=0:=by
   rcases zG t i with h2|h2
   exact zHG h2 hir fun a=>by unfold zD1;rw[if_pos rfl,if_neg oM]
   exact zHG (c:=i) (d:=t) oM ht fun a=>by unfold zD1;rw[if_pos rfl,if_neg oM]
  rw[this,zZ]
 have e3:(det r (zD1 (fun a b=>X b (σ a)) i fun a=>A (σ a) b)).natAbs<=24*(8*h)^4:=zN5 hr4 oM fun a ha b' hb'=>by
  unfold zD1;split
  ·have:=hA _ (hσ a ha) b hb
   dsimp only;omega
  exact hV8 b' hb' _ (hσ a ha)
 rw[e1,qZ]at e3;exact zB (zQ _ oM) e3
theorem zRJ{U:Nat->Nat->Int}(hR:R<=4)(h1:1<=h)(hH:Hnf C R r c H)(hA:leM h R C A)(hback:∀a,a<R->∀b,b<C->A a b=qH R fun t=>X t a*H t b)
  (huv:∀a,a<R->∀b,b<R->dot R U X a b=idf a b):leM (24*(8*h)^4) R C H:=by
 obtain⟨σ,hσ,hdet⟩:=zN6 (r:=r) (R:=R) (P:=U) (V:=fun t b=>X b t) (fun a ha b hb=>huv a (by have:=hH.le;omega) b (by have:=hH.le;omega));have hb:=zJn (zB hH.le hR) h1 hH.ech hH.red hA (fun a ha b hb=>by
  rw[hback a ha b hb];exact zEh hH.le fun t h2 h3=>by rw[hH.zero t h2 h3 b hb,zZ]) hσ hdet
 intro i hi b hb';rcases zG i r with hir|hir
 exact hb i hir b hb';rw[hH.zero i hir hi b hb'];exact zE _
theorem zJo{σ:Nat->Nat}(hH:Hnf m n r c H)(hback:∀a,a<n->∀b,b<m->F a b=qH n fun t=>X t a*H t b)(hcol:∀a,a<n->∀b,r'<=b->b<m->H a b=0)(hr':r'<=m)
  (hσ:∀a,a<r'->σ a<n) (hdet:det r' (fun a b=>F (σ a) b)≠0):r=r'/\∀k,k<r->c k=k:=by
 have hc:∀k,k<r->c k<r':=fun k hk=>by
  rcases zG (c k) r' with h|h
  exact h;have h1:=hcol k (by have:=hH.le;omega) (c k) h (hH.ech.lt k hk);have h2:=hH.ech.pos k hk;omega
 have hck:∀k,k<r->k<=c k:=by
  intro k;induction k with
  |zero=>intro _;omega
  |succ k ih=>
   intro hk;have h1:=ih oM;have h2:=hH.ech.inc k (k+1) oM hk;omega
 have hle:r<=r':=by
  rcases qN r with h|h
  omega;have h1:=hck (r-1) oM;have h2:=hc (r-1) oM;omega
 have hge:r'<=r:=by
  rcases zG r r' with h|h
  ·have h1:(0:Int)∣det r' fun a b=>qH n fun t=>X t (σ a)*H t b:=zCj (P:=fun a t=>X t (σ a)) (F:=H) fun τ hτ=>by
    refine zDF (R:=n) (F:=H) (fun τ hτ hi=>?_) τ hτ;have h2:=hi.le (r'-1) oM;rw[zCJ (c:=r'-1) oM fun b hb=>hH.zero _ oM (hτ _ oM) b oM];exact zAL 0
   rw[zAm (G:=fun a b=>F (σ a) b) fun a ha b hb=>(hback _ (hσ a ha) b oM).symm]at h1;exact absurd (Int.zero_dvd.1 h1) hdet
  exact h
 refine⟨by omega,fun k hk=>?_⟩;have hup:∀d k,k+d+1=r->c k+d<r':=by
  intro d;induction d with
  |zero=>intro k hk;exact hc k oM
  |succ d ih=>
   intro k hk;have h1:=ih (k+1) oM;have h2:=hH.ech.inc k (k+1) oM oM;omega
 have h1:=hup (r-1-k) k oM;have h2:=hck k hk;omega
theorem zRK(hH:Hnf m n r (fun k=>k) H)(hback:∀a,a<n->∀b,b<m->F a b=qH n fun t=>X t a*H t b)(hj:j<=r)(hlow:∀a,a<j->∀b,b<j->a<b->F a b=0):
  yW j (fun i=>H i i)∣yW j (fun i=>F i i):=by
 have hrn:=hH.le;have hrm:r<=m:=by
  rcases qN r with h|h
  omega;have:=hH.ech.lt (r-1) oM;omega
 rw [<-zEJ hlow];have h1:yW j (fun i=>H i i)∣det j fun a b=>qH n fun t=>X t a*H t b:=zCj (P:=fun a t=>X t a) (F:=H) fun τ hτ=>by
  refine zDF (R:=n) (F:=H) (fun τ hτ hi=>?_) τ hτ;rcases qN j with hj0|hj0
  subst hj0;exact zAL _;rcases zG (τ (j-1)) j with h|h
  ·have hid:∀d,d<j->τ (j-1-d)=j-1-d:=by
    intro d hd;have h2:=hi.le (j-1-d) oM;rcases qN d with h3|h3
    ·subst h3
     have:=hi.le (j-1) oM;simp only[Nat.sub_zero]at*;omega
    have:∀d,d<j->τ (j-1-d)+d<=τ (j-1):=by
     intro d;induction d with
     |zero=>intro _;simp
     |succ d ihd=>
      intro hd;have g1:=ihd oM;have g2:=hi (j-1-(d+1)) oM;rw[show j-1-(d+1)+1=j-1-d by omega]at g2;omega
    have:=this d hd;omega
   rw[zAm (G:=H) fun a ha b hb=>by
    have:=hid (j-1-a) oM;rw[show j-1-(j-1-a)=a by omega]at this;rw[this]]
   rw[zFZ fun a ha b hb hab=>hH.ech.zero a oM b hab];exact zAL _
  rw[zCJ (c:=j-1) oM fun b hb=>?_];exact zCC _;rcases zG (τ (j-1)) r with h2|h2
  exact hH.ech.zero _ h2 b oM;exact hH.zero _ h2 (hτ _ oM) b oM
 rwa[zAm (G:=F) fun a ha b hb=>(hback a oM b oM).symm]at h1
theorem zTZ(hH:Hnf m n r (fun k=>k) H)(hback:∀a,a<n->∀b,b<m->F a b=qH n fun t=>X t a*H t b)(hlow:∀a,a<r->∀b,b<r->a<b->F a b=0)(hp:∀i,i<r->F i i=H i i)(hrm:r<=m):
  ∀i,i<r->∀b,b<r->i<b->H i b=0:=by
 have hrn:=hH.le;have hback2:∀a,a<n->∀b,b<m->F a b=qH r fun t=>X t a*H t b:=fun a ha b hb=>by
  rw[hback a ha b hb];refine zEh hH.le fun t h2 h3=>?_
  rw[hH.zero t h2 h3 b hb,zZ]
 intro i;induction i using Nat.strongRecOn with
 | ind i ihi=>
  intro hi;have hpi:0<H i i:=hH.ech.pos i hi;have hone:X i i=1:=by
   have e:=hback2 i oM i oM;rw[zBB (c:=i) hi (fun t ht hne=>by
    rcases zG t i with h|h
    rw[ihi t h ht i hi h,zZ];rw[hH.ech.zero t ht i (by show i<t;omega),zZ]),hp i hi]at e
   have h2:(X i i-1)*H i i=0:=by rw[zDq,zAD];omega
   rcases Int.mul_eq_zero.1 h2 with h|h<;>omega
  have key:∀b,b<r->i<b->H i b=0/\X b i=0:=by
   intro b;induction b using Nat.strongRecOn with
   | ind b ihb=>
    intro hb hib;have e:=hback2 i oM b oM;rw[hlow i hi b hb hib]at e;have hsplit:qH r (fun t=>X t i*H t b)=X i i*H i b+X b i*H b b:=by
     have g1:qH r (fun t=>X t i*H t b)=qH r (fun t=>(if t=i then X i i*H i b else 0)+(if t=b then X b i*H b b else 0)):=zL fun t ht=>by
      by_cases e1:t=i
      ·rw[if_pos e1,if_neg oM,e1];omega
      rw[if_neg e1];by_cases e2:t=b
      ·rw[if_pos e2,e2];omega
      rw[if_neg e2];rcases zG t b with h|h
      ·rcases zG t i with h3|h3
       ·rw[ihi t h3 ht b hb oM,zZ];rfl
       rw[(ihb t h ht oM).2,yB];rfl
      rw[hH.ech.zero t ht b (by show b<t;omega),zZ];rfl
     rw[g1,zBj,zBB (c:=i) hi (fun t _ hne=>if_neg hne),zBB (c:=b) hb (fun t _ hne=>if_neg hne),if_pos rfl,if_pos rfl]
    rw[hsplit,hone,zAD]at e;have hr:0<=H i b/\H i b<H b b:=hH.red i b hib hb trivial;have hX:X b i=0:=by
     rcases zAY (X b i) 0 with h|h|h
     ·have:X b i*H b b<=-1*H b b:=yK oM oM
      omega
     exact h;have:1*H b b<=X b i*H b b:=yK oM oM;omega
    rw[hX,yB]at e;exact⟨by omega,hX⟩
  exact fun b hb hib=>(key b hb hib).1
theorem zOC{P Q P' Q':Nat->Nat->Int}(hr4:r<=4)(h1:1<=h)(hH:Hnf C R r (fun k=>k) H)(hcol:∀a,a<R->∀b,r<=b->b<C->H a b=0)(hA:leM h R C A)
  (hto:∀a,a<R->∀b,b<C->H a b=qH R fun s=>P a s*qH C fun t=>A s t*Q t b) (hfrom:∀a,a<R->∀b,b<C->A a b=qH R fun s=>P' a s*qH C fun t=>H s t*Q' t b):
  (yW r (fun i=>H i i)).natAbs<=24*h^4:=by
 have hrn:=hH.le;have hrC:r<=C:=by
  rcases qN r with h|h
  omega;have:=hH.ech.lt (r-1) oM;omega
 have hpos:0<yW r (fun i=>H i i):=jX fun i hi=>hH.ech.pos i hi
 have hdH:det r H=yW r (fun i=>H i i):=zFZ fun a ha b hb hab=>hH.ech.zero a ha b hab
 obtain⟨σ,τ,hσ,hτ,hne⟩:∃σ τ:Nat->Nat,(∀a,a<r->σ a<R)/\(∀a,a<r->τ a<C)/\det r (fun a b=>A (σ a) (τ b))≠0:=by
  refine zM fun hn=>?_
  have g1:(0:Int)∣det r fun a b=>qH R fun s=>P a s*qH C fun t=>A s t*Q t b:=zFX fun σ τ hσ hτ=>by
   have:det r (fun a b=>A (σ a) (τ b))=0:=zM fun h0=>hn ⟨σ,τ,hσ,hτ,h0⟩
   rw[this];exact zAL 0
  rw[zAm (G:=H) fun a ha b hb=>(hto a oM b oM).symm,hdH]at g1;have:=Int.zero_dvd.1 g1;omega
 have g2:yW r (fun i=>H i i)∣det r fun a b=>qH R fun s=>P' (σ a) s*qH C fun t=>H s t*Q' t (τ b):=zFX (P:=fun a s=>P' (σ a) s) (Q:=fun t b=>Q' t (τ b)) fun σ' τ' hσ' hτ'=>by
  refine zFb (R:=R) (C:=C) (F:=H) (fun σ' τ' hσ' hτ' hi hi'=>?_) σ' τ' hσ' hτ';rcases qN r with hr0|hr0
  subst hr0;exact zAL _;have hid:∀τ:Nat->Nat,Inc r τ->τ (r-1)<r->∀a,a<r->τ a=a:=by
   intro τ hi hl a ha;have h2:=hi.le a ha;have:∀d,d<r->τ (r-1-d)+d<=τ (r-1):=by
    intro d;induction d with
    |zero=>intro _;simp
    |succ d ihd=>
     intro hd;have g1:=ihd oM;have g2:=hi (r-1-(d+1)) oM;rw[show r-1-(d+1)+1=r-1-d by omega]at g2;omega
   have:=this (r-1-a) oM;rw[show r-1-(r-1-a)=a by omega]at this;omega
  rcases zG (σ' (r-1)) r with h3|h3
  ·rcases zG (τ' (r-1)) r with h4|h4
   ·rw[zAm (G:=H) fun a ha b hb=>by rw[hid σ' hi h3 a ha,hid τ' hi' h4 b hb],hdH]
    exact zAL _
   rw[zHk (F:=fun a b=>H (σ' a) (τ' b)) (c:=r-1) oM fun a ha=>hcol _ (hσ' a ha) _ h4 (hτ' _ oM)];exact zCC _
  rw[zCJ (c:=r-1) oM fun b hb=>hH.zero _ h3 (hσ' _ oM) _ (hτ' b hb)];exact zCC _
 rw[zAm (G:=fun a b=>A (σ a) (τ b)) fun a ha b hb=>(hfrom _ (hσ a ha) _ (hτ b hb)).symm]at g2;refine zB ?_ (zN5 (F:=fun a b=>A (σ a) (τ b)) hr4 h1 fun a ha b hb=>hA _ (hσ a ha) _ (hτ b hb));exact zC0 oM (Int.natAbs_dvd_natAbs.2 g2)
theorem zNZ{f:Nat->Int}(h:∀i,i<r->0<f i)(hi:i<r):f i<=yW r f:=by
 induction r with
 |zero=>omega
 | succ r ih=>
  have hp:0<yW r f:=jX fun j hj=>h j oM
  have hl:=h r oM;unfold yW;by_cases e:i=r
  ·rw[e]
   have:1*f r<=yW r f*f r:=yK oM oM;omega
  have h1:=ih (fun j hj=>h j oM) oM;have:yW r f*1<=yW r f*f r:=zAH oM oM;omega
theorem zLs(hH:Hnf C R r (fun k=>k) H)(hcol:∀a,a<R->∀b,r<=b->b<C->H a b=0)(hT:(yW r (fun i=>H i i)).natAbs<=T):leM T R C H:=by
 intro a ha b hb;refine zB ?_ hT;have hpos:∀i,i<r->0<H i i:=fun i hi=>hH.ech.pos i hi
 rcases zG a r with h1|h1
 ·rcases zG b r with h2|h2
  ·have g:=zNZ hpos h2
   rcases yG a b with h3|h3|h3
   ·have:0<=H a b/\H a b<H b b:=hH.red a b h3 h2 trivial
    omega
   ·subst h3
    have:=hpos a h1;omega
   rw[hH.ech.zero a h1 b h3];omega
  rw[hcol a ha b h2 hb];omega
 rw[hH.zero a h1 ha b hb];omega
end Go.Proofs.YtkidaebmhlijlaaGreat
