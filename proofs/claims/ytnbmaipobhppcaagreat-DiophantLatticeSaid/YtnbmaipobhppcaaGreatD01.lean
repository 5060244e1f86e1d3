/- Numbers to the base 2^32 as lists of limbs: plain arithmetic, no program. What integers of the program look like in memory: limbs, integers, frames; over any world. The functions of package integer on limbs: what each call does. The functions of package integer on limbs, second part. The functions of package integer on limbs, third part. The functions of package integer on limbs, fourth part: times, word, limbs. -/
import Derived.Test.YtnbmaipobhppcaaGreatRows
import Derived.WalkKit
import Derived.WalkSpells
import Derived.WalkLawsBesides
import Derived.Lib.Hide
import Derived.Deep.Draws
import Derived.Deep.QuietTactic
import Derived.BigQuiet
set_option linter.unusedVariables false
set_option linter.unusedSimpArgs false
set_option linter.unusedSectionVars false
set_option maxHeartbeats 16000000
set_option maxRecDepth 100000
namespace Go.Proofs.YtnbmaipobhppcaaGreat
def B32:Nat:=4294967296
theorem yS:B32=4294967296:=rfl
theorem jA:0<B32:=by decide
def nat:List Nat->Nat
 | []=>0
 |x::xs=>x+B32*nat xs
@[simp] theorem nat_nil:nat []=0:=rfl
theorem yM(x:Nat)(xs:List Nat):nat (x::xs)=x+B32*nat xs:=rfl
theorem zBW(xs ys:List Nat):nat (xs++ys)=nat xs+B32^xs.length*nat ys:=by
 induction xs with
 |nil=>simp
 |cons x xs ih=>
  simp only[List.cons_append,yM,ih,List.length_cons,Nat.pow_succ,Nat.mul_add];rw[Nat.add_assoc,<-Nat.mul_assoc,Nat.mul_comm B32 (B32^xs.length)]
theorem zAu(xs:List Nat)(y:Nat):nat (xs++ [y])=nat xs+B32^xs.length*y:=by
 rw[zBW];simp[yM]
def qR(xs:List Nat):Prop:=∀x∈xs,x<B32
theorem qR.cons{x:Nat}{xs:List Nat}(h:qR (x::xs)):x<B32/\qR xs:=
 ⟨h x (by simp),fun y hy=>h y (by simp[hy])⟩
theorem qR.nil:qR []:=by intro x hx;cases hx
theorem qR.take{xs:List Nat}(h:qR xs)(k:Nat):qR (xs.take k):=fun x hx=>h x (List.mem_of_mem_take hx)
theorem qR.append{xs ys:List Nat}(h:qR xs)(k:qR ys):qR (xs++ys):=fun x hx=>by
 rcases List.mem_append.1 hx with h1|h1
 ·exact h x h1
 ·exact k x h1
theorem qR.get{xs:List Nat}(h:qR xs)(k:Nat):xs.getD k 0<B32:=by
 rw[List.getD_eq_getElem?_getD];rcases Nat.lt_or_ge k xs.length with hk|hk
 ·rw[List.getElem?_eq_getElem hk];exact h _ (List.getElem_mem hk)
 ·rw[List.getElem?_eq_none hk];exact jA
theorem jX{xs:List Nat}(h:qR xs):nat xs<B32^xs.length:=by
 induction xs with
 |nil=>simp
 |cons x xs ih=>
  obtain⟨hx,hxs⟩:=h.cons;have:=ih hxs;simp only[yM,List.length_cons,Nat.pow_succ];have h2:B32*(nat xs+1)<=B32*B32^xs.length:=Nat.mul_le_mul_left _ this;rw[Nat.mul_add]at h2;rw[Nat.mul_comm (B32^xs.length)];omega
def qM(xs:List Nat):Prop:=∀n,xs.length=n+1->xs.getD n 0≠0
theorem qM.nil:qM []:=by intro n h;simp at h
theorem qM.tail{x:Nat}{xs:List Nat}(h:qM (x::xs)):qM xs:=by
 intro n hn;have:=h (n+1) (by simp[hn]);simpa using this
theorem zC8{xs:List Nat}(h:qM xs){n:Nat}(hn:xs.length=n+1):B32^n<=nat xs:=by
 induction xs generalizing n with
 |nil=>simp at hn
 | cons x xs ih=>
  simp at hn;rw[yM];cases n with
  |zero=>
   have h0:=h 0 (by simp[hn]);have:xs= []:=List.eq_nil_of_length_eq_zero hn;subst this;simp at h0 ⊢
   omega
  |succ n=>
   have:=ih h.tail (n:=n) (by omega);have h2:=Nat.mul_le_mul_left B32 this;rw[Nat.pow_succ,Nat.mul_comm];omega
theorem zHp{xs:List Nat}(h:qM xs)(hne:xs≠ []):0<nat xs:=by
 cases hx:xs.length with
 |zero=>exact absurd (List.eq_nil_of_length_eq_zero hx) hne
 |succ n=>exact Nat.lt_of_lt_of_le (Nat.pow_pos jA) (zC8 h hx)
theorem zCk{xs:List Nat}(h:qM xs):nat xs=0↔xs= []:=by
 constructor
 ·intro h0
  by_cases hne:xs= []
  ·exact hne
  ·have:=zHp h hne;omega
 ·rintro rfl;rfl
theorem zAY{a b:Nat}(h:a<=b):B32^a<=B32^b:=Nat.pow_le_pow_right jA h
theorem jU{xs ys:List Nat}(hx:qR xs)(hn:qM ys)(h:nat ys<=nat xs):ys.length<=xs.length:=by
 rcases Nat.lt_or_ge xs.length ys.length with hlt|hge
 ·cases hy:ys.length with
  |zero=>omega
  |succ n=>
   have h1:=zC8 hn hy;have h2:=jX hx;have h3:=zAY (show xs.length<=n by omega);omega
 ·exact hge
theorem zBO(xs:List Nat)(n:Nat)(h:n<xs.length):xs.take (n+1)=xs.take n++ [xs.getD n 0]:=by
 rw[List.take_succ_eq_append_getElem h];simp[List.getD_eq_getElem?_getD,List.getElem?_eq_getElem h]
theorem zQ(xs:List Nat)(k:Nat):nat (xs.take (k+1))=nat (xs.take k)+xs.getD k 0*B32^k:=by
 rcases Nat.lt_or_ge k xs.length with h|h
 ·rw[zBO xs k h,zAu,List.length_take,Nat.min_eq_left (by omega),Nat.mul_comm]
 ·rw[List.take_of_length_le (by omega),List.take_of_length_le h,List.getD_eq_getElem?_getD,List.getElem?_eq_none h];simp
theorem yX(zs:List Nat)(k v:Nat)(h:k<zs.length):nat ((zs.set k v).take (k+1))=nat (zs.take k)+v*B32^k:=by
 rw[zQ,List.take_set_of_le (by omega),List.getD_eq_getElem?_getD,List.getElem?_set_self h];rfl
theorem qR.set{zs:List Nat}(h:qR zs)(k v:Nat)(hv:v<B32):qR (zs.set k v):=fun x hx=>by
 rcases List.mem_or_eq_of_mem_set hx with h1|h1
 ·exact h x h1
 ·subst h1;exact hv
theorem zJ(xs:List Nat){n:Nat}(h:xs.length<=n):nat (xs.take n)=nat xs:=by rw[List.take_of_length_le h]
theorem zB2{xs ys zs:List Nat}{k d x y:Nat}(h:nat (zs.take k)+d*B32^k=nat (xs.take k)+nat (ys.take k))(hk:k<zs.length)
  (hx:xs.getD k 0=x) (hy:ys.getD k 0=y):
  nat ((zs.set k ((d+x+y)%4294967296)).take (k+1))+(d+x+y)/4294967296*B32^(k+1)=nat (xs.take (k+1))+nat (ys.take (k+1)):=by
 rw[yX _ _ _ hk,zQ,zQ,hx,hy,Nat.pow_succ,yS];rw[yS]at h;generalize 4294967296^k=p at*;generalize nat (List.take k zs)=a at*;generalize nat (List.take k xs)=b at*;generalize nat (List.take k ys)=c at*;have e:=Nat.div_add_mod (d+x+y) 4294967296;generalize (d+x+y)/4294967296=q at*;generalize (d+x+y)%4294967296=r at*;have e2:r*p+q*(p*4294967296)=(d+x+y)*p:=by rw[<-e,Nat.add_mul,Nat.mul_comm 4294967296 q,Nat.mul_assoc,Nat.mul_comm 4294967296 p,Nat.add_comm]
 rw[Nat.add_mul,Nat.add_mul]at e2;omega
def qQ(xs:List Nat):Nat->Nat
 |0=>0
 |n+1=>if xs.getD n 0=0 then qQ xs n else n+1
theorem zAm(xs:List Nat):∀n,qQ xs n<=n
 |0=>Nat.le_refl _
 |n+1=>by
  unfold qQ;split
  ·have:=zAm xs n;omega
  ·omega
theorem zFe(xs:List Nat):∀n,n<=xs.length->nat (xs.take (qQ xs n))=nat (xs.take n)
 |0,_=>rfl
 | n+1,h=>by
  unfold qQ;split
  ·rename_i h0
   rw[zFe xs n (by omega),zBO xs n (by omega),zAu,h0];simp
  ·rfl
theorem jV(xs:List Nat):∀n,n<=xs.length->qM (xs.take (qQ xs n))
 |0,_=>by simpa[qQ]using qM.nil
 | n+1,h=>by
  unfold qQ;split
  ·exact jV xs n (by omega)
  ·rename_i h0
   intro k hk;rw[List.length_take,Nat.min_eq_left h]at hk;have:k=n:=by omega
   subst this;rw[List.getD_eq_getElem?_getD,List.getElem?_take,if_pos (by omega),<-List.getD_eq_getElem?_getD];exact h0
def zAr(xs:List Nat):List Nat:=xs.take (qQ xs xs.length)
theorem zE0(xs:List Nat):(zAr xs).length=qQ xs xs.length:=by
 unfold zAr;rw[List.length_take,Nat.min_eq_left (zAm _ _)]
theorem zAL(xs:List Nat):nat (zAr xs)=nat xs:=by
 unfold zAr;rw[zFe xs _ (Nat.le_refl _),List.take_of_length_le (Nat.le_refl _)]
theorem zBP(xs:List Nat):qM (zAr xs):=jV xs _ (Nat.le_refl _)
theorem qP{xs:List Nat}(h:qM xs):qQ xs xs.length=xs.length:=by
 cases hx:xs.length with
 |zero=>rfl
 |succ n=>unfold qQ;rw[if_neg (h n hx)]
theorem zC7(xs:List Nat)(k:Nat)(h:k<xs.length):nat xs=nat (xs.take k)+B32^k*(xs.getD k 0+B32*nat (xs.drop (k+1))):=by
 have e:xs=xs.take k++xs.getD k 0::xs.drop (k+1):=by
  rw[List.getD_eq_getElem?_getD,List.getElem?_eq_getElem h];simp
 have hl:(xs.take k).length=k:=by rw[List.length_take,Nat.min_eq_left (by omega)]
 have:=congrArg nat e;rw[zBW,hl,yM]at this;exact this
theorem zIM{xs ys:List Nat}{k x y:Nat}(hx:qR xs)(hkx:k<xs.length)(hky:k<ys.length)(hd:xs.drop (k+1)=ys.drop (k+1))
  (ex:xs.getD k 0=x) (ey:ys.getD k 0=y) (h:x<y):nat xs<nat ys:=by
 rw[zC7 xs k hkx,zC7 ys k hky,hd,ex,ey];have h1:=jX (hx.take k);rw[List.length_take,Nat.min_eq_left (by omega)]at h1;have h2:B32^k*(x+B32*nat (List.drop (k+1) ys)+1)<=B32^k*(y+B32*nat (List.drop (k+1) ys)):=Nat.mul_le_mul_left _ (by omega);rw[Nat.mul_add _ _ 1]at h2;omega
theorem zFl{xs ys:List Nat}(hx:qR xs)(hy:qM ys)(h:xs.length<ys.length):nat xs<nat ys:=by
 cases hl:ys.length with
 |zero=>omega
 |succ n=>
  have h1:=zC8 hy hl;have h2:=jX hx;have h3:=zAY (show xs.length<=n by omega);omega
def qJ(a b:Int):Int:=if a<b then-1 else if b<a then 1 else 0
def sgn(neg:Bool)(n:Nat):Int:=if neg then-(n:Int)else(n:Int)
@[simp] theorem sgn_true (n:Nat):sgn true n=-(n:Int):=rfl
@[simp] theorem sgn_false (n:Nat):sgn false n=(n:Int):=rfl
theorem zEB(b:Bool):sgn b 0=0:=by cases b<;>rfl
theorem zZ(b:Bool)(n:Nat):(sgn b n).natAbs=n:=by cases b<;>simp[sgn]
abbrev xga:=@List.getElem?_eq_getElem
abbrev xgb:=@List.getD_eq_getElem?_getD
abbrev xgc:=@Array.getElem?_setIfInBounds_ne
abbrev xgd:=@List.mem_of_getElem?
abbrev xge:=@List.getElem?_eq_some_iff
abbrev xgf:=@Nat.le_refl
abbrev xgg:=@exists_eq_left
abbrev xgh:=@List.setIfInBounds_toArray
abbrev xgi:=@List.set_cons_zero
abbrev xgj:=@List.set_cons_succ
abbrev xgk:=@List.drop_zero
abbrev xgl:=@List.drop_succ_cons
abbrev xgm:=@List.forall_mem_cons
abbrev xgn:=@List.forall_mem_nil
theorem mm0{α:Type _}{x:α}{l:List α}:x∈x::l:=.head _
theorem mm1{α:Type _}{a0 x:α}{l:List α}:x∈a0::x::l:=.tail _ mm0
abbrev mm2:=fun{α:Type}{a b x:α}{l:List α}=>List.Mem.tail a (@mm1 α b x l)
abbrev mm3:=fun{α:Type}{a b c x:α}{l:List α}=>List.Mem.tail a (@mm2 α b c x l)
abbrev mm4:=fun{α:Type}{a b c d x:α}{l:List α}=>List.Mem.tail a (@mm3 α b c d x l)
abbrev mm5:=fun{α:Type}{a b c d e x:α}{l:List α}=>List.Mem.tail a (@mm4 α b c d e x l)
abbrev mm6:=fun{α:Type}{a b c d e f x:α}{l:List α}=>List.Mem.tail a (@mm5 α b c d e f x l)
abbrev mm7:=fun{α:Type}{a b c d e f g x:α}{l:List α}=>List.Mem.tail a (@mm6 α b c d e f g x l)
abbrev mm8:=fun{α:Type}{a b c d e f g h x:α}{l:List α}=>List.Mem.tail a (@mm7 α b c d e f g h x l)
abbrev mm9:=fun{α:Type}{a b c d e f g h i x:α}{l:List α}=>List.Mem.tail a (@mm8 α b c d e f g h i x l)
abbrev zAC:=fun{α:Type}{a b c d e f g h i j x:α}{l:List α}=>List.Mem.tail a (@mm9 α b c d e f g h i j x l)
abbrev zAJ:=fun{α:Type}{a b c d e f g h i j k x:α}{l:List α}=>List.Mem.tail a (@zAC α b c d e f g h i j k x l)
abbrev zAo:=fun{α:Type}{a b c d e f g h i j k L x:α}{l:List α}=>List.Mem.tail a (@zAJ α b c d e f g h i j k L x l)
abbrev zCF:=fun{α:Type}{a b c d e f g h i j k L m x:α}{l:List α}=>List.Mem.tail a (@zAo α b c d e f g h i j k L m x l)
abbrev zBp:=fun{α:Type}{a b c d e f g h i j k L m n x:α}{l:List α}=>List.Mem.tail a (@zCF α b c d e f g h i j k L m n x l)
abbrev zCS:=fun{α:Type}{a b c d e f g h i j k L m n o x:α}{l:List α}=>List.Mem.tail a (@zBp α b c d e f g h i j k L m n o x l)
abbrev zDs:=fun{α:Type}{a b c d e f g h i j k L m n o p x:α}{l:List α}=>List.Mem.tail a (@zCS α b c d e f g h i j k L m n o p x l)
abbrev zEs:=fun{α:Type}{a b c d e f g h i j k L m n o p q x:α}{l:List α}=>List.Mem.tail a (@zDs α b c d e f g h i j k L m n o p q x l)
abbrev zCT:=fun{α:Type}{a b c d e f g h i j k L m n o p q r x:α}{l:List α}=>List.Mem.tail a (@zEs α b c d e f g h i j k L m n o p q r x l)
abbrev zEt:=fun{α:Type}{a b c d e f g h i j k L m n o p q r s x:α}{l:List α}=>List.Mem.tail a (@zCT α b c d e f g h i j k L m n o p q r s x l)
abbrev zEZ:=fun{α:Type}{a b c d e f g h i j k L m n o p q r s t x:α}{l:List α}=>List.Mem.tail a (@zEt α b c d e f g h i j k L m n o p q r s t x l)
abbrev zEa:=fun{α:Type}{a b c d e f g h i j k L m n o p q r s t u x:α}{l:List α}=>List.Mem.tail a (@zEZ α b c d e f g h i j k L m n o p q r s t u x l)
abbrev zFT:=fun{α:Type}{a b c d e f g h i j k L m n o p q r s t u v x:α}{l:List α}=>List.Mem.tail a (@zEa α b c d e f g h i j k L m n o p q r s t u v x l)
abbrev zFU:=fun{α:Type}{a b c d e f g h i j k L m n o p q r s t u v w x:α}{l:List α}=>List.Mem.tail a (@zFT α b c d e f g h i j k L m n o p q r s t u v w x l)
abbrev zHM:=fun{α:Type}{a b c d e f g h i j k L m n o p q r s t u v w X x:α}{l:List α}=>List.Mem.tail a (@zFU α b c d e f g h i j k L m n o p q r s t u v w X x l)
abbrev zEu:=fun{α:Type}{a b c d e f g h i j k L m n o p q r s t u v w X y x:α}{l:List α}=>List.Mem.tail a (@zHM α b c d e f g h i j k L m n o p q r s t u v w X y x l)
abbrev zIX:=fun{α:Type}{a b c d e f g h i j k L m n o p q r s t u v w X y z x:α}{l:List α}=>List.Mem.tail a (@zEu α b c d e f g h i j k L m n o p q r s t u v w X y z x l)
abbrev zJL:=fun{α:Type}{a b c d e f g h i j k L m n o p q r s t u v w X y z a1 x:α}{l:List α}=>List.Mem.tail a (@zIX α b c d e f g h i j k L m n o p q r s t u v w X y z a1 x l)
abbrev zJq:=fun{α:Type}{a b c d e f g h i j k L m n o p q r s t u v w X y z a1 b1 x:α}{l:List α}=>List.Mem.tail a (@zJL α b c d e f g h i j k L m n o p q r s t u v w X y z a1 b1 x l)
abbrev zIY:=fun{α:Type}{a b c d e f g h i j k L m n o p q r s t u v w X y z a1 b1 c1 x:α}{l:List α}=>List.Mem.tail a (@zJq α b c d e f g h i j k L m n o p q r s t u v w X y z a1 b1 c1 x l)
abbrev zLv:=fun{α:Type}{a b c d e f g h i j k L m n o p q r s t u v w X y z a1 b1 c1 d1 x:α}{l:List α}=>List.Mem.tail a (@zIY α b c d e f g h i j k L m n o p q r s t u v w X y z a1 b1 c1 d1 x l)
abbrev zOn:=fun{α:Type}{a b c d e f g h i j k L m n o p q r s t u v w X y z a1 b1 c1 d1 e1 x:α}{l:List α}=>List.Mem.tail a (@zLv α b c d e f g h i j k L m n o p q r s t u v w X y z a1 b1 c1 d1 e1 x l)
abbrev zOo:=fun{α:Type}{a b c d e f g h i j k L m n o p q r s t u v w X y z a1 b1 c1 d1 e1 f1 x:α}{l:List α}=>List.Mem.tail a (@zOn α b c d e f g h i j k L m n o p q r s t u v w X y z a1 b1 c1 d1 e1 f1 x l)
abbrev zJr:=fun{α:Type}{a b c d e f g h i j k L m n o p q r s t u v w X y z a1 b1 c1 d1 e1 f1 g1 x:α}{l:List α}=>List.Mem.tail a (@zOo α b c d e f g h i j k L m n o p q r s t u v w X y z a1 b1 c1 d1 e1 f1 g1 x l)
abbrev zOp:=fun{α:Type}{a b c d e f g h i j k L m n o p q r s t u v w X y z a1 b1 c1 d1 e1 f1 g1 h1 x:α}{l:List α}=>List.Mem.tail a (@zJr α b c d e f g h i j k L m n o p q r s t u v w X y z a1 b1 c1 d1 e1 f1 g1 h1 x l)
abbrev zOL:=fun{α:Type}{a b c d e f g h i j k L m n o p q r s t u v w X y z a1 b1 c1 d1 e1 f1 g1 h1 i1 x:α}{l:List α}=>List.Mem.tail a (@zOp α b c d e f g h i j k L m n o p q r s t u v w X y z a1 b1 c1 d1 e1 f1 g1 h1 i1 x l)
abbrev zOM:=fun{α:Type}{a b c d e f g h i j k L m n o p q r s t u v w X y z a1 b1 c1 d1 e1 f1 g1 h1 i1 j1 x:α}{l:List α}=>List.Mem.tail a (@zOL α b c d e f g h i j k L m n o p q r s t u v w X y z a1 b1 c1 d1 e1 f1 g1 h1 i1 j1 x l)
abbrev zOq:=fun{α:Type}{a b c d e f g h i j k L m n o p q r s t u v w X y z a1 b1 c1 d1 e1 f1 g1 h1 i1 j1 k1 x:α}{l:List α}=>List.Mem.tail a (@zOM α b c d e f g h i j k L m n o p q r s t u v w X y z a1 b1 c1 d1 e1 f1 g1 h1 i1 j1 k1 x l)
abbrev zON:=fun{α:Type}{a b c d e f g h i j k L m n o p q r s t u v w X y z a1 b1 c1 d1 e1 f1 g1 h1 i1 j1 k1 l1 x:α}{l:List α}=>List.Mem.tail a (@zOq α b c d e f g h i j k L m n o p q r s t u v w X y z a1 b1 c1 d1 e1 f1 g1 h1 i1 j1 k1 l1 x l)
abbrev zOr:=fun{α:Type}{a b c d e f g h i j k L m n o p q r s t u v w X y z a1 b1 c1 d1 e1 f1 g1 h1 i1 j1 k1 l1 m1 x:α}{l:List α}=>List.Mem.tail a (@zON α b c d e f g h i j k L m n o p q r s t u v w X y z a1 b1 c1 d1 e1 f1 g1 h1 i1 j1 k1 l1 m1 x l)
abbrev zOs:=fun{α:Type}{a b c d e f g h i j k L m n o p q r s t u v w X y z a1 b1 c1 d1 e1 f1 g1 h1 i1 j1 k1 l1 m1 n1 x:α}{l:List α}=>List.Mem.tail a (@zOr α b c d e f g h i j k L m n o p q r s t u v w X y z a1 b1 c1 d1 e1 f1 g1 h1 i1 j1 k1 l1 m1 n1 x l)
end Go.Proofs.YtnbmaipobhppcaaGreat

namespace Go.Proofs.YtnbmaipobhppcaaGreat
open Go.RowKit
theorem oM{p:Prop}(h:p:=by omega):p:=h
theorem sI{p:Prop}(h:p:=by simp):p:=h
theorem kR{p:Prop}(h:p:=by kernel_rfl):p:=h
theorem dE{p:Prop}(h:p:=by decide):p:=h
theorem aU{p:Prop}(h:p:=by repeat' (first|refine xgm.2 ⟨?_,?_⟩|exact xgn _|(dsimp only;omega))):p:=h
abbrev tU:TypeId:=128
def LIM:Nat:=1099511627776
theorem qV:LIM=1099511627776:=rfl
def yO(w w':World):Prop:=∀(b:Nat) (cs:Array Value) (fz:Nat × Nat),w.heap[b]?=some (.cells cs tU fz)->w'.heap[b]?=some (.cells cs tU fz)
theorem yO.refl(w:World):yO w w:=fun _ _ _ h=>h
theorem yO.trans{a b c:World}(h:yO a b)(k:yO b c):yO a c:=fun _ _ _ hh=>k _ _ _ (h _ _ _ hh)
theorem yO.below{w w':World}{B:Nat}(h:Below B w w')(hB:w.heap.size<=B):yO w w':=fun b cs fz hh=>by
 have hl:b<w.heap.size:=by
  rcases Nat.lt_or_ge b w.heap.size with h1|h1
  ·exact h1
  ·rw[Array.getElem?_eq_none h1]at hh;cases hh
 rw[h.block b (by omega)];exact hh
def zG(w:World)(ao:Option Addr)(xs:List Nat):Prop:=
 qR xs/\(xs≠ []->∃b off cs fz,ao=some ⟨b,off,none⟩/\w.heap[b]?=some (.cells cs tU fz)/\∀k x,xs[k]?=some x->cs[off+k]?=some (.int .u32 (x:Nat)))
theorem zG.nil(w:World)(ao:Option Addr):zG w ao []:=⟨qR.nil,fun h=>absurd rfl h⟩
theorem zG.ext{w w':World}{ao:Option Addr}{xs:List Nat}(h:zG w ao xs)(e:yO w w'):zG w' ao xs:=
 ⟨h.1,fun hne=>by
  obtain⟨b,off,cs,fz,h1,h2,h3⟩:=h.2 hne;exact⟨b,off,cs,fz,h1,e _ _ _ h2,h3⟩⟩
theorem zG.cell{w:World}{ao:Option Addr}{xs:List Nat}(h:zG w ao xs){k:Nat}(hk:k<xs.length):
  ∃b off,ao=some ⟨b,off,none⟩/\b<w.heap.size/\w.cell? ⟨b,off+k,none⟩=some (.int .u32 (xs.getD k 0:Nat)):=by
 obtain⟨b,off,cs,fz,h1,h2,h3⟩:=h.2 (by rintro rfl;simp at hk);refine⟨b,off,h1,?_,?_⟩
 ·exact(Array.getElem?_eq_some_iff.1 h2).1
 ·rw[cell_of_row w b (off+k) cs tU fz h2,h3 k (xs.getD k 0) (by simp[xgb,xga hk])]
theorem zG.limb{w:World}{ao:Option Addr}{xs:List Nat}(h:zG w ao xs){k:Nat}(hk:k<xs.length):
  ∃b off x,ao=some ⟨b,off,none⟩/\b<w.heap.size/\x<4294967296/\Hid (xs.getD k 0=x)/\w.cell? ⟨b,off+k,none⟩=some (.int .u32 (x:Nat)):=by
 obtain⟨b,off,h1,h2,h3⟩:=h.cell hk;exact⟨b,off,_,h1,h2,h.1.get k,rfl,h3⟩
theorem zG.cells{w:World}{ao:Option Addr}{xs:List Nat}(h:zG w ao xs)(hk:0<xs.length):
  ∃b off,ao=some ⟨b,off,none⟩/\b<w.heap.size/\∀k,k<xs.length->w.cell? ⟨b,off+k,none⟩=some (.int .u32 (xs.getD k 0:Nat)):=by
 obtain⟨b,off,h1,hb,h2⟩:=h.cell hk;refine⟨b,off,h1,hb,fun k hk=>?_⟩;obtain⟨b',off',h1',_,h2'⟩:=h.cell hk;rw[h1]at h1';injection h1' with h1'
 injection h1' with e1 e2
 subst e1;subst e2;exact h2'
theorem zG.take{w:World}{ao:Option Addr}{xs:List Nat}(h:zG w ao xs)(n:Nat):zG w ao (xs.take n):=
 ⟨h.1.take n,fun hne=>by
  obtain⟨b,off,cs,fz,h1,h2,h3⟩:=h.2 (by rintro rfl;simp at hne);refine⟨b,off,cs,fz,h1,h2,fun k x hk=>h3 k x ?_⟩;rw[List.getElem?_take]at hk;split at hk
  ·exact hk
  ·cases hk⟩
def yW(xs:List Nat):Array Value:=(xs.map fun n=>Value.int .u32 (n:Nat)).toArray
def jO(w:World)(b:Nat)(xs:List Nat):Prop:=w.heap[b]?=some (.cells (yW xs) tU (0,0))
theorem jO.lt{w:World}{b:Nat}{xs:List Nat}(h:jO w b xs):b<w.heap.size:=(Array.getElem?_eq_some_iff.1 h).1
theorem jO.cell{w:World}{b:Nat}{xs:List Nat}(h:jO w b xs){k:Nat}(hk:k<xs.length):w.cell? ⟨b,k,none⟩=some (.int .u32 (xs.getD k 0:Nat)):=by
 rw[cell_of_row w b k _ tU _ h];simp[yW,xga hk,xgb]
theorem jO.frozen{w:World}{b:Nat}{xs:List Nat}(h:jO w b xs)(k:Nat):w.frozen? ⟨b,k,none⟩=false:=frozen_of_row w b k _ _ h
theorem jO.set{w:World}{b:Nat}{xs:List Nat}(h:jO w b xs)(k n:Nat):jO (w.setCell ⟨b,k,none⟩ (.int .u32 (n:Nat))) b (xs.set k n):=by
 unfold jO at h ⊢
 rw[heap_setCell_same w b k _ tU _ h];simp[yW,List.map_set]
theorem jO.set'{w:World}{b:Nat}{xs:List Nat}(h:jO w b xs)(k:Nat)(m:Int)(n:Nat)(hm:m=n):jO (w.setCell ⟨b,k,none⟩ (.int .u32 m)) b (xs.set k n):=by
 subst hm;exact h.set k n
theorem jO.ext{w w':World}{b:Nat}{xs:List Nat}(h:jO w b xs)(e:yO w w'):jO w' b xs:=e _ _ _ h
theorem jO.alloc{w:World}{b:Nat}{xs:List Nat}(h:jO w b xs)(o:Obj):jO (w.alloc o) b xs:=(heap_alloc_old w o h.lt).trans h
theorem jO.at_{w:World}{b:Nat}{xs:List Nat}(h:jO w b xs)(hx:qR xs):zG w (some ⟨b,0,none⟩) xs:=
 ⟨hx,fun _=>⟨b,0,_,_,rfl,h,fun k x hk=>by simp[yW,hk]⟩⟩
theorem Tryz.infoU:(Tryz.prog.info? tU).map (fun i=>(i.zero,i.size,i.bytes))=some (some (.int .u32 0),1,4):=by kernel_rfl
theorem zAa{P:Program}(t e:TypeId)(i:TypeInfo)(z:Value)(ht:P.underlying t=some (.slice e))(hi:P.info? e=some i)(hz:i.zero=some z)
  (kl kc:IntKind) (n c:Nat) (hnc:n<=c) (hbytes:i.bytes*c<=281474976710656) (h63:c<=9223372036854775807) (w:World):
  (Instr.makeSlice t (.int kl (n:Int)) (.int kc (c:Int))).run P w= .ok (.slice (some ⟨w.heap.size,0,none⟩) n c) (w.alloc (.cells (madeCells z.cells (c*i.size)) e)):=by
 have hb:(i.bytes:Int)*(c:Int)<=281474976710656:=by
  have h:((i.bytes*c:Nat):Int)<=281474976710656:=by omega
  rwa[Int.natCast_mul]at h
 have hr:=run_make (P:=P) w t e i z ht hi hz kl kc n c (by omega) (by omega) hb (by omega);simp only[Int.toNat_natCast]at hr;exact hr
theorem zP6(n:Nat):madeCells (Value.int .u32 0).cells (n*1)=yW (List.replicate n 0):=by
 apply Array.ext
 ·simp[madeCells,yW]
 ·intro i h1 h2
  simp[madeCells,yW,Nat.mod_one,Value.cells]
theorem mkU(m:Int)(n:Nat)(hm:m=n)(h:n<=70368744177664)(W:World):
  (Instr.makeSlice 33 (.int .i64 m) (.int .i64 m)).run Tryz.prog W= .ok (.slice (some ⟨W.heap.size,0,none⟩) n n) (W.alloc (.cells (yW (List.replicate n 0)) tU)):=by
 subst hm;obtain⟨i0,hi,hz0,hz1,hz2⟩:=info_parts Tryz.infoU;have:=zAa (P:=Tryz.prog) 33 tU i0 _ Tryz.underlying33 hi hz0 .i64 .i64 n n (xgf _) (by rw[hz2];omega) (by omega) W;rw[this,hz1,zP6]
theorem jO.made(w:World)(xs:List Nat):jO (w.alloc (.cells (yW xs) tU)) w.heap.size xs:=heap_alloc_new w _
def zDz(w:World)(v:Value)(z:Int):Prop:=
 ∃neg ao n cap xs,v= .agg #[.bool neg,.slice ao n cap]/\xs.length=n/\n<=cap/\cap<=9223372036854775807/\zG w ao xs/\qM xs/\z=sgn neg (nat xs)
def zH(w:World)(v:Value)(z:Int):Prop:=
 ∃neg ao n cap xs,v= .agg #[.bool neg,.slice ao n cap]/\xs.length=n/\n<=cap/\cap<=9223372036854775807/\zG w ao xs/\qM xs/\z=sgn neg (nat xs)/\(n=0->neg=false)
theorem zH.weak{w:World}{v:Value}{z:Int}(h:zH w v z):zDz w v z:=by
 obtain⟨neg,ao,n,cap,xs,h1,h2,h3,h4,h5,h6,h7,_⟩:=h;exact⟨neg,ao,n,cap,xs,h1,h2,h3,h4,h5,h6,h7⟩
theorem zDz.ext{w w':World}{v:Value}{z:Int}(h:zDz w v z)(e:yO w w'):zDz w' v z:=by
 obtain⟨neg,ao,n,cap,xs,h1,h2,h3,h4,h5,h6⟩:=h;exact⟨neg,ao,n,cap,xs,h1,h2,h3,h4,h5.ext e,h6⟩
theorem zH.ext{w w':World}{v:Value}{z:Int}(h:zH w v z)(e:yO w w'):zH w' v z:=by
 obtain⟨neg,ao,n,cap,xs,h1,h2,h3,h4,h5,h6⟩:=h;exact⟨neg,ao,n,cap,xs,h1,h2,h3,h4,h5.ext e,h6⟩
theorem zH.below{w w':World}{B:Nat}{v:Value}{z:Int}(h:zH w v z)(hb:Below B w w')(hB:w.heap.size<=B):zH w' v z:=h.ext (yO.below hb hB)
def Sm(z:Int):Prop:=z.natAbs<B32^LIM
theorem Sm.len{neg:Bool}{xs:List Nat}(h:Sm (sgn neg (nat xs)))(hn:qM xs):xs.length<=LIM:=by
 unfold Sm at h;rw[zZ]at h;cases hx:xs.length with
 |zero=>omega
 |succ n=>
  have h1:=zC8 hn hx;rcases Nat.lt_or_ge n LIM with h2|h2
  ·omega
  ·have:=zAY h2;omega
theorem Sm.of_pow{z:Int}{k:Nat}(h:z.natAbs<B32^k)(hk:k<=LIM):Sm z:=Nat.lt_of_lt_of_le h (zAY hk)
theorem Sm.mono{z y:Int}(h:Sm z)(hy:y.natAbs<=z.natAbs):Sm y:=Nat.lt_of_le_of_lt hy h
def jL(w:World)(z:Int)(e:Ending)(w':World):Prop:=∃v,e= .returned v/\zH w' v z/\Below w.heap.size w w'
def zD2(w:World)(n:Nat)(e:Ending)(w':World):Prop:=
 ∃ao len cap xs,e= .returned (.slice ao len cap)/\xs.length=len/\len<=cap/\cap<=9223372036854775807/\zG w' ao xs/\nat xs=n/\Below w.heap.size w w'
theorem zB{P:Program}{c:Code}{Q:Exit->Act->World->Prop}{a:Act}{w:World}(h:∀W0,Hid (W0=w)->Code.wp P c Q a W0):Code.wp P c Q a w:=h w rfl
theorem yH{w:World}{a:Addr}{v:Value}(h:w.cell? a=some v):w.drew.cell? a=some v:=h
theorem zI{w w1:World}{b o:Nat}{v:Value}(h:w.cell? ⟨b,o,none⟩=some v)(hb:Below w.heap.size w w1):w1.cell? ⟨b,o,none⟩=some v:=
 (hb.cell (p:=⟨b,o,none⟩) (World.block_lt_of_cell? w _ h)).trans h
theorem zAB{w:World}{b o r i:Nat}{v u:Value}(h:w.cell? ⟨b,o,none⟩=some v)(hne:b≠r):(w.setCell ⟨r,i,none⟩ u).cell? ⟨b,o,none⟩=some v:=
 (World.cell?_setCell_other w _ _ u (fun e=>hne (by injection e with e1;exact e1.symm))).trans h
theorem nx{w W W':World}(h:Below w.heap.size w W)(hb:Below W.heap.size W W'):Below w.heap.size w W':=h.trans (hb.mono h.size)
theorem lx{w W:World}(h:Below w.heap.size w W):yO w W:=yO.below h (xgf _)
theorem dr(w:World):Below w.heap.size w w.drew:=(Below.refl _ _).drew
theorem drN(w:World)(n:Nat):Below w.heap.size w (w.drewN n):=⟨rfl,rfl,rfl,xgf _,fun _ _=>rfl⟩
def Blk(w:World)(g:Nat)(t:TypeId)(cs:Array Value):Prop:=w.heap[g]?=some (.cells cs t (0,0))
section
variable {w w':World} {g:Nat} {t:TypeId} {cs:Array Value}
theorem Blk.lt(h:Blk w g t cs):g<w.heap.size:=(Array.getElem?_eq_some_iff.1 h).1
theorem Blk.cell(h:Blk w g t cs)(i:Nat):w.cell? ⟨g,i,none⟩=cs[i]?:=cell_of_row w g i cs t (0,0) h
theorem Blk.frozen(h:Blk w g t cs)(i:Nat):w.frozen? ⟨g,i,none⟩=false:=frozen_of_row w g i cs t h
theorem Blk.new(w:World)(t:TypeId)(cs:Array Value):Blk (w.alloc (.cells cs t)) w.heap.size t cs:=heap_alloc_new w _
theorem Blk.drew(h:Blk w g t cs):Blk w.drew g t cs:=h
theorem Blk.drewN(h:Blk w g t cs)(n:Nat):Blk (w.drewN n) g t cs:=h
theorem Blk.alloc(h:Blk w g t cs)(o:Obj):Blk (w.alloc o) g t cs:=(Below.heap_alloc w o g h.lt).trans h
theorem Blk.set_(h:Blk w g t cs)(i:Nat)(u:Value):Blk (w.setCell ⟨g,i,none⟩ u) g t (cs.setIfInBounds i u):=by
 unfold Blk at h ⊢
 simp[World.setCell,Array.getElem?_modify,h]
theorem Blk.far(h:Blk w g t cs){r:Nat}(hp:g≠r)(i:Nat)(u:Value):Blk (w.setCell ⟨r,i,none⟩ u) g t cs:=(Below.heap_setCell w ⟨r,i,none⟩ u g hp).trans h
theorem Blk.below(h:Blk w g t cs)(hb:Below w.heap.size w w'):Blk w' g t cs:=(hb.block g h.lt).trans h
theorem Blk.belowB{B:Nat}(h:Blk w g t cs)(hb:Below B w w')(hg:g<B):Blk w' g t cs:=(hb.block g hg).trans h
theorem Blk.at_(e:Hid (w'=w))(h:Blk w g t cs):Blk w' g t cs:=by rw[e.out];exact h
theorem Blk.lext(h:Blk w g t cs)(hne:t≠tU)(i:Nat)(u:Value):yO w (w.setCell ⟨g,i,none⟩ u):=fun b c fz hb=>by
 have hg:b≠g:=by
  rintro rfl;unfold Blk at h;rw[h]at hb;injection hb with hb
  injection hb with _ ht
  exact hne ht
 exact(Below.heap_setCell w ⟨g,i,none⟩ u b hg).trans hb
theorem zT{B:Nat}{a:World}(h:Below B a w)(hp:B<=g)(i:Nat)(u:Value):Below B a (w.setCell ⟨g,i,none⟩ u):=h.setCell (p:=⟨g,i,none⟩) hp u
theorem Blk.two{c0 c1:Value}(h:Blk w g t #[c0,c1]):w.cell? ⟨g,0,none⟩=some c0/\w.cell? ⟨g,1,none⟩=some c1/\w.frozen? ⟨g,0,none⟩=false/\w.frozen? ⟨g,1,none⟩=false:=
 ⟨h.cell 0,h.cell 1,h.frozen 0,h.frozen 1⟩
theorem Blk.three{c0 c1 c2:Value}(h:Blk w g t #[c0,c1,c2]):w.cell? ⟨g,0,none⟩=some c0/\w.cell? ⟨g,1,none⟩=some c1/\w.cell? ⟨g,2,none⟩=some c2∧
  w.frozen? ⟨g,0,none⟩=false/\w.frozen? ⟨g,1,none⟩=false/\w.frozen? ⟨g,2,none⟩=false:=
 ⟨h.cell 0,h.cell 1,h.cell 2,h.frozen 0,h.frozen 1,h.frozen 2⟩
end
theorem Blk.put2{w:World}{r:Nat}{T:TypeId}{c0 c1:Value}(h:Blk w r T #[c0,c1])(x y:Value):Blk ((w.setCell ⟨r,0,none⟩ x).setCell ⟨r,1,none⟩ y) r T #[x,y]:=by
 simpa using(h.set_ 0 x).set_ 1 y
theorem Blk.lext2{w:World}{r:Nat}{T:TypeId}{cs:Array Value}(h:Blk w r T cs)(hne:T≠tU)(x y:Value):yO w ((w.setCell ⟨r,0,none⟩ x).setCell ⟨r,1,none⟩ y):=
 (h.lext hne 0 _).trans ((h.set_ 0 _).lext hne 1 _)
theorem Tryz.sizeI:(Tryz.prog.info? 35).map (·.size)=some 2:=by kernel_rfl
theorem zW{fn:Func}{a:Act}{w W:World}{z:Int}{r:Nat}{v:Array Value}{p:Tmp}(h:fn.results=#[.cell p 35])(hd:a.defers= [])
  (hp:a.tmps.getD p undef= .pointer (some ⟨r,0,none⟩)) (hb:Blk W r 35 v) (hv:zH W (.agg v) z) (hbel:Below w.heap.size w W):bodyPost Tryz.prog fn (jL w z) .ret a W:=by
 obtain⟨neg,ao,n,cap,xs,h1,h2⟩:=hv;injection h1 with h1
 subst h1;exact bodyPost_ret (results_cell_row h _ W r _ _ _ _ hp hb Tryz.underlying35 rfl (by rw[Tryz.sizeI];rfl)) hd ⟨_,rfl,⟨neg,ao,n,cap,xs,rfl,h2⟩,hbel⟩
section
variable {w W0:World} {T1 T2 T3 T4 T5:TypeId} {A B C D E:Array Value}
theorem zK(h:Hid (W0=w.alloc (.cells A T1))):Below w.heap.size w W0/\Blk W0 w.heap.size T1 A/\w.heap.size<W0.heap.size:=by
 rw[h.out];exact⟨(Below.refl _ _).alloc (xgf _) _,Blk.new _ _ _,by simp⟩
theorem qI(h:Hid (W0=(w.alloc (.cells A T1)).alloc (.cells B T2))):Below w.heap.size w W0/\Blk W0 w.heap.size T1 A/\Blk W0 (w.heap.size+1) T2 B/\w.heap.size+1<W0.heap.size:=by
 obtain⟨h1,h2,h3⟩:=zK (w:=w.alloc (.cells A T1)) (W0:=W0) (A:=B) (T1:=T2) h;obtain⟨k1,k2,k3⟩:=zK (w:=w) (W0:=w.alloc (.cells A T1)) (A:=A) (T1:=T1) rfl;simp only[World.size_alloc]at h2 h3;exact⟨nx k1 h1,k2.below h1,h2,h3⟩
theorem yG(h:Hid (W0=((w.alloc (.cells A T1)).alloc (.cells B T2)).alloc (.cells C T3))):
  Below w.heap.size w W0/\Blk W0 w.heap.size T1 A/\Blk W0 (w.heap.size+1) T2 B/\Blk W0 (w.heap.size+1+1) T3 C/\w.heap.size+1+1<W0.heap.size:=by
 obtain⟨h1,h2,h3⟩:=zK (w:=(w.alloc (.cells A T1)).alloc (.cells B T2)) (W0:=W0) h;obtain⟨k1,k2,k3,k4⟩:=qI (w:=w) (W0:=(w.alloc (.cells A T1)).alloc (.cells B T2)) rfl;simp only[World.size_alloc]at h2 h3;exact⟨nx k1 h1,k2.below h1,k3.below h1,h2,h3⟩
theorem zHJ(h:Hid (W0=(((w.alloc (.cells A T1)).alloc (.cells B T2)).alloc (.cells C T3)).alloc (.cells D T4))):
  Below w.heap.size w W0/\Blk W0 w.heap.size T1 A/\Blk W0 (w.heap.size+1) T2 B/\Blk W0 (w.heap.size+1+1) T3 C/\Blk W0 (w.heap.size+1+1+1) T4 D/\w.heap.size+1+1+1<W0.heap.size:=by
 obtain⟨h1,h2,h3⟩:=zK (w:=((w.alloc (.cells A T1)).alloc (.cells B T2)).alloc (.cells C T3)) (W0:=W0) h;obtain⟨k1,k2,k3,k4,k5⟩:=yG (w:=w) (W0:=((w.alloc (.cells A T1)).alloc (.cells B T2)).alloc (.cells C T3)) rfl;simp only[World.size_alloc]at h2 h3;exact⟨nx k1 h1,k2.below h1,k3.below h1,k4.below h1,h2,h3⟩
theorem zPc(h:Hid (W0=((((w.alloc (.cells A T1)).alloc (.cells B T2)).alloc (.cells C T3)).alloc (.cells D T4)).alloc (.cells E T5))):
  Below w.heap.size w W0/\Blk W0 w.heap.size T1 A/\Blk W0 (w.heap.size+1) T2 B/\Blk W0 (w.heap.size+1+1) T3 C/\Blk W0 (w.heap.size+1+1+1) T4 D/\Blk W0 (w.heap.size+1+1+1+1) T5 E/\w.heap.size+1+1+1+1<W0.heap.size:=by
 obtain⟨h1,h2,h3⟩:=zK (w:=(((w.alloc (.cells A T1)).alloc (.cells B T2)).alloc (.cells C T3)).alloc (.cells D T4)) (W0:=W0) h;obtain⟨k1,k2,k3,k4,k5,k6⟩:=zHJ (w:=w) (W0:=(((w.alloc (.cells A T1)).alloc (.cells B T2)).alloc (.cells C T3)).alloc (.cells D T4)) rfl;simp only[World.size_alloc]at h2 h3;exact⟨nx k1 h1,k2.below h1,k3.below h1,k4.below h1,k5.below h1,h2,h3⟩
end
theorem jH(ao:Option Addr)(n cap:Nat)(xs:List Nat)(w:World)(hn:xs.length=n)(hl:n<=cap)(hcap:cap<=9223372036854775807)(hx:zG w ao xs):
  Calls Tryz.prog 224 #[.slice ao n cap] w fun e w'=>
   e= .returned (.slice ao (qQ xs n) (qQ xs n))/\w=w':=by
 have HN:=Lib.hid hn;have hle:=zAm xs n;have hlen:xs.length<=n:=by omega
 have hlen':n<=xs.length:=by omega
 clear hn;go_enter Tryz.func224,Tryz.ntmps224;go_wp2;go_step3;go_wp2;go_step3;go_wp2;go_loop [3] (fun v=>∃k:Nat,k<=n/\v= .int .i64 k/\Hid (qQ xs k=qQ xs n)) (fun v=>(intOf v).toNat)
 case atStart=>exact⟨n,xgf _,rfl,rfl⟩
 case round=>
  obtain⟨k,hk,rfl,ht⟩:=hrel;cases k with
  |zero=>
   have e:qQ xs n=0:=ht.out.symm;go_wp2;go_ret;exact⟨by simp[e],rfl⟩
  | succ k=>
   obtain⟨b,off,x,rfl,_,hx32,HX,hck⟩:=hx.limb (k:=k) oM;by_cases hz:x=0
   ·have ht':Hid (qQ xs k=qQ xs n):=by
     have:=ht.out;rw[show qQ xs (k+1)=if xs.getD k 0=0 then qQ xs k else k+1 from rfl,if_pos (HX.out.trans hz)]at this;exact this
    subst hz;clear ht;go_wp2;go_round
    case rel=>exact⟨k,by omega,by go_num,ht'⟩
    case measure=>simp[intOf]
   ·have ht':Hid (qQ xs n=k+1):=by
     have:=ht.out;rw[show qQ xs (k+1)=if xs.getD k 0=0 then qQ xs k else k+1 from rfl,if_neg (by rw[HX.out];exact hz)]at this;exact this.symm
    have hzz:((x:Int)==0)=false:=by simpa using hz
    clear hz ht;go_wp2;go_ret;exact⟨by simp[ht'.out],rfl⟩
theorem zIh(ao1 ao2:Option Addr)(n1 cap1 n2 cap2:Nat)(xs ys:List Nat)(w:World)(hn1:xs.length=n1)(hn2:ys.length=n2)(hl1:n1<=cap1)(hl2:n2<=cap2)
  (hc1:cap1<=9223372036854775807) (hc2:cap2<=9223372036854775807) (hb1:n1<=4*LIM) (hb2:n2<=4*LIM) (hx1:zG w ao1 xs) (hx2:zG w ao2 ys):
  Calls Tryz.prog 225 #[.slice ao1 n1 cap1,.slice ao2 n2 cap2] w (zD2 w (nat xs+nat ys)):=by
 have HN1:=Lib.hid hn1;have HN2:=Lib.hid hn2;have hlen1:xs.length<=n1:=by omega
 have hlen1':n1<=xs.length:=by omega
 have hlen2:ys.length<=n2:=by omega
 have hlen2':n2<=ys.length:=by omega
 clear hn1 hn2;rw[qV]at hb1 hb2;by_cases hlt:n1<n2
 case pos=>
  have hle:n1<=n2:=by omega
  have hmk:=fun W=>mkU ((n2:Int)+1) (n2+1) oM oM W
  go_enter Tryz.func225,Tryz.ntmps225;go_wp2;clear hmk;go_loopw [6,21] (fun c i wr=>∃(k d:Nat) (zs:List Nat),k<=n2/\i= .int .i64 k/\c= .int .u64 d/\d<=1/\jO wr w.heap.size zs/\Below w.heap.size w wr/\n2<zs.length∧
    Hid (zs.length=n2+1/\qR zs/\nat (zs.take k)+d*B32^k=nat (ys.take k)+nat (xs.take k))) (fun _ i _=>n2-(intOf i).toNat)
  case atStart=>exact⟨0,0,List.replicate (n2+1) 0,by omega,rfl,rfl,by omega,jO.made _ _,(Below.refl _ _).alloc (xgf _) _,by simp,⟨by simp,fun x hx=>by rw[List.eq_of_mem_replicate hx];exact jA,by simp⟩⟩
  case round=>
   obtain⟨k,d,zs,hk,rfl,rfl,hd,hblk,hbel,hlz,HH⟩:=hrel;have hfr:=hblk.frozen k;by_cases hkn:k<n2
   ·obtain⟨b,off,x,rfl,hbw,hx32,HX,hck⟩:=hx2.limb (k:=k) oM
    have hck':=(hbel.cell (p:=⟨b,off+k,none⟩) hbw).trans hck;have hcz:=hblk.cell (k:=k) oM;clear hck;by_cases hk2:k<n1
    ·obtain⟨b2,off2,y,rfl,hbw2,hy32,HY,hcy⟩:=hx1.limb (k:=k) oM
     have hcy':=(hbel.cell (p:=⟨b2,off2+k,none⟩) hbw2).trans hcy;clear hcy;go_wp2;go_roundw
     case rel=>exact⟨k+1,(d+x+y)/4294967296,zs.set k ((d+x+y)%4294967296),by omega,by go_num,by go_num,by omega,hblk.set' _ _ _ oM,hbel.setCell (xgf _) _,by simpa using hlz,
       ⟨by simpa using HH.out.1,HH.out.2.1.set _ _ (Nat.mod_lt _ oM),zB2 HH.out.2.2 oM HX.out HY.out⟩⟩
     case measure=>simp[intOf];omega
    ·have HY:xs.getD k 0=0:=by rw[xgb,List.getElem?_eq_none oM];rfl
     have HY':=Lib.hid HY;clear HY;go_wp2;go_roundw
     case rel=>exact⟨k+1,(d+x)/4294967296,zs.set k ((d+x)%4294967296),by omega,by go_num,by go_num,by omega,hblk.set' _ _ _ oM,hbel.setCell (xgf _) _,by simpa using hlz,
       ⟨by simpa using HH.out.1,HH.out.2.1.set _ _ (Nat.mod_lt _ oM),zB2 HH.out.2.2 oM HX.out HY'.out⟩⟩
     case measure=>simp[intOf];omega
   ·obtain rfl:n2=k:=by omega
    have hcz:=hblk.cell (k:=n2) oM;go_wp2;go_ret;refine⟨_,_,_,zs.set n2 d,rfl,by simpa using HH.out.1,by omega,by omega,(hblk.set' _ _ d oM).at_ (HH.out.2.1.set _ _ (by unfold B32;omega)),?_,hbel.setCell (xgf _) _⟩;have h1:=HH.out.2.2;have h2:=yX zs n2 d hlz;rw[zJ _ (by simp[HH.out.1]),h1,zJ ys oM,zJ xs oM]at h2;omega
 case neg=>
  have hle:n2<=n1:=by omega
  have hmk:=fun W=>mkU ((n1:Int)+1) (n1+1) oM oM W
  go_enter Tryz.func225,Tryz.ntmps225;go_wp2;clear hmk;go_loopw [6,21] (fun c i wr=>∃(k d:Nat) (zs:List Nat),k<=n1/\i= .int .i64 k/\c= .int .u64 d/\d<=1/\jO wr w.heap.size zs/\Below w.heap.size w wr/\n1<zs.length∧
    Hid (zs.length=n1+1/\qR zs/\nat (zs.take k)+d*B32^k=nat (xs.take k)+nat (ys.take k))) (fun _ i _=>n1-(intOf i).toNat)
  case atStart=>exact⟨0,0,List.replicate (n1+1) 0,by omega,rfl,rfl,by omega,jO.made _ _,(Below.refl _ _).alloc (xgf _) _,by simp,⟨by simp,fun x hx=>by rw[List.eq_of_mem_replicate hx];exact jA,by simp⟩⟩
  case round=>
   obtain⟨k,d,zs,hk,rfl,rfl,hd,hblk,hbel,hlz,HH⟩:=hrel;have hfr:=hblk.frozen k;by_cases hkn:k<n1
   ·obtain⟨b,off,x,rfl,hbw,hx32,HX,hck⟩:=hx1.limb (k:=k) oM
    have hck':=(hbel.cell (p:=⟨b,off+k,none⟩) hbw).trans hck;have hcz:=hblk.cell (k:=k) oM;clear hck;by_cases hk2:k<n2
    ·obtain⟨b2,off2,y,rfl,hbw2,hy32,HY,hcy⟩:=hx2.limb (k:=k) oM
     have hcy':=(hbel.cell (p:=⟨b2,off2+k,none⟩) hbw2).trans hcy;clear hcy;go_wp2;go_roundw
     case rel=>exact⟨k+1,(d+x+y)/4294967296,zs.set k ((d+x+y)%4294967296),by omega,by go_num,by go_num,by omega,hblk.set' _ _ _ oM,hbel.setCell (xgf _) _,by simpa using hlz,
       ⟨by simpa using HH.out.1,HH.out.2.1.set _ _ (Nat.mod_lt _ oM),zB2 HH.out.2.2 oM HX.out HY.out⟩⟩
     case measure=>simp[intOf];omega
    ·have HY:ys.getD k 0=0:=by rw[xgb,List.getElem?_eq_none oM];rfl
     have HY':=Lib.hid HY;clear HY;go_wp2;go_roundw
     case rel=>exact⟨k+1,(d+x)/4294967296,zs.set k ((d+x)%4294967296),by omega,by go_num,by go_num,by omega,hblk.set' _ _ _ oM,hbel.setCell (xgf _) _,by simpa using hlz,
       ⟨by simpa using HH.out.1,HH.out.2.1.set _ _ (Nat.mod_lt _ oM),zB2 HH.out.2.2 oM HX.out HY'.out⟩⟩
     case measure=>simp[intOf];omega
   ·obtain rfl:n1=k:=by omega
    have hcz:=hblk.cell (k:=n1) oM;go_wp2;go_ret;refine⟨_,_,_,zs.set n1 d,rfl,by simpa using HH.out.1,by omega,by omega,(hblk.set' _ _ d oM).at_ (HH.out.2.1.set _ _ (by unfold B32;omega)),?_,hbel.setCell (xgf _) _⟩;have h1:=HH.out.2.2;have h2:=yX zs n1 d hlz;rw[zJ _ (by simp[HH.out.1]),h1,zJ xs oM,zJ ys oM]at h2;omega
theorem zCB(a b:Int)(w:World):
  Calls Tryz.prog 238 #[.int .i64 a,.int .i64 b] w fun e w'=>e= .returned (.int .i64 (qJ a b))/\w=w':=by
 by_cases h1:a<b
 ·have h1':¬ b<a:=by omega
  have e:qJ a b=-1:=by unfold qJ;rw[if_pos h1]
  have E:=Lib.hid e;clear e;go_enter Tryz.func238,Tryz.ntmps238;go_wp2_with (go_in)
  go_ret;exact⟨by rw[E.out];rfl,rfl⟩
 ·by_cases h2:b<a
  ·have e:qJ a b=1:=by unfold qJ;rw[if_neg h1,if_pos h2]
   have E:=Lib.hid e;clear e;go_enter Tryz.func238,Tryz.ntmps238;go_wp2_with (go_in)
   go_ret;exact⟨by rw[E.out];rfl,rfl⟩
  ·have e:qJ a b=0:=by unfold qJ;rw[if_neg h1,if_neg h2]
   have E:=Lib.hid e;clear e;go_enter Tryz.func238,Tryz.ntmps238;go_wp2_with (go_in)
   go_ret;exact⟨by rw[E.out];rfl,rfl⟩
theorem zI6(a b:Int)(w:World):
  Calls Tryz.prog 262 #[.int .u32 a,.int .u32 b] w fun e w'=>e= .returned (.int .i64 (qJ a b))/\w=w':=by
 by_cases h1:a<b
 ·have h1':¬ b<a:=by omega
  have e:qJ a b=-1:=by unfold qJ;rw[if_pos h1]
  have E:=Lib.hid e;clear e;go_enter Tryz.func262,Tryz.ntmps262;go_wp2_with (go_in)
  go_ret;exact⟨by rw[E.out];rfl,rfl⟩
 ·by_cases h2:b<a
  ·have e:qJ a b=1:=by unfold qJ;rw[if_neg h1,if_pos h2]
   have E:=Lib.hid e;clear e;go_enter Tryz.func262,Tryz.ntmps262;go_wp2_with (go_in)
   go_ret;exact⟨by rw[E.out];rfl,rfl⟩
  ·have e:qJ a b=0:=by unfold qJ;rw[if_neg h1,if_neg h2]
   have E:=Lib.hid e;clear e;go_enter Tryz.func262,Tryz.ntmps262;go_wp2_with (go_in)
   go_ret;exact⟨by rw[E.out];rfl,rfl⟩
theorem zEP(a b c:Int)(w:World)(h:qJ a b=c):
  Calls Tryz.prog 262 #[.int .u32 a,.int .u32 b] w fun e w'=>e= .returned (.int .i64 c)/\w'=w:=
 (zI6 a b w).mono fun _ _ ⟨he,hw⟩=>⟨by rw[he,h],hw.symm⟩
theorem yY{a b:Int}(h:a<b):qJ a b=-1:=by unfold qJ;rw[if_pos h]
theorem jF{a b:Int}(h:b<a):qJ a b=1:=by unfold qJ;rw[if_neg oM,if_pos h]
theorem jY{a b:Int}(h:a=b):qJ a b=0:=by unfold qJ;rw[if_neg oM,if_neg oM]
theorem zAI(ao1 ao2:Option Addr)(n1 cap1 n2 cap2:Nat)(xs ys:List Nat)(w:World)(hn1:xs.length=n1)(hn2:ys.length=n2)(hl1:n1<=cap1)(hl2:n2<=cap2)
  (hc1:cap1<=9223372036854775807) (hc2:cap2<=9223372036854775807) (hx1:zG w ao1 xs) (hx2:zG w ao2 ys) (hN1:qM xs) (hN2:qM ys):
  Calls Tryz.prog 226 #[.slice ao1 n1 cap1,.slice ao2 n2 cap2] w fun e w'=>e= .returned (.int .i64 (qJ (nat xs) (nat ys)))/\∃q,w'=w.drewN q:=by
 have HN1:=Lib.hid hn1;have HN2:=Lib.hid hn2;by_cases hne:n1=n2
 ·subst hne
  have ec:((qJ (n1:Int) (n1:Int)) !=0)=false:=by unfold qJ;simp
  have hlen1:xs.length<=n1:=by omega
  have hlen1':n1<=xs.length:=by omega
  have hlen2:ys.length<=n1:=by omega
  have hlen2':n1<=ys.length:=by omega
  clear hn1 hn2;go_enter Tryz.func226,Tryz.ntmps226;go_wp2_with (go_at_call 238;refine(zCB _ _ _).mono ?_;rintro e w' ⟨rfl,rfl⟩)
  clear ec;go_loopw [6] (fun i wr=>∃k q:Nat,k<=n1/\i= .int .i64 ((k:Int)-1)/\Hid (xs.drop k=ys.drop k)/\Hid (wr=w.drewN q)) (fun i _=>(intOf i+1).toNat)
  case atStart=>exact⟨n1,0,xgf _,rfl,by show _=_;rw[List.drop_eq_nil_of_le oM,List.drop_eq_nil_of_le oM],rfl⟩
  case round=>
   obtain⟨k,q,hk,rfl,HD,HW⟩:=hrel;cases k with
   | zero=>
    have e0:qJ (nat xs:Int) (nat ys:Int)=0:=by
     have:xs=ys:=by simpa using HD.out
     subst this;unfold qJ;simp
    have E:=Lib.hid e0;clear e0;go_wp2;go_ret;exact⟨by rw[E.out];rfl,_,HW.out⟩
   | succ k=>
    obtain⟨b,off,x,rfl,hbw,hx32,HX,hck⟩:=hx1.limb (k:=k) oM;obtain⟨b2,off2,y,rfl,hbw2,hy32,HY,hcy⟩:=hx2.limb (k:=k) oM;have hck':wr.cell? ⟨b,off+k,none⟩=some (.int .u32 (x:Nat)):=by rw[HW.out];exact hck
    have hcy':wr.cell? ⟨b2,off2+k,none⟩=some (.int .u32 (y:Nat)):=by rw[HW.out];exact hcy
    have ek:IntKind.i64.wrap ((k:Int)+1-1)=k:=by rw[IntWalk.i64_in _ oM];omega
    clear hck hcy;rcases Nat.lt_trichotomy x y with hxy|hxy|hxy
    ·have E:Hid (qJ (nat xs) (nat ys)=-1):=yY (by have:=zIM hx1.1 oM oM HD.out HX.out HY.out hxy;omega)
     have hcall:=fun W=>zEP x y (-1) W (yY oM)
     go_wp2;go_quiet ((go_at_call 262;exact Calls.quiet_of_same (hcall _)));go_wp2;go_ret;exact⟨by rw[E.out];rfl,_,by rw[HW.out,World.drewN_drewN]⟩
    ·subst hxy
     have HD':Hid (xs.drop k=ys.drop k):=by
      show _=_;rw[List.drop_eq_getElem_cons (l:=xs) (i:=k) oM,List.drop_eq_getElem_cons (l:=ys) (i:=k) oM,HD.out];have h1:=HX.out;have h2:=HY.out;rw[xgb,xga oM]at h1 h2;simp at h1 h2;rw[h1,h2]
     have hcall:=fun W=>zEP x x 0 W (jY rfl)
     clear HD HX HY;go_wp2;go_quiet ((go_at_call 262;exact Calls.quiet_of_same (hcall _)));go_wp2;go_roundw
     case rel=>exact⟨k,_,by omega,by go_num,HD',by show _=_;rw[HW.out,World.drewN_drewN]⟩
     case measure=>simp[intOf]
    ·have E:Hid (qJ (nat xs) (nat ys)=1):=jF (by have:=zIM hx2.1 oM oM HD.out.symm HY.out HX.out hxy;omega)
     have hcall:=fun W=>zEP x y 1 W (jF oM)
     go_wp2;go_quiet ((go_at_call 262;exact Calls.quiet_of_same (hcall _)));go_wp2;go_ret;exact⟨by rw[E.out];rfl,_,by rw[HW.out,World.drewN_drewN]⟩
 ·rcases Nat.lt_or_gt_of_ne hne with h|h
  ·have e1:qJ (n1:Int) (n2:Int)=-1:=yY oM
   have E:Hid (qJ (nat xs) (nat ys)=-1):=yY (by have:=zFl hx1.1 hN2 oM;omega);have hcall:=fun W=>(zCB n1 n2 W)
   rw[e1]at hcall;clear e1;go_enter Tryz.func226,Tryz.ntmps226;go_wp2_with (go_at_call 238;refine(hcall _).mono ?_;rintro e w' ⟨rfl,rfl⟩)
   go_ret;exact⟨by rw[E.out];rfl,0,rfl⟩
  ·have e1:qJ (n1:Int) (n2:Int)=1:=jF oM
   have E:Hid (qJ (nat xs) (nat ys)=1):=jF (by have:=zFl hx2.1 hN1 oM;omega);have hcall:=fun W=>(zCB n1 n2 W)
   rw[e1]at hcall;clear e1;go_enter Tryz.func226,Tryz.ntmps226;go_wp2_with (go_at_call 238;refine(hcall _).mono ?_;rintro e w' ⟨rfl,rfl⟩)
   go_ret;exact⟨by rw[E.out];rfl,0,rfl⟩
theorem zDW{xs ys zs:List Nat}{k d x y v e:Nat}(h:nat (zs.take k)+nat (ys.take k)=nat (xs.take k)+d*B32^k)(hk:k<zs.length)
  (hx:xs.getD k 0=x) (hy:ys.getD k 0=y) (hv:v+y+d=x+e*4294967296):
  nat ((zs.set k v).take (k+1))+nat (ys.take (k+1))=nat (xs.take (k+1))+e*B32^(k+1):=by
 rw[yX _ _ _ hk,zQ,zQ,hx,hy,Nat.pow_succ,yS];rw[yS]at h;generalize 4294967296^k=p at*;have e1:(v+y+d)*p=(x+e*4294967296)*p:=by rw[hv]
 rw[Nat.add_mul,Nat.add_mul,Nat.add_mul,Nat.mul_assoc,Nat.mul_comm 4294967296 p]at e1;omega
theorem zJh(x y d:Nat)(hx:x<4294967296)(hy:y<4294967296)(hd:d<=1):
  ∃v e:Nat,IntKind.u32.wrap (IntKind.u64.wrap (IntKind.u64.wrap ((x:Int)-d)-y))=v/\IntKind.u64.wrap (IntKind.u64.wrap ((x:Int)-d)-y)/9223372036854775808=e/\v<4294967296/\e<=1/\v+y+d=x+e*4294967296:=by
 simp only[IntKind.wrap_u64,IntKind.wrap_u32];by_cases h:y+d<=x
 ·exact⟨x-d-y,0,by omega,by omega,by omega,by omega,by omega⟩
 ·exact⟨x+4294967296-d-y,1,by omega,by omega,by omega,by omega,by omega⟩
theorem zIE(x d:Nat)(hx:x<4294967296)(hd:d<=1):
  ∃v e:Nat,IntKind.u32.wrap (IntKind.u64.wrap ((x:Int)-d))=v/\IntKind.u64.wrap ((x:Int)-d)/9223372036854775808=e/\v<4294967296/\e<=1/\v+0+d=x+e*4294967296:=by
 simp only[IntKind.wrap_u64,IntKind.wrap_u32];by_cases h:d<=x
 ·exact⟨x-d,0,by omega,by omega,by omega,by omega,by omega⟩
 ·exact⟨x+4294967296-d,1,by omega,by omega,by omega,by omega,by omega⟩
theorem zEY(ao1 ao2:Option Addr)(n1 cap1 n2 cap2:Nat)(xs ys:List Nat)(w:World)(hn1:xs.length=n1)(hn2:ys.length=n2)(hl1:n1<=cap1)(hl2:n2<=cap2)
  (hc1:cap1<=9223372036854775807) (hc2:cap2<=9223372036854775807) (hb1:n1<=4*LIM) (hx1:zG w ao1 xs) (hx2:zG w ao2 ys) (hle:n2<=n1) (hval:nat ys<=nat xs):
  Calls Tryz.prog 227 #[.slice ao1 n1 cap1,.slice ao2 n2 cap2] w (zD2 w (nat xs-nat ys)):=by
 have HN1:=Lib.hid hn1;have HN2:=Lib.hid hn2;have HV:=Lib.hid hval;have hlen1:xs.length<=n1:=by omega
 have hlen1':n1<=xs.length:=by omega
 have hlen2:ys.length<=n2:=by omega
 have hlen2':n2<=ys.length:=by omega
 clear hn1 hn2 hval;rw[qV]at hb1;have hmk:=fun W=>mkU (n1:Int) n1 oM oM W
 go_enter Tryz.func227,Tryz.ntmps227;go_wp2;clear hmk;go_loopw [6,14] (fun c i wr=>∃(k d:Nat) (zs:List Nat),k<=n1/\i= .int .i64 k/\c= .int .u64 d/\d<=1/\jO wr w.heap.size zs/\Below w.heap.size w wr/\n1<=zs.length∧
   Hid (zs.length=n1/\qR zs/\nat (zs.take k)+nat (ys.take k)=nat (xs.take k)+d*B32^k)) (fun _ i _=>n1-(intOf i).toNat)
 case atStart=>exact⟨0,0,List.replicate n1 0,by omega,rfl,rfl,by omega,jO.made _ _,(Below.refl _ _).alloc (xgf _) _,by simp,⟨by simp,fun x hx=>by rw[List.eq_of_mem_replicate hx];exact jA,by simp⟩⟩
 case round=>
  obtain⟨k,d,zs,hk,rfl,rfl,hd,hblk,hbel,hlz,HH⟩:=hrel;have hfr:=hblk.frozen k;by_cases hkn:k<n1
  ·obtain⟨b,off,x,rfl,hbw,hx32,HX,hck⟩:=hx1.limb (k:=k) oM
   have hck':=(hbel.cell (p:=⟨b,off+k,none⟩) hbw).trans hck;have hcz:=hblk.cell (k:=k) oM;clear hck;by_cases hk2:k<n2
   ·obtain⟨b2,off2,y,rfl,hbw2,hy32,HY,hcy⟩:=hx2.limb (k:=k) oM
    have hcy':=(hbel.cell (p:=⟨b2,off2+k,none⟩) hbw2).trans hcy;clear hcy;go_wp2;go_roundw;obtain⟨v,e,e1,e2,e3,e4,e5⟩:=zJh x y d hx32 hy32 hd
    case rel=>exact⟨k+1,e,zs.set k v,by omega,by go_num,by rw[e2],by omega,hblk.set' _ _ v (by first|exact e1|omega),hbel.setCell (xgf _) _,by simpa using hlz,
      ⟨by simpa using HH.out.1,HH.out.2.1.set _ _ e3,zDW HH.out.2.2 oM HX.out HY.out e5⟩⟩
    case measure=>simp[intOf];omega
   ·have HY:ys.getD k 0=0:=by rw[xgb,List.getElem?_eq_none oM];rfl
    have HY':=Lib.hid HY;clear HY;go_wp2;go_roundw;obtain⟨v,e,e1,e2,e3,e4,e5⟩:=zIE x d hx32 hd
    case rel=>exact⟨k+1,e,zs.set k v,by omega,by go_num,by rw[e2],by omega,hblk.set' _ _ v (by first|exact e1|omega),hbel.setCell (xgf _) _,by simpa using hlz,
      ⟨by simpa using HH.out.1,HH.out.2.1.set _ _ e3,zDW HH.out.2.2 oM HX.out HY'.out e5⟩⟩
    case measure=>simp[intOf];omega
  ·obtain rfl:n1=k:=by omega
   go_wp2;go_ret;have h1:=HH.out.2.2;rw[zJ xs hlen1,zJ ys oM,zJ zs (by rw[HH.out.1];omega)]at h1;have h2:=jX HH.out.2.1;rw[HH.out.1]at h2;have h3:=HV.out;refine⟨_,_,_,zs,rfl,HH.out.1,by omega,by omega,hblk.at_ HH.out.2.1,?_,hbel⟩;generalize B32^n1=p at h1 h2;have h4:d=0∨d=1:=by omega
   rcases h4 with rfl|rfl<;>omega
theorem zDg{ys zs zs0:List Nat}{i k c x y z:Nat}(h:nat (zs.take (i+k))+c*B32^(i+k)=nat (zs0.take (i+k))+x*B32^i*nat (ys.take k))(hk:i+k<zs.length)
    (hy:ys.getD k 0=y) (hz:zs.getD (i+k) 0=z) (hz0:zs0.getD (i+k) 0=z):
    nat ((zs.set (i+k) ((c+(x*y+z))%4294967296)).take (i+(k+1)))+(c+(x*y+z))/4294967296*B32^(i+(k+1))=nat (zs0.take (i+(k+1)))+x*B32^i*nat (ys.take (k+1)):=by
  rw[show i+(k+1)=i+k+1 from rfl,yX _ _ _ hk,zQ zs0,zQ ys,hy,hz0,Nat.mul_add,Nat.pow_succ,yS];rw[yS]at h;have e1:x*4294967296^i*(y*4294967296^k)=x*y*4294967296^(i+k):=by rw[Nat.pow_add];simp only[Nat.mul_assoc,Nat.mul_comm,Nat.mul_left_comm]
  rw[e1];generalize 4294967296^(i+k)=p at*;generalize x*4294967296^i*nat (ys.take k)=t at*;generalize x*y=m at*;have e:=Nat.div_add_mod (c+(m+z)) 4294967296;generalize (c+(m+z))/4294967296=q at*;generalize (c+(m+z))%4294967296=r at*;have e2:r*p+q*(p*4294967296)=(c+(m+z))*p:=by rw[<-e,Nat.add_mul,Nat.mul_comm 4294967296 q,Nat.mul_assoc,Nat.mul_comm 4294967296 p,Nat.add_comm]
  rw[Nat.add_mul,Nat.add_mul]at e2;omega
theorem zC5{x y:Nat}(hx:x<4294967296)(hy:y<4294967296):x*y<=18446744065119617025:=by
  have h1:x*y<=4294967295*4294967295:=Nat.mul_le_mul oM oM;omega
theorem zC6{x y:Nat}(hx:x<4294967296)(hy:y<4294967296):(x:Int)*(y:Int)<=18446744065119617025/\0<=(x:Int)*(y:Int):=by
  have h:=zC5 hx hy;rw[<-Int.natCast_mul];generalize x*y=m at*;omega
theorem zBC{xs ys:List Nat}{k:Nat}(h:xs.drop k=ys.drop k){j:Nat}(hj:k<=j):xs.getD j 0=ys.getD j 0:=by
  have:=congrArg (fun l=>l.getD (j-k) 0) h;simp only[xgb,List.getElem?_drop]at this;rw[show k+(j-k)=j by omega]at this;simpa[xgb]using this
theorem zAT(zs:List Nat)(k v:Nat):(zs.set k v).drop (k+1)=zs.drop (k+1):=by
  rw[List.drop_set_of_lt oM]
theorem zBy{xs ys:List Nat}{k:Nat}(h:xs.drop k=ys.drop k):xs.drop (k+1)=ys.drop (k+1):=by
  have:=congrArg List.tail h;simpa using this
theorem zLd (ao1 ao2:Option Addr)(n1 cap1 n2 cap2:Nat)(xs ys:List Nat)(w:World)(hn1:xs.length=n1)(hn2:ys.length=n2)
    (hb1:n1<=4*LIM) (hb2:n2<=4*LIM) (hx1:zG w ao1 xs) (hx2:zG w ao2 ys):
    Calls Tryz.prog 243 #[.slice ao1 n1 cap1,.slice ao2 n2 cap2] w (zD2 w (nat xs*nat ys)):=by
  have HN1:=Lib.hid hn1;have HN2:=Lib.hid hn2;have hlen1:xs.length<=n1:=by omega
  have hlen1':n1<=xs.length:=by omega
  have hlen2:ys.length<=n2:=by omega
  have hlen2':n2<=ys.length:=by omega
  clear hn1 hn2;rw[qV]at hb1 hb2;have hmk:=fun W=>mkU ((n1:Int)+n2) (n1+n2) oM oM W
  go_enter Tryz.func243,Tryz.ntmps243;go_wp2;clear hmk;go_loopw [19] (fun i wr=>∃(k:Nat) (zs:List Nat),k<=n1/\i= .int .i64 k/\jO wr w.heap.size zs/\Below w.heap.size w wr/\n1+n2<=zs.length∧
      Hid (zs.length=n1+n2/\qR zs/\nat (zs.take (k+n2))=nat (xs.take k)*nat ys)) (fun i _=>n1-(intOf i).toNat)
  case atStart=>exact⟨0,List.replicate (n1+n2) 0,by omega,rfl,jO.made _ _,(Below.refl _ _).alloc (xgf _) _,by simp,⟨by simp,fun x hx=>by rw[List.eq_of_mem_replicate hx];exact jA,by
    have:∀m,nat (List.replicate m 0)=0:=fun m=>by induction m with
      |zero=>rfl
      |succ m ih=>rw[List.replicate_succ,yM,ih];rfl
    rw[List.take_replicate,this];simp⟩⟩
  case round=>
    obtain⟨k,zs0,hk,rfl,hblk0,hbel0,hlz0,HH0⟩:=hrel;obtain⟨wo,rfl⟩:∃wo:World,wo=wr:=⟨_,rfl⟩;by_cases hkn:k<n1
    · obtain ⟨b,off,x,rfl,hbw,hx32,HX,hck⟩:=hx1.limb (k:=k) oM
      have hck':=(hbel0.cell (p:=⟨b,off+k,none⟩) hbw).trans hck;clear hck;go_wp2;go_loopw [8,26] (fun cv i wr=>∃(j c:Nat) (zs:List Nat),j<=n2/\i= .int .i64 j/\cv= .int .u64 c/\c<4294967296/\jO wr w.heap.size zs/\Below w.heap.size w wr/\n1+n2<=zs.length∧
          Hid (zs.length=n1+n2/\qR zs/\zs.drop (k+j)=zs0.drop (k+j)/\nat (zs.take (k+j))+c*B32^(k+j)=nat (zs0.take (k+j))+x*B32^k*nat (ys.take j))) (fun _ i _=>n2-(intOf i).toNat)
      case atStart=>exact⟨0,0,zs0,by omega,rfl,rfl,by omega,hblk0,hbel0,hlz0,⟨HH0.out.1,HH0.out.2.1,rfl,by simp⟩⟩
      case round=>
        obtain⟨j,c,zs,hj,rfl,rfl,hc,hblk,hbel,hlz,HH⟩:=hrel;have hfr:=hblk.frozen (k+j);by_cases hjn:j<n2
        · obtain⟨b2,off2,y,rfl,hbw2,hy32,HY,hcy⟩:=hx2.limb (k:=j) oM
          have hcy':=(hbel.cell (p:=⟨b2,off2+j,none⟩) hbw2).trans hcy;clear hcy;obtain⟨z,HZ⟩:∃z,zs.getD (k+j) 0=z:=⟨_,rfl⟩;have hz32:z<4294967296:=by rw[<-HZ];exact HH.out.2.1.get _
          have hcz:=hblk.cell (k:=k+j) oM;rw[HZ]at hcz;have HZ':=Lib.hid HZ;clear HZ;have hm1:=zC5 hx32 hy32;obtain⟨hm2,hm3⟩:=zC6 hx32 hy32;go_wp2;go_roundw
          case rel=>
            have ec:(((c+(x*y+z))/4294967296:Nat):Int)=((c:Int)+((x:Int)*(y:Int)+(z:Int)))/4294967296:=by simp
            have hlt:c+(x*y+z)<18446744073709551616:=by generalize x*y=m at*;omega
            refine⟨j+1,(c+(x*y+z))/4294967296,zs.set (k+j) ((c+(x*y+z))%4294967296),by omega,by go_num,by rw[ec],by generalize x*y=m at*;omega,hblk.set' _ _ _ sI,hbel.setCell (xgf _) _,by simpa using hlz,
              ⟨by simpa using HH.out.1,HH.out.2.1.set _ _ (Nat.mod_lt _ oM),?_,zDg HH.out.2.2.2 oM HY.out HZ'.out ((zBC HH.out.2.2.1 (xgf _)).symm.trans HZ'.out)⟩⟩
            rw[show k+(j+1)=k+j+1 from rfl,zAT];exact zBy HH.out.2.2.1
          case measure=>simp[intOf];omega
        · obtain rfl:n2=j:=by omega
          have hcz:=hblk.cell (k:=k+n2) oM;go_wp2;go_roundw
          case rel=>
            refine⟨k+1,zs.set (k+n2) c,by omega,by go_num,hblk.set' _ _ _ rfl,hbel.setCell (xgf _) _,by simpa using hlz,⟨by simpa using HH.out.1,HH.out.2.1.set _ _ hc,?_⟩⟩;have h1:=HH.out.2.2.2;have h2:=HH0.out.2.2;rw[h2,zJ ys oM]at h1;rw[show k+1+n2=k+n2+1 by omega,yX _ _ _ oM,h1,zQ xs,HX.out,Nat.add_mul]
          case measure=>simp[intOf];omega
    · obtain rfl:n1=k:=by omega
      go_wp2;go_ret;have h1:=HH0.out.2.2;rw[zJ xs hlen1,zJ zs0 (by rw[HH0.out.1];omega)]at h1;exact⟨_,_,_,zs0,rfl,HH0.out.1,by omega,by omega,hblk0.at_ HH0.out.2.1,h1,hbel0⟩
end Go.Proofs.YtnbmaipobhppcaaGreat
