/- Numbers to the base 2^32 as lists of limbs: plain arithmetic, no program. What integers of the program look like in memory: limbs, integers, frames; over any world. The functions of package integer on limbs: what each call does. The functions of package integer on limbs, second part. The functions of package integer on limbs, third part. The functions of package integer on limbs, fourth part: times, word, limbs. The functions of package integer: word, limbs, value, Sign, Clone. The functions of package integer on integers. append on limbs; slices.Clone. The functions of package integer on integers, second part: Neg, Abs, Sub, Mul, own. The functions of package integer on integers, third part: Valid, Cmp, and matrix.own. Division of limbs: word, short. math/bits.Len32 and LeadingZeros32 by the library's contracts, at this dump's numbers. Division of limbs: shift. The plain arithmetic of one digit of a long division. -/
import Derived.Test.YtnbmaipobhppcaaGreatRows
import Derived.WalkKit
import Derived.WalkSpells
import Derived.WalkLawsBesides
import Derived.Lib.Hide
import Derived.Deep.Draws
import Derived.Deep.QuietTactic
import Derived.BigQuiet
import Derived.Laws.ResultCell
import Derived.Deep.RegionHeld3
import Derived.Laws.AppendOwnNone
import Derived.Deep.DeepCutAuto
import Derived.Deep.CutBlock
import Derived.Deep.Cut
import Derived.Shelf.Small.Bits
import Derived.Ground.Names2Prog
set_option linter.unusedVariables false
set_option linter.unusedSimpArgs false
set_option linter.unusedSectionVars false
set_option maxHeartbeats 16000000
set_option maxRecDepth 100000
namespace Go.Proofs.YtnbmaipobhppcaaGreat
def B32:Nat:=4294967296
theorem yQ:B32=4294967296:=rfl
theorem yZ:0<B32:=by decide
def nat:List Nat->Nat
 | []=>0
 |x::xs=>x+B32*nat xs
@[simp] theorem nat_nil:nat []=0:=rfl
theorem yN(x:Nat)(xs:List Nat):nat (x::xs)=x+B32*nat xs:=rfl
theorem zBY(xs ys:List Nat):nat (xs++ys)=nat xs+B32^xs.length*nat ys:=by
 induction xs with
 |nil=>simp
 |cons x xs ih=>
  simp only[List.cons_append,yN,ih,List.length_cons,Nat.pow_succ,Nat.mul_add];rw[Nat.add_assoc,<-Nat.mul_assoc,Nat.mul_comm B32 (B32^xs.length)]
theorem zAw(xs:List Nat)(y:Nat):nat (xs++ [y])=nat xs+B32^xs.length*y:=by
 rw[zBY];simp[yN]
def qT(xs:List Nat):Prop:=∀x∈xs,x<B32
theorem qT.cons{x:Nat}{xs:List Nat}(h:qT (x::xs)):x<B32/\qT xs:=
 ⟨h x (by simp),fun y hy=>h y (by simp[hy])⟩
theorem qT.nil:qT []:=by intro x hx;cases hx
theorem qT.take{xs:List Nat}(h:qT xs)(k:Nat):qT (xs.take k):=fun x hx=>h x (List.mem_of_mem_take hx)
theorem qT.append{xs ys:List Nat}(h:qT xs)(k:qT ys):qT (xs++ys):=fun x hx=>by
 rcases List.mem_append.1 hx with h1|h1
 ·exact h x h1
 ·exact k x h1
theorem qT.get{xs:List Nat}(h:qT xs)(k:Nat):xs.getD k 0<B32:=by
 rw[List.getD_eq_getElem?_getD];rcases Nat.lt_or_ge k xs.length with hk|hk
 ·rw[List.getElem?_eq_getElem hk];exact h _ (List.getElem_mem hk)
 ·rw[List.getElem?_eq_none hk];exact yZ
theorem jZ{xs:List Nat}(h:qT xs):nat xs<B32^xs.length:=by
 induction xs with
 |nil=>simp
 |cons x xs ih=>
  obtain⟨hx,hxs⟩:=h.cons;have:=ih hxs;simp only[yN,List.length_cons,Nat.pow_succ];have h2:B32*(nat xs+1)<=B32*B32^xs.length:=Nat.mul_le_mul_left _ this;rw[Nat.mul_add]at h2;rw[Nat.mul_comm (B32^xs.length)];omega
def qO(xs:List Nat):Prop:=∀n,xs.length=n+1->xs.getD n 0≠0
theorem qO.nil:qO []:=by intro n h;simp at h
theorem qO.tail{x:Nat}{xs:List Nat}(h:qO (x::xs)):qO xs:=by
 intro n hn;have:=h (n+1) (by simp[hn]);simpa using this
theorem zC8{xs:List Nat}(h:qO xs){n:Nat}(hn:xs.length=n+1):B32^n<=nat xs:=by
 induction xs generalizing n with
 |nil=>simp at hn
 | cons x xs ih=>
  simp at hn;rw[yN];cases n with
  |zero=>
   have h0:=h 0 (by simp[hn]);have:xs= []:=List.eq_nil_of_length_eq_zero hn;subst this;simp at h0 ⊢
   omega
  |succ n=>
   have:=ih h.tail (n:=n) (by omega);have h2:=Nat.mul_le_mul_left B32 this;rw[Nat.pow_succ,Nat.mul_comm];omega
theorem zH6{xs:List Nat}(h:qO xs)(hne:xs≠ []):0<nat xs:=by
 cases hx:xs.length with
 |zero=>exact absurd (List.eq_nil_of_length_eq_zero hx) hne
 |succ n=>exact Nat.lt_of_lt_of_le (Nat.pow_pos yZ) (zC8 h hx)
theorem zCm{xs:List Nat}(h:qO xs):nat xs=0↔xs= []:=by
 constructor
 ·intro h0
  by_cases hne:xs= []
  ·exact hne
  ·have:=zH6 h hne;omega
 ·rintro rfl;rfl
theorem zAZ{a b:Nat}(h:a<=b):B32^a<=B32^b:=Nat.pow_le_pow_right yZ h
theorem jW{xs ys:List Nat}(hx:qT xs)(hn:qO ys)(h:nat ys<=nat xs):ys.length<=xs.length:=by
 rcases Nat.lt_or_ge xs.length ys.length with hlt|hge
 ·cases hy:ys.length with
  |zero=>omega
  |succ n=>
   have h1:=zC8 hn hy;have h2:=jZ hx;have h3:=zAZ (show xs.length<=n by omega);omega
 ·exact hge
theorem zBS(xs:List Nat)(n:Nat)(h:n<xs.length):xs.take (n+1)=xs.take n++ [xs.getD n 0]:=by
 rw[List.take_succ_eq_append_getElem h];simp[List.getD_eq_getElem?_getD,List.getElem?_eq_getElem h]
theorem zR(xs:List Nat)(k:Nat):nat (xs.take (k+1))=nat (xs.take k)+xs.getD k 0*B32^k:=by
 rcases Nat.lt_or_ge k xs.length with h|h
 ·rw[zBS xs k h,zAw,List.length_take,Nat.min_eq_left (by omega),Nat.mul_comm]
 ·rw[List.take_of_length_le (by omega),List.take_of_length_le h,List.getD_eq_getElem?_getD,List.getElem?_eq_none h];simp
theorem yU(zs:List Nat)(k v:Nat)(h:k<zs.length):nat ((zs.set k v).take (k+1))=nat (zs.take k)+v*B32^k:=by
 rw[zR,List.take_set_of_le (by omega),List.getD_eq_getElem?_getD,List.getElem?_set_self h];rfl
theorem qT.set{zs:List Nat}(h:qT zs)(k v:Nat)(hv:v<B32):qT (zs.set k v):=fun x hx=>by
 rcases List.mem_or_eq_of_mem_set hx with h1|h1
 ·exact h x h1
 ·subst h1;exact hv
theorem zJ(xs:List Nat){n:Nat}(h:xs.length<=n):nat (xs.take n)=nat xs:=by rw[List.take_of_length_le h]
theorem zB5{xs ys zs:List Nat}{k d x y:Nat}(h:nat (zs.take k)+d*B32^k=nat (xs.take k)+nat (ys.take k))(hk:k<zs.length)
  (hx:xs.getD k 0=x) (hy:ys.getD k 0=y):
  nat ((zs.set k ((d+x+y)%4294967296)).take (k+1))+(d+x+y)/4294967296*B32^(k+1)=nat (xs.take (k+1))+nat (ys.take (k+1)):=by
 rw[yU _ _ _ hk,zR,zR,hx,hy,Nat.pow_succ,yQ];rw[yQ]at h;generalize 4294967296^k=p at*;generalize nat (List.take k zs)=a at*;generalize nat (List.take k xs)=b at*;generalize nat (List.take k ys)=c at*;have e:=Nat.div_add_mod (d+x+y) 4294967296;generalize (d+x+y)/4294967296=q at*;generalize (d+x+y)%4294967296=r at*;have e2:r*p+q*(p*4294967296)=(d+x+y)*p:=by rw[<-e,Nat.add_mul,Nat.mul_comm 4294967296 q,Nat.mul_assoc,Nat.mul_comm 4294967296 p,Nat.add_comm]
 rw[Nat.add_mul,Nat.add_mul]at e2;omega
def qS(xs:List Nat):Nat->Nat
 |0=>0
 |n+1=>if xs.getD n 0=0 then qS xs n else n+1
theorem zAp(xs:List Nat):∀n,qS xs n<=n
 |0=>Nat.le_refl _
 |n+1=>by
  unfold qS;split
  ·have:=zAp xs n;omega
  ·omega
theorem zFm(xs:List Nat):∀n,n<=xs.length->nat (xs.take (qS xs n))=nat (xs.take n)
 |0,_=>rfl
 | n+1,h=>by
  unfold qS;split
  ·rename_i h0
   rw[zFm xs n (by omega),zBS xs n (by omega),zAw,h0];simp
  ·rfl
theorem jX(xs:List Nat):∀n,n<=xs.length->qO (xs.take (qS xs n))
 |0,_=>by simpa[qS]using qO.nil
 | n+1,h=>by
  unfold qS;split
  ·exact jX xs n (by omega)
  ·rename_i h0
   intro k hk;rw[List.length_take,Nat.min_eq_left h]at hk;have:k=n:=by omega
   subst this;rw[List.getD_eq_getElem?_getD,List.getElem?_take,if_pos (by omega),<-List.getD_eq_getElem?_getD];exact h0
def zAu(xs:List Nat):List Nat:=xs.take (qS xs xs.length)
theorem zE8(xs:List Nat):(zAu xs).length=qS xs xs.length:=by
 unfold zAu;rw[List.length_take,Nat.min_eq_left (zAp _ _)]
theorem zAM(xs:List Nat):nat (zAu xs)=nat xs:=by
 unfold zAu;rw[zFm xs _ (Nat.le_refl _),List.take_of_length_le (Nat.le_refl _)]
theorem zBT(xs:List Nat):qO (zAu xs):=jX xs _ (Nat.le_refl _)
theorem qR{xs:List Nat}(h:qO xs):qS xs xs.length=xs.length:=by
 cases hx:xs.length with
 |zero=>rfl
 |succ n=>unfold qS;rw[if_neg (h n hx)]
theorem zC7(xs:List Nat)(k:Nat)(h:k<xs.length):nat xs=nat (xs.take k)+B32^k*(xs.getD k 0+B32*nat (xs.drop (k+1))):=by
 have e:xs=xs.take k++xs.getD k 0::xs.drop (k+1):=by
  rw[List.getD_eq_getElem?_getD,List.getElem?_eq_getElem h];simp
 have hl:(xs.take k).length=k:=by rw[List.length_take,Nat.min_eq_left (by omega)]
 have:=congrArg nat e;rw[zBY,hl,yN]at this;exact this
theorem zIe{xs ys:List Nat}{k x y:Nat}(hx:qT xs)(hkx:k<xs.length)(hky:k<ys.length)(hd:xs.drop (k+1)=ys.drop (k+1))
  (ex:xs.getD k 0=x) (ey:ys.getD k 0=y) (h:x<y):nat xs<nat ys:=by
 rw[zC7 xs k hkx,zC7 ys k hky,hd,ex,ey];have h1:=jZ (hx.take k);rw[List.length_take,Nat.min_eq_left (by omega)]at h1;have h2:B32^k*(x+B32*nat (List.drop (k+1) ys)+1)<=B32^k*(y+B32*nat (List.drop (k+1) ys)):=Nat.mul_le_mul_left _ (by omega);rw[Nat.mul_add _ _ 1]at h2;omega
theorem zFt{xs ys:List Nat}(hx:qT xs)(hy:qO ys)(h:xs.length<ys.length):nat xs<nat ys:=by
 cases hl:ys.length with
 |zero=>omega
 |succ n=>
  have h1:=zC8 hy hl;have h2:=jZ hx;have h3:=zAZ (show xs.length<=n by omega);omega
def qJ(a b:Int):Int:=if a<b then-1 else if b<a then 1 else 0
def sgn(neg:Bool)(n:Nat):Int:=if neg then-(n:Int)else(n:Int)
@[simp] theorem sgn_true (n:Nat):sgn true n=-(n:Int):=rfl
@[simp] theorem sgn_false (n:Nat):sgn false n=(n:Int):=rfl
theorem zEG(b:Bool):sgn b 0=0:=by cases b<;>rfl
theorem zZ(b:Bool)(n:Nat):(sgn b n).natAbs=n:=by cases b<;>simp[sgn]
abbrev xga:=@List.getElem?_eq_getElem
abbrev xgb:=@List.getD_eq_getElem?_getD
abbrev xgc:=@Array.getElem?_setIfInBounds_ne
abbrev xgd:=@List.mem_of_getElem?
abbrev xge:=@List.getElem?_eq_some_iff
abbrev xgf:=@Nat.le_refl
abbrev xgg:=@exists_eq_left
abbrev xgh:=@List.setIfInBounds_toArray
abbrev xgi:=@List.set_cons_zero
abbrev xgj:=@List.set_cons_succ
abbrev xgk:=@List.drop_zero
abbrev xgl:=@List.drop_succ_cons
abbrev xgm:=@List.forall_mem_cons
abbrev xgn:=@List.forall_mem_nil
theorem mm0{α:Type _}{x:α}{l:List α}:x∈x::l:=.head _
theorem mm1{α:Type _}{a0 x:α}{l:List α}:x∈a0::x::l:=.tail _ mm0
abbrev mm2:=fun{α:Type}{a b x:α}{l:List α}=>List.Mem.tail a (@mm1 α b x l)
abbrev mm3:=fun{α:Type}{a b c x:α}{l:List α}=>List.Mem.tail a (@mm2 α b c x l)
abbrev mm4:=fun{α:Type}{a b c d x:α}{l:List α}=>List.Mem.tail a (@mm3 α b c d x l)
abbrev mm5:=fun{α:Type}{a b c d e x:α}{l:List α}=>List.Mem.tail a (@mm4 α b c d e x l)
abbrev mm6:=fun{α:Type}{a b c d e f x:α}{l:List α}=>List.Mem.tail a (@mm5 α b c d e f x l)
abbrev mm7:=fun{α:Type}{a b c d e f g x:α}{l:List α}=>List.Mem.tail a (@mm6 α b c d e f g x l)
abbrev mm8:=fun{α:Type}{a b c d e f g h x:α}{l:List α}=>List.Mem.tail a (@mm7 α b c d e f g h x l)
abbrev mm9:=fun{α:Type}{a b c d e f g h i x:α}{l:List α}=>List.Mem.tail a (@mm8 α b c d e f g h i x l)
abbrev zAB:=fun{α:Type}{a b c d e f g h i j x:α}{l:List α}=>List.Mem.tail a (@mm9 α b c d e f g h i j x l)
abbrev zAG:=fun{α:Type}{a b c d e f g h i j k x:α}{l:List α}=>List.Mem.tail a (@zAB α b c d e f g h i j k x l)
abbrev zAs:=fun{α:Type}{a b c d e f g h i j k L x:α}{l:List α}=>List.Mem.tail a (@zAG α b c d e f g h i j k L x l)
abbrev zCS:=fun{α:Type}{a b c d e f g h i j k L m x:α}{l:List α}=>List.Mem.tail a (@zAs α b c d e f g h i j k L m x l)
abbrev zBq:=fun{α:Type}{a b c d e f g h i j k L m n x:α}{l:List α}=>List.Mem.tail a (@zCS α b c d e f g h i j k L m n x l)
abbrev zCV:=fun{α:Type}{a b c d e f g h i j k L m n o x:α}{l:List α}=>List.Mem.tail a (@zBq α b c d e f g h i j k L m n o x l)
abbrev zDy:=fun{α:Type}{a b c d e f g h i j k L m n o p x:α}{l:List α}=>List.Mem.tail a (@zCV α b c d e f g h i j k L m n o p x l)
abbrev zEy:=fun{α:Type}{a b c d e f g h i j k L m n o p q x:α}{l:List α}=>List.Mem.tail a (@zDy α b c d e f g h i j k L m n o p q x l)
abbrev zCl:=fun{α:Type}{a b c d e f g h i j k L m n o p q r x:α}{l:List α}=>List.Mem.tail a (@zEy α b c d e f g h i j k L m n o p q r x l)
abbrev zE5:=fun{α:Type}{a b c d e f g h i j k L m n o p q r s x:α}{l:List α}=>List.Mem.tail a (@zCl α b c d e f g h i j k L m n o p q r s x l)
abbrev zEz:=fun{α:Type}{a b c d e f g h i j k L m n o p q r s t x:α}{l:List α}=>List.Mem.tail a (@zE5 α b c d e f g h i j k L m n o p q r s t x l)
abbrev zE0:=fun{α:Type}{a b c d e f g h i j k L m n o p q r s t u x:α}{l:List α}=>List.Mem.tail a (@zEz α b c d e f g h i j k L m n o p q r s t u x l)
abbrev zFa:=fun{α:Type}{a b c d e f g h i j k L m n o p q r s t u v x:α}{l:List α}=>List.Mem.tail a (@zE0 α b c d e f g h i j k L m n o p q r s t u v x l)
abbrev zFb:=fun{α:Type}{a b c d e f g h i j k L m n o p q r s t u v w x:α}{l:List α}=>List.Mem.tail a (@zFa α b c d e f g h i j k L m n o p q r s t u v w x l)
abbrev zHa:=fun{α:Type}{a b c d e f g h i j k L m n o p q r s t u v w X x:α}{l:List α}=>List.Mem.tail a (@zFb α b c d e f g h i j k L m n o p q r s t u v w X x l)
abbrev zE1:=fun{α:Type}{a b c d e f g h i j k L m n o p q r s t u v w X y x:α}{l:List α}=>List.Mem.tail a (@zHa α b c d e f g h i j k L m n o p q r s t u v w X y x l)
abbrev zIp:=fun{α:Type}{a b c d e f g h i j k L m n o p q r s t u v w X y z x:α}{l:List α}=>List.Mem.tail a (@zE1 α b c d e f g h i j k L m n o p q r s t u v w X y z x l)
abbrev zJf:=fun{α:Type}{a b c d e f g h i j k L m n o p q r s t u v w X y z a1 x:α}{l:List α}=>List.Mem.tail a (@zIp α b c d e f g h i j k L m n o p q r s t u v w X y z a1 x l)
abbrev zKA:=fun{α:Type}{a b c d e f g h i j k L m n o p q r s t u v w X y z a1 b1 x:α}{l:List α}=>List.Mem.tail a (@zJf α b c d e f g h i j k L m n o p q r s t u v w X y z a1 b1 x l)
abbrev zIq:=fun{α:Type}{a b c d e f g h i j k L m n o p q r s t u v w X y z a1 b1 c1 x:α}{l:List α}=>List.Mem.tail a (@zKA α b c d e f g h i j k L m n o p q r s t u v w X y z a1 b1 c1 x l)
abbrev zMA:=fun{α:Type}{a b c d e f g h i j k L m n o p q r s t u v w X y z a1 b1 c1 d1 x:α}{l:List α}=>List.Mem.tail a (@zIq α b c d e f g h i j k L m n o p q r s t u v w X y z a1 b1 c1 d1 x l)
abbrev zO7:=fun{α:Type}{a b c d e f g h i j k L m n o p q r s t u v w X y z a1 b1 c1 d1 e1 x:α}{l:List α}=>List.Mem.tail a (@zMA α b c d e f g h i j k L m n o p q r s t u v w X y z a1 b1 c1 d1 e1 x l)
abbrev zO8:=fun{α:Type}{a b c d e f g h i j k L m n o p q r s t u v w X y z a1 b1 c1 d1 e1 f1 x:α}{l:List α}=>List.Mem.tail a (@zO7 α b c d e f g h i j k L m n o p q r s t u v w X y z a1 b1 c1 d1 e1 f1 x l)
abbrev zKB:=fun{α:Type}{a b c d e f g h i j k L m n o p q r s t u v w X y z a1 b1 c1 d1 e1 f1 g1 x:α}{l:List α}=>List.Mem.tail a (@zO8 α b c d e f g h i j k L m n o p q r s t u v w X y z a1 b1 c1 d1 e1 f1 g1 x l)
abbrev zO9:=fun{α:Type}{a b c d e f g h i j k L m n o p q r s t u v w X y z a1 b1 c1 d1 e1 f1 g1 h1 x:α}{l:List α}=>List.Mem.tail a (@zKB α b c d e f g h i j k L m n o p q r s t u v w X y z a1 b1 c1 d1 e1 f1 g1 h1 x l)
abbrev zOe:=fun{α:Type}{a b c d e f g h i j k L m n o p q r s t u v w X y z a1 b1 c1 d1 e1 f1 g1 h1 i1 x:α}{l:List α}=>List.Mem.tail a (@zO9 α b c d e f g h i j k L m n o p q r s t u v w X y z a1 b1 c1 d1 e1 f1 g1 h1 i1 x l)
abbrev zOf:=fun{α:Type}{a b c d e f g h i j k L m n o p q r s t u v w X y z a1 b1 c1 d1 e1 f1 g1 h1 i1 j1 x:α}{l:List α}=>List.Mem.tail a (@zOe α b c d e f g h i j k L m n o p q r s t u v w X y z a1 b1 c1 d1 e1 f1 g1 h1 i1 j1 x l)
abbrev zPA:=fun{α:Type}{a b c d e f g h i j k L m n o p q r s t u v w X y z a1 b1 c1 d1 e1 f1 g1 h1 i1 j1 k1 x:α}{l:List α}=>List.Mem.tail a (@zOf α b c d e f g h i j k L m n o p q r s t u v w X y z a1 b1 c1 d1 e1 f1 g1 h1 i1 j1 k1 x l)
abbrev zOg:=fun{α:Type}{a b c d e f g h i j k L m n o p q r s t u v w X y z a1 b1 c1 d1 e1 f1 g1 h1 i1 j1 k1 l1 x:α}{l:List α}=>List.Mem.tail a (@zPA α b c d e f g h i j k L m n o p q r s t u v w X y z a1 b1 c1 d1 e1 f1 g1 h1 i1 j1 k1 l1 x l)
abbrev zPB:=fun{α:Type}{a b c d e f g h i j k L m n o p q r s t u v w X y z a1 b1 c1 d1 e1 f1 g1 h1 i1 j1 k1 l1 m1 x:α}{l:List α}=>List.Mem.tail a (@zOg α b c d e f g h i j k L m n o p q r s t u v w X y z a1 b1 c1 d1 e1 f1 g1 h1 i1 j1 k1 l1 m1 x l)
abbrev zPC:=fun{α:Type}{a b c d e f g h i j k L m n o p q r s t u v w X y z a1 b1 c1 d1 e1 f1 g1 h1 i1 j1 k1 l1 m1 n1 x:α}{l:List α}=>List.Mem.tail a (@zPB α b c d e f g h i j k L m n o p q r s t u v w X y z a1 b1 c1 d1 e1 f1 g1 h1 i1 j1 k1 l1 m1 n1 x l)
end Go.Proofs.YtnbmaipobhppcaaGreat

namespace Go.Proofs.YtnbmaipobhppcaaGreat
open Go.RowKit
theorem oM{p:Prop}(h:p:=by omega):p:=h
theorem sI{p:Prop}(h:p:=by simp):p:=h
theorem kR{p:Prop}(h:p:=by kernel_rfl):p:=h
theorem dE{p:Prop}(h:p:=by decide):p:=h
theorem aU{p:Prop}(h:p:=by repeat' (first|refine xgm.2 ⟨?_,?_⟩|exact xgn _|(dsimp only;omega))):p:=h
abbrev tU:TypeId:=128
def LIM:Nat:=1099511627776
theorem qW:LIM=1099511627776:=rfl
def yI(w w':World):Prop:=∀(b:Nat) (cs:Array Value) (fz:Nat × Nat),w.heap[b]?=some (.cells cs tU fz)->w'.heap[b]?=some (.cells cs tU fz)
theorem yI.refl(w:World):yI w w:=fun _ _ _ h=>h
theorem yI.trans{a b c:World}(h:yI a b)(k:yI b c):yI a c:=fun _ _ _ hh=>k _ _ _ (h _ _ _ hh)
theorem yI.below{w w':World}{B:Nat}(h:Below B w w')(hB:w.heap.size<=B):yI w w':=fun b cs fz hh=>by
 have hl:b<w.heap.size:=by
  rcases Nat.lt_or_ge b w.heap.size with h1|h1
  ·exact h1
  ·rw[Array.getElem?_eq_none h1]at hh;cases hh
 rw[h.block b (by omega)];exact hh
def zG(w:World)(ao:Option Addr)(xs:List Nat):Prop:=
 qT xs/\(xs≠ []->∃b off cs fz,ao=some ⟨b,off,none⟩/\w.heap[b]?=some (.cells cs tU fz)/\∀k x,xs[k]?=some x->cs[off+k]?=some (.int .u32 (x:Nat)))
theorem zG.nil(w:World)(ao:Option Addr):zG w ao []:=⟨qT.nil,fun h=>absurd rfl h⟩
theorem zG.ext{w w':World}{ao:Option Addr}{xs:List Nat}(h:zG w ao xs)(e:yI w w'):zG w' ao xs:=
 ⟨h.1,fun hne=>by
  obtain⟨b,off,cs,fz,h1,h2,h3⟩:=h.2 hne;exact⟨b,off,cs,fz,h1,e _ _ _ h2,h3⟩⟩
theorem zG.cell{w:World}{ao:Option Addr}{xs:List Nat}(h:zG w ao xs){k:Nat}(hk:k<xs.length):
  ∃b off,ao=some ⟨b,off,none⟩/\b<w.heap.size/\w.cell? ⟨b,off+k,none⟩=some (.int .u32 (xs.getD k 0:Nat)):=by
 obtain⟨b,off,cs,fz,h1,h2,h3⟩:=h.2 (by rintro rfl;simp at hk);refine⟨b,off,h1,?_,?_⟩
 ·exact(Array.getElem?_eq_some_iff.1 h2).1
 ·rw[cell_of_row w b (off+k) cs tU fz h2,h3 k (xs.getD k 0) (by simp[xgb,xga hk])]
theorem zG.limb{w:World}{ao:Option Addr}{xs:List Nat}(h:zG w ao xs){k:Nat}(hk:k<xs.length):
  ∃b off x,ao=some ⟨b,off,none⟩/\b<w.heap.size/\x<4294967296/\Hid (xs.getD k 0=x)/\w.cell? ⟨b,off+k,none⟩=some (.int .u32 (x:Nat)):=by
 obtain⟨b,off,h1,h2,h3⟩:=h.cell hk;exact⟨b,off,_,h1,h2,h.1.get k,rfl,h3⟩
theorem zG.cells{w:World}{ao:Option Addr}{xs:List Nat}(h:zG w ao xs)(hk:0<xs.length):
  ∃b off,ao=some ⟨b,off,none⟩/\b<w.heap.size/\∀k,k<xs.length->w.cell? ⟨b,off+k,none⟩=some (.int .u32 (xs.getD k 0:Nat)):=by
 obtain⟨b,off,h1,hb,h2⟩:=h.cell hk;refine⟨b,off,h1,hb,fun k hk=>?_⟩;obtain⟨b',off',h1',_,h2'⟩:=h.cell hk;rw[h1]at h1';injection h1' with h1'
 injection h1' with e1 e2
 subst e1;subst e2;exact h2'
theorem zG.take{w:World}{ao:Option Addr}{xs:List Nat}(h:zG w ao xs)(n:Nat):zG w ao (xs.take n):=
 ⟨h.1.take n,fun hne=>by
  obtain⟨b,off,cs,fz,h1,h2,h3⟩:=h.2 (by rintro rfl;simp at hne);refine⟨b,off,cs,fz,h1,h2,fun k x hk=>h3 k x ?_⟩;rw[List.getElem?_take]at hk;split at hk
  ·exact hk
  ·cases hk⟩
def yS(xs:List Nat):Array Value:=(xs.map fun n=>Value.int .u32 (n:Nat)).toArray
def jQ(w:World)(b:Nat)(xs:List Nat):Prop:=w.heap[b]?=some (.cells (yS xs) tU (0,0))
theorem jQ.lt{w:World}{b:Nat}{xs:List Nat}(h:jQ w b xs):b<w.heap.size:=(Array.getElem?_eq_some_iff.1 h).1
theorem jQ.cell{w:World}{b:Nat}{xs:List Nat}(h:jQ w b xs){k:Nat}(hk:k<xs.length):w.cell? ⟨b,k,none⟩=some (.int .u32 (xs.getD k 0:Nat)):=by
 rw[cell_of_row w b k _ tU _ h];simp[yS,xga hk,xgb]
theorem jQ.frozen{w:World}{b:Nat}{xs:List Nat}(h:jQ w b xs)(k:Nat):w.frozen? ⟨b,k,none⟩=false:=frozen_of_row w b k _ _ h
theorem jQ.set{w:World}{b:Nat}{xs:List Nat}(h:jQ w b xs)(k n:Nat):jQ (w.setCell ⟨b,k,none⟩ (.int .u32 (n:Nat))) b (xs.set k n):=by
 unfold jQ at h ⊢
 rw[heap_setCell_same w b k _ tU _ h];simp[yS,List.map_set]
theorem jQ.set'{w:World}{b:Nat}{xs:List Nat}(h:jQ w b xs)(k:Nat)(m:Int)(n:Nat)(hm:m=n):jQ (w.setCell ⟨b,k,none⟩ (.int .u32 m)) b (xs.set k n):=by
 subst hm;exact h.set k n
theorem jQ.ext{w w':World}{b:Nat}{xs:List Nat}(h:jQ w b xs)(e:yI w w'):jQ w' b xs:=e _ _ _ h
theorem jQ.alloc{w:World}{b:Nat}{xs:List Nat}(h:jQ w b xs)(o:Obj):jQ (w.alloc o) b xs:=(heap_alloc_old w o h.lt).trans h
theorem jQ.at_{w:World}{b:Nat}{xs:List Nat}(h:jQ w b xs)(hx:qT xs):zG w (some ⟨b,0,none⟩) xs:=
 ⟨hx,fun _=>⟨b,0,_,_,rfl,h,fun k x hk=>by simp[yS,hk]⟩⟩
theorem Tryz.infoU:(Tryz.prog.info? tU).map (fun i=>(i.zero,i.size,i.bytes))=some (some (.int .u32 0),1,4):=by kernel_rfl
theorem zAd{P:Program}(t e:TypeId)(i:TypeInfo)(z:Value)(ht:P.underlying t=some (.slice e))(hi:P.info? e=some i)(hz:i.zero=some z)
  (kl kc:IntKind) (n c:Nat) (hnc:n<=c) (hbytes:i.bytes*c<=281474976710656) (h63:c<=9223372036854775807) (w:World):
  (Instr.makeSlice t (.int kl (n:Int)) (.int kc (c:Int))).run P w= .ok (.slice (some ⟨w.heap.size,0,none⟩) n c) (w.alloc (.cells (madeCells z.cells (c*i.size)) e)):=by
 have hb:(i.bytes:Int)*(c:Int)<=281474976710656:=by
  have h:((i.bytes*c:Nat):Int)<=281474976710656:=by omega
  rwa[Int.natCast_mul]at h
 have hr:=run_make (P:=P) w t e i z ht hi hz kl kc n c (by omega) (by omega) hb (by omega);simp only[Int.toNat_natCast]at hr;exact hr
theorem zQP(n:Nat):madeCells (Value.int .u32 0).cells (n*1)=yS (List.replicate n 0):=by
 apply Array.ext
 ·simp[madeCells,yS]
 ·intro i h1 h2
  simp[madeCells,yS,Nat.mod_one,Value.cells]
theorem mkU(m:Int)(n:Nat)(hm:m=n)(h:n<=70368744177664)(W:World):
  (Instr.makeSlice 33 (.int .i64 m) (.int .i64 m)).run Tryz.prog W= .ok (.slice (some ⟨W.heap.size,0,none⟩) n n) (W.alloc (.cells (yS (List.replicate n 0)) tU)):=by
 subst hm;obtain⟨i0,hi,hz0,hz1,hz2⟩:=info_parts Tryz.infoU;have:=zAd (P:=Tryz.prog) 33 tU i0 _ Tryz.underlying33 hi hz0 .i64 .i64 n n (xgf _) (by rw[hz2];omega) (by omega) W;rw[this,hz1,zQP]
theorem jQ.made(w:World)(xs:List Nat):jQ (w.alloc (.cells (yS xs) tU)) w.heap.size xs:=heap_alloc_new w _
def zD5(w:World)(v:Value)(z:Int):Prop:=
 ∃neg ao n cap xs,v= .agg #[.bool neg,.slice ao n cap]/\xs.length=n/\n<=cap/\cap<=9223372036854775807/\zG w ao xs/\qO xs/\z=sgn neg (nat xs)
def zH(w:World)(v:Value)(z:Int):Prop:=
 ∃neg ao n cap xs,v= .agg #[.bool neg,.slice ao n cap]/\xs.length=n/\n<=cap/\cap<=9223372036854775807/\zG w ao xs/\qO xs/\z=sgn neg (nat xs)/\(n=0->neg=false)
theorem zH.weak{w:World}{v:Value}{z:Int}(h:zH w v z):zD5 w v z:=by
 obtain⟨neg,ao,n,cap,xs,h1,h2,h3,h4,h5,h6,h7,_⟩:=h;exact⟨neg,ao,n,cap,xs,h1,h2,h3,h4,h5,h6,h7⟩
theorem zD5.ext{w w':World}{v:Value}{z:Int}(h:zD5 w v z)(e:yI w w'):zD5 w' v z:=by
 obtain⟨neg,ao,n,cap,xs,h1,h2,h3,h4,h5,h6⟩:=h;exact⟨neg,ao,n,cap,xs,h1,h2,h3,h4,h5.ext e,h6⟩
theorem zH.ext{w w':World}{v:Value}{z:Int}(h:zH w v z)(e:yI w w'):zH w' v z:=by
 obtain⟨neg,ao,n,cap,xs,h1,h2,h3,h4,h5,h6⟩:=h;exact⟨neg,ao,n,cap,xs,h1,h2,h3,h4,h5.ext e,h6⟩
theorem zH.below{w w':World}{B:Nat}{v:Value}{z:Int}(h:zH w v z)(hb:Below B w w')(hB:w.heap.size<=B):zH w' v z:=h.ext (yI.below hb hB)
def Sm(z:Int):Prop:=z.natAbs<B32^LIM
theorem Sm.len{neg:Bool}{xs:List Nat}(h:Sm (sgn neg (nat xs)))(hn:qO xs):xs.length<=LIM:=by
 unfold Sm at h;rw[zZ]at h;cases hx:xs.length with
 |zero=>omega
 |succ n=>
  have h1:=zC8 hn hx;rcases Nat.lt_or_ge n LIM with h2|h2
  ·omega
  ·have:=zAZ h2;omega
theorem Sm.of_pow{z:Int}{k:Nat}(h:z.natAbs<B32^k)(hk:k<=LIM):Sm z:=Nat.lt_of_lt_of_le h (zAZ hk)
theorem Sm.mono{z y:Int}(h:Sm z)(hy:y.natAbs<=z.natAbs):Sm y:=Nat.lt_of_le_of_lt hy h
def jL(w:World)(z:Int)(e:Ending)(w':World):Prop:=∃v,e= .returned v/\zH w' v z/\Below w.heap.size w w'
def zD8(w:World)(n:Nat)(e:Ending)(w':World):Prop:=
 ∃ao len cap xs,e= .returned (.slice ao len cap)/\xs.length=len/\len<=cap/\cap<=9223372036854775807/\zG w' ao xs/\nat xs=n/\Below w.heap.size w w'
theorem zB{P:Program}{c:Code}{Q:Exit->Act->World->Prop}{a:Act}{w:World}(h:∀W0,Hid (W0=w)->Code.wp P c Q a W0):Code.wp P c Q a w:=h w rfl
theorem yJ{w:World}{a:Addr}{v:Value}(h:w.cell? a=some v):w.drew.cell? a=some v:=h
theorem zI{w w1:World}{b o:Nat}{v:Value}(h:w.cell? ⟨b,o,none⟩=some v)(hb:Below w.heap.size w w1):w1.cell? ⟨b,o,none⟩=some v:=
 (hb.cell (p:=⟨b,o,none⟩) (World.block_lt_of_cell? w _ h)).trans h
theorem zAE{w:World}{b o r i:Nat}{v u:Value}(h:w.cell? ⟨b,o,none⟩=some v)(hne:b≠r):(w.setCell ⟨r,i,none⟩ u).cell? ⟨b,o,none⟩=some v:=
 (World.cell?_setCell_other w _ _ u (fun e=>hne (by injection e with e1;exact e1.symm))).trans h
theorem nx{w W W':World}(h:Below w.heap.size w W)(hb:Below W.heap.size W W'):Below w.heap.size w W':=h.trans (hb.mono h.size)
theorem lx{w W:World}(h:Below w.heap.size w W):yI w W:=yI.below h (xgf _)
theorem dr(w:World):Below w.heap.size w w.drew:=(Below.refl _ _).drew
theorem drN(w:World)(n:Nat):Below w.heap.size w (w.drewN n):=⟨rfl,rfl,rfl,xgf _,fun _ _=>rfl⟩
def Blk(w:World)(g:Nat)(t:TypeId)(cs:Array Value):Prop:=w.heap[g]?=some (.cells cs t (0,0))
section
variable {w w':World} {g:Nat} {t:TypeId} {cs:Array Value}
theorem Blk.lt(h:Blk w g t cs):g<w.heap.size:=(Array.getElem?_eq_some_iff.1 h).1
theorem Blk.cell(h:Blk w g t cs)(i:Nat):w.cell? ⟨g,i,none⟩=cs[i]?:=cell_of_row w g i cs t (0,0) h
theorem Blk.frozen(h:Blk w g t cs)(i:Nat):w.frozen? ⟨g,i,none⟩=false:=frozen_of_row w g i cs t h
theorem Blk.new(w:World)(t:TypeId)(cs:Array Value):Blk (w.alloc (.cells cs t)) w.heap.size t cs:=heap_alloc_new w _
theorem Blk.drew(h:Blk w g t cs):Blk w.drew g t cs:=h
theorem Blk.drewN(h:Blk w g t cs)(n:Nat):Blk (w.drewN n) g t cs:=h
theorem Blk.alloc(h:Blk w g t cs)(o:Obj):Blk (w.alloc o) g t cs:=(Below.heap_alloc w o g h.lt).trans h
theorem Blk.set_(h:Blk w g t cs)(i:Nat)(u:Value):Blk (w.setCell ⟨g,i,none⟩ u) g t (cs.setIfInBounds i u):=by
 unfold Blk at h ⊢
 simp[World.setCell,Array.getElem?_modify,h]
theorem Blk.far(h:Blk w g t cs){r:Nat}(hp:g≠r)(i:Nat)(u:Value):Blk (w.setCell ⟨r,i,none⟩ u) g t cs:=(Below.heap_setCell w ⟨r,i,none⟩ u g hp).trans h
theorem Blk.below(h:Blk w g t cs)(hb:Below w.heap.size w w'):Blk w' g t cs:=(hb.block g h.lt).trans h
theorem Blk.belowB{B:Nat}(h:Blk w g t cs)(hb:Below B w w')(hg:g<B):Blk w' g t cs:=(hb.block g hg).trans h
theorem Blk.at_(e:Hid (w'=w))(h:Blk w g t cs):Blk w' g t cs:=by rw[e.out];exact h
theorem Blk.lext(h:Blk w g t cs)(hne:t≠tU)(i:Nat)(u:Value):yI w (w.setCell ⟨g,i,none⟩ u):=fun b c fz hb=>by
 have hg:b≠g:=by
  rintro rfl;unfold Blk at h;rw[h]at hb;injection hb with hb
  injection hb with _ ht
  exact hne ht
 exact(Below.heap_setCell w ⟨g,i,none⟩ u b hg).trans hb
theorem zO{B:Nat}{a:World}(h:Below B a w)(hp:B<=g)(i:Nat)(u:Value):Below B a (w.setCell ⟨g,i,none⟩ u):=h.setCell (p:=⟨g,i,none⟩) hp u
theorem Blk.two{c0 c1:Value}(h:Blk w g t #[c0,c1]):w.cell? ⟨g,0,none⟩=some c0/\w.cell? ⟨g,1,none⟩=some c1/\w.frozen? ⟨g,0,none⟩=false/\w.frozen? ⟨g,1,none⟩=false:=
 ⟨h.cell 0,h.cell 1,h.frozen 0,h.frozen 1⟩
theorem Blk.three{c0 c1 c2:Value}(h:Blk w g t #[c0,c1,c2]):w.cell? ⟨g,0,none⟩=some c0/\w.cell? ⟨g,1,none⟩=some c1/\w.cell? ⟨g,2,none⟩=some c2∧
  w.frozen? ⟨g,0,none⟩=false/\w.frozen? ⟨g,1,none⟩=false/\w.frozen? ⟨g,2,none⟩=false:=
 ⟨h.cell 0,h.cell 1,h.cell 2,h.frozen 0,h.frozen 1,h.frozen 2⟩
end
theorem Blk.put2{w:World}{r:Nat}{T:TypeId}{c0 c1:Value}(h:Blk w r T #[c0,c1])(x y:Value):Blk ((w.setCell ⟨r,0,none⟩ x).setCell ⟨r,1,none⟩ y) r T #[x,y]:=by
 simpa using(h.set_ 0 x).set_ 1 y
theorem Blk.lext2{w:World}{r:Nat}{T:TypeId}{cs:Array Value}(h:Blk w r T cs)(hne:T≠tU)(x y:Value):yI w ((w.setCell ⟨r,0,none⟩ x).setCell ⟨r,1,none⟩ y):=
 (h.lext hne 0 _).trans ((h.set_ 0 _).lext hne 1 _)
theorem Tryz.sizeI:(Tryz.prog.info? 35).map (·.size)=some 2:=by kernel_rfl
theorem zW{fn:Func}{a:Act}{w W:World}{z:Int}{r:Nat}{v:Array Value}{p:Tmp}(h:fn.results=#[.cell p 35])(hd:a.defers= [])
  (hp:a.tmps.getD p undef= .pointer (some ⟨r,0,none⟩)) (hb:Blk W r 35 v) (hv:zH W (.agg v) z) (hbel:Below w.heap.size w W):bodyPost Tryz.prog fn (jL w z) .ret a W:=by
 obtain⟨neg,ao,n,cap,xs,h1,h2⟩:=hv;injection h1 with h1
 subst h1;exact bodyPost_ret (results_cell_row h _ W r _ _ _ _ hp hb Tryz.underlying35 rfl (by rw[Tryz.sizeI];rfl)) hd ⟨_,rfl,⟨neg,ao,n,cap,xs,rfl,h2⟩,hbel⟩
section
variable {w W0:World} {T1 T2 T3 T4 T5:TypeId} {A B C D E:Array Value}
theorem zK(h:Hid (W0=w.alloc (.cells A T1))):Below w.heap.size w W0/\Blk W0 w.heap.size T1 A/\w.heap.size<W0.heap.size:=by
 rw[h.out];exact⟨(Below.refl _ _).alloc (xgf _) _,Blk.new _ _ _,by simp⟩
theorem qH(h:Hid (W0=(w.alloc (.cells A T1)).alloc (.cells B T2))):Below w.heap.size w W0/\Blk W0 w.heap.size T1 A/\Blk W0 (w.heap.size+1) T2 B/\w.heap.size+1<W0.heap.size:=by
 obtain⟨h1,h2,h3⟩:=zK (w:=w.alloc (.cells A T1)) (W0:=W0) (A:=B) (T1:=T2) h;obtain⟨k1,k2,k3⟩:=zK (w:=w) (W0:=w.alloc (.cells A T1)) (A:=A) (T1:=T1) rfl;simp only[World.size_alloc]at h2 h3;exact⟨nx k1 h1,k2.below h1,h2,h3⟩
theorem yO(h:Hid (W0=((w.alloc (.cells A T1)).alloc (.cells B T2)).alloc (.cells C T3))):
  Below w.heap.size w W0/\Blk W0 w.heap.size T1 A/\Blk W0 (w.heap.size+1) T2 B/\Blk W0 (w.heap.size+1+1) T3 C/\w.heap.size+1+1<W0.heap.size:=by
 obtain⟨h1,h2,h3⟩:=zK (w:=(w.alloc (.cells A T1)).alloc (.cells B T2)) (W0:=W0) h;obtain⟨k1,k2,k3,k4⟩:=qH (w:=w) (W0:=(w.alloc (.cells A T1)).alloc (.cells B T2)) rfl;simp only[World.size_alloc]at h2 h3;exact⟨nx k1 h1,k2.below h1,k3.below h1,h2,h3⟩
theorem zFn(h:Hid (W0=(((w.alloc (.cells A T1)).alloc (.cells B T2)).alloc (.cells C T3)).alloc (.cells D T4))):
  Below w.heap.size w W0/\Blk W0 w.heap.size T1 A/\Blk W0 (w.heap.size+1) T2 B/\Blk W0 (w.heap.size+1+1) T3 C/\Blk W0 (w.heap.size+1+1+1) T4 D/\w.heap.size+1+1+1<W0.heap.size:=by
 obtain⟨h1,h2,h3⟩:=zK (w:=((w.alloc (.cells A T1)).alloc (.cells B T2)).alloc (.cells C T3)) (W0:=W0) h;obtain⟨k1,k2,k3,k4,k5⟩:=yO (w:=w) (W0:=((w.alloc (.cells A T1)).alloc (.cells B T2)).alloc (.cells C T3)) rfl;simp only[World.size_alloc]at h2 h3;exact⟨nx k1 h1,k2.below h1,k3.below h1,k4.below h1,h2,h3⟩
theorem zPt(h:Hid (W0=((((w.alloc (.cells A T1)).alloc (.cells B T2)).alloc (.cells C T3)).alloc (.cells D T4)).alloc (.cells E T5))):
  Below w.heap.size w W0/\Blk W0 w.heap.size T1 A/\Blk W0 (w.heap.size+1) T2 B/\Blk W0 (w.heap.size+1+1) T3 C/\Blk W0 (w.heap.size+1+1+1) T4 D/\Blk W0 (w.heap.size+1+1+1+1) T5 E/\w.heap.size+1+1+1+1<W0.heap.size:=by
 obtain⟨h1,h2,h3⟩:=zK (w:=(((w.alloc (.cells A T1)).alloc (.cells B T2)).alloc (.cells C T3)).alloc (.cells D T4)) (W0:=W0) h;obtain⟨k1,k2,k3,k4,k5,k6⟩:=zFn (w:=w) (W0:=(((w.alloc (.cells A T1)).alloc (.cells B T2)).alloc (.cells C T3)).alloc (.cells D T4)) rfl;simp only[World.size_alloc]at h2 h3;exact⟨nx k1 h1,k2.below h1,k3.below h1,k4.below h1,k5.below h1,h2,h3⟩
end
theorem jI(ao:Option Addr)(n cap:Nat)(xs:List Nat)(w:World)(hn:xs.length=n)(hl:n<=cap)(hcap:cap<=9223372036854775807)(hx:zG w ao xs):
  Calls Tryz.prog 224 #[.slice ao n cap] w fun e w'=>
   e= .returned (.slice ao (qS xs n) (qS xs n))/\w=w':=by
 have HN:=Lib.hid hn;have hle:=zAp xs n;have hlen:xs.length<=n:=by omega
 have hlen':n<=xs.length:=by omega
 clear hn;go_enter Tryz.func224,Tryz.ntmps224;go_wp2;go_step3;go_wp2;go_step3;go_wp2;go_loop [3] (fun v=>∃k:Nat,k<=n/\v= .int .i64 k/\Hid (qS xs k=qS xs n)) (fun v=>(intOf v).toNat)
 case atStart=>exact⟨n,xgf _,rfl,rfl⟩
 case round=>
  obtain⟨k,hk,rfl,ht⟩:=hrel;cases k with
  |zero=>
   have e:qS xs n=0:=ht.out.symm;go_wp2;go_ret;exact⟨by simp[e],rfl⟩
  | succ k=>
   obtain⟨b,off,x,rfl,_,hx32,HX,hck⟩:=hx.limb (k:=k) oM;by_cases hz:x=0
   ·have ht':Hid (qS xs k=qS xs n):=by
     have:=ht.out;rw[show qS xs (k+1)=if xs.getD k 0=0 then qS xs k else k+1 from rfl,if_pos (HX.out.trans hz)]at this;exact this
    subst hz;clear ht;go_wp2;go_round
    case rel=>exact⟨k,by omega,by go_num,ht'⟩
    case measure=>simp[intOf]
   ·have ht':Hid (qS xs n=k+1):=by
     have:=ht.out;rw[show qS xs (k+1)=if xs.getD k 0=0 then qS xs k else k+1 from rfl,if_neg (by rw[HX.out];exact hz)]at this;exact this.symm
    have hzz:((x:Int)==0)=false:=by simpa using hz
    clear hz ht;go_wp2;go_ret;exact⟨by simp[ht'.out],rfl⟩
theorem zI0(ao1 ao2:Option Addr)(n1 cap1 n2 cap2:Nat)(xs ys:List Nat)(w:World)(hn1:xs.length=n1)(hn2:ys.length=n2)(hl1:n1<=cap1)(hl2:n2<=cap2)
  (hc1:cap1<=9223372036854775807) (hc2:cap2<=9223372036854775807) (hb1:n1<=4*LIM) (hb2:n2<=4*LIM) (hx1:zG w ao1 xs) (hx2:zG w ao2 ys):
  Calls Tryz.prog 225 #[.slice ao1 n1 cap1,.slice ao2 n2 cap2] w (zD8 w (nat xs+nat ys)):=by
 have HN1:=Lib.hid hn1;have HN2:=Lib.hid hn2;have hlen1:xs.length<=n1:=by omega
 have hlen1':n1<=xs.length:=by omega
 have hlen2:ys.length<=n2:=by omega
 have hlen2':n2<=ys.length:=by omega
 clear hn1 hn2;rw[qW]at hb1 hb2;by_cases hlt:n1<n2
 case pos=>
  have hle:n1<=n2:=by omega
  have hmk:=fun W=>mkU ((n2:Int)+1) (n2+1) oM oM W
  go_enter Tryz.func225,Tryz.ntmps225;go_wp2;clear hmk;go_loopw [6,21] (fun c i wr=>∃(k d:Nat) (zs:List Nat),k<=n2/\i= .int .i64 k/\c= .int .u64 d/\d<=1/\jQ wr w.heap.size zs/\Below w.heap.size w wr/\n2<zs.length∧
    Hid (zs.length=n2+1/\qT zs/\nat (zs.take k)+d*B32^k=nat (ys.take k)+nat (xs.take k))) (fun _ i _=>n2-(intOf i).toNat)
  case atStart=>exact⟨0,0,List.replicate (n2+1) 0,by omega,rfl,rfl,by omega,jQ.made _ _,(Below.refl _ _).alloc (xgf _) _,by simp,⟨by simp,fun x hx=>by rw[List.eq_of_mem_replicate hx];exact yZ,by simp⟩⟩
  case round=>
   obtain⟨k,d,zs,hk,rfl,rfl,hd,hblk,hbel,hlz,HH⟩:=hrel;have hfr:=hblk.frozen k;by_cases hkn:k<n2
   ·obtain⟨b,off,x,rfl,hbw,hx32,HX,hck⟩:=hx2.limb (k:=k) oM
    have hck':=(hbel.cell (p:=⟨b,off+k,none⟩) hbw).trans hck;have hcz:=hblk.cell (k:=k) oM;clear hck;by_cases hk2:k<n1
    ·obtain⟨b2,off2,y,rfl,hbw2,hy32,HY,hcy⟩:=hx1.limb (k:=k) oM
     have hcy':=(hbel.cell (p:=⟨b2,off2+k,none⟩) hbw2).trans hcy;clear hcy;go_wp2;go_roundw
     case rel=>exact⟨k+1,(d+x+y)/4294967296,zs.set k ((d+x+y)%4294967296),by omega,by go_num,by go_num,by omega,hblk.set' _ _ _ oM,hbel.setCell (xgf _) _,by simpa using hlz,
       ⟨by simpa using HH.out.1,HH.out.2.1.set _ _ (Nat.mod_lt _ oM),zB5 HH.out.2.2 oM HX.out HY.out⟩⟩
     case measure=>simp[intOf];omega
    ·have HY:xs.getD k 0=0:=by rw[xgb,List.getElem?_eq_none oM];rfl
     have HY':=Lib.hid HY;clear HY;go_wp2;go_roundw
     case rel=>exact⟨k+1,(d+x)/4294967296,zs.set k ((d+x)%4294967296),by omega,by go_num,by go_num,by omega,hblk.set' _ _ _ oM,hbel.setCell (xgf _) _,by simpa using hlz,
       ⟨by simpa using HH.out.1,HH.out.2.1.set _ _ (Nat.mod_lt _ oM),zB5 HH.out.2.2 oM HX.out HY'.out⟩⟩
     case measure=>simp[intOf];omega
   ·obtain rfl:n2=k:=by omega
    have hcz:=hblk.cell (k:=n2) oM;go_wp2;go_ret;refine⟨_,_,_,zs.set n2 d,rfl,by simpa using HH.out.1,by omega,by omega,(hblk.set' _ _ d oM).at_ (HH.out.2.1.set _ _ (by unfold B32;omega)),?_,hbel.setCell (xgf _) _⟩;have h1:=HH.out.2.2;have h2:=yU zs n2 d hlz;rw[zJ _ (by simp[HH.out.1]),h1,zJ ys oM,zJ xs oM]at h2;omega
 case neg=>
  have hle:n2<=n1:=by omega
  have hmk:=fun W=>mkU ((n1:Int)+1) (n1+1) oM oM W
  go_enter Tryz.func225,Tryz.ntmps225;go_wp2;clear hmk;go_loopw [6,21] (fun c i wr=>∃(k d:Nat) (zs:List Nat),k<=n1/\i= .int .i64 k/\c= .int .u64 d/\d<=1/\jQ wr w.heap.size zs/\Below w.heap.size w wr/\n1<zs.length∧
    Hid (zs.length=n1+1/\qT zs/\nat (zs.take k)+d*B32^k=nat (xs.take k)+nat (ys.take k))) (fun _ i _=>n1-(intOf i).toNat)
  case atStart=>exact⟨0,0,List.replicate (n1+1) 0,by omega,rfl,rfl,by omega,jQ.made _ _,(Below.refl _ _).alloc (xgf _) _,by simp,⟨by simp,fun x hx=>by rw[List.eq_of_mem_replicate hx];exact yZ,by simp⟩⟩
  case round=>
   obtain⟨k,d,zs,hk,rfl,rfl,hd,hblk,hbel,hlz,HH⟩:=hrel;have hfr:=hblk.frozen k;by_cases hkn:k<n1
   ·obtain⟨b,off,x,rfl,hbw,hx32,HX,hck⟩:=hx1.limb (k:=k) oM
    have hck':=(hbel.cell (p:=⟨b,off+k,none⟩) hbw).trans hck;have hcz:=hblk.cell (k:=k) oM;clear hck;by_cases hk2:k<n2
    ·obtain⟨b2,off2,y,rfl,hbw2,hy32,HY,hcy⟩:=hx2.limb (k:=k) oM
     have hcy':=(hbel.cell (p:=⟨b2,off2+k,none⟩) hbw2).trans hcy;clear hcy;go_wp2;go_roundw
     case rel=>exact⟨k+1,(d+x+y)/4294967296,zs.set k ((d+x+y)%4294967296),by omega,by go_num,by go_num,by omega,hblk.set' _ _ _ oM,hbel.setCell (xgf _) _,by simpa using hlz,
       ⟨by simpa using HH.out.1,HH.out.2.1.set _ _ (Nat.mod_lt _ oM),zB5 HH.out.2.2 oM HX.out HY.out⟩⟩
     case measure=>simp[intOf];omega
    ·have HY:ys.getD k 0=0:=by rw[xgb,List.getElem?_eq_none oM];rfl
     have HY':=Lib.hid HY;clear HY;go_wp2;go_roundw
     case rel=>exact⟨k+1,(d+x)/4294967296,zs.set k ((d+x)%4294967296),by omega,by go_num,by go_num,by omega,hblk.set' _ _ _ oM,hbel.setCell (xgf _) _,by simpa using hlz,
       ⟨by simpa using HH.out.1,HH.out.2.1.set _ _ (Nat.mod_lt _ oM),zB5 HH.out.2.2 oM HX.out HY'.out⟩⟩
     case measure=>simp[intOf];omega
   ·obtain rfl:n1=k:=by omega
    have hcz:=hblk.cell (k:=n1) oM;go_wp2;go_ret;refine⟨_,_,_,zs.set n1 d,rfl,by simpa using HH.out.1,by omega,by omega,(hblk.set' _ _ d oM).at_ (HH.out.2.1.set _ _ (by unfold B32;omega)),?_,hbel.setCell (xgf _) _⟩;have h1:=HH.out.2.2;have h2:=yU zs n1 d hlz;rw[zJ _ (by simp[HH.out.1]),h1,zJ xs oM,zJ ys oM]at h2;omega
theorem zCF(a b:Int)(w:World):
  Calls Tryz.prog 238 #[.int .i64 a,.int .i64 b] w fun e w'=>e= .returned (.int .i64 (qJ a b))/\w=w':=by
 by_cases h1:a<b
 ·have h1':¬ b<a:=by omega
  have e:qJ a b=-1:=by unfold qJ;rw[if_pos h1]
  have E:=Lib.hid e;clear e;go_enter Tryz.func238,Tryz.ntmps238;go_wp2_with (go_in)
  go_ret;exact⟨by rw[E.out];rfl,rfl⟩
 ·by_cases h2:b<a
  ·have e:qJ a b=1:=by unfold qJ;rw[if_neg h1,if_pos h2]
   have E:=Lib.hid e;clear e;go_enter Tryz.func238,Tryz.ntmps238;go_wp2_with (go_in)
   go_ret;exact⟨by rw[E.out];rfl,rfl⟩
  ·have e:qJ a b=0:=by unfold qJ;rw[if_neg h1,if_neg h2]
   have E:=Lib.hid e;clear e;go_enter Tryz.func238,Tryz.ntmps238;go_wp2_with (go_in)
   go_ret;exact⟨by rw[E.out];rfl,rfl⟩
theorem zJN(a b:Int)(w:World):
  Calls Tryz.prog 262 #[.int .u32 a,.int .u32 b] w fun e w'=>e= .returned (.int .i64 (qJ a b))/\w=w':=by
 by_cases h1:a<b
 ·have h1':¬ b<a:=by omega
  have e:qJ a b=-1:=by unfold qJ;rw[if_pos h1]
  have E:=Lib.hid e;clear e;go_enter Tryz.func262,Tryz.ntmps262;go_wp2_with (go_in)
  go_ret;exact⟨by rw[E.out];rfl,rfl⟩
 ·by_cases h2:b<a
  ·have e:qJ a b=1:=by unfold qJ;rw[if_neg h1,if_pos h2]
   have E:=Lib.hid e;clear e;go_enter Tryz.func262,Tryz.ntmps262;go_wp2_with (go_in)
   go_ret;exact⟨by rw[E.out];rfl,rfl⟩
  ·have e:qJ a b=0:=by unfold qJ;rw[if_neg h1,if_neg h2]
   have E:=Lib.hid e;clear e;go_enter Tryz.func262,Tryz.ntmps262;go_wp2_with (go_in)
   go_ret;exact⟨by rw[E.out];rfl,rfl⟩
theorem zEW(a b c:Int)(w:World)(h:qJ a b=c):
  Calls Tryz.prog 262 #[.int .u32 a,.int .u32 b] w fun e w'=>e= .returned (.int .i64 c)/\w'=w:=
 (zJN a b w).mono fun _ _ ⟨he,hw⟩=>⟨by rw[he,h],hw.symm⟩
theorem yV{a b:Int}(h:a<b):qJ a b=-1:=by unfold qJ;rw[if_pos h]
theorem jG{a b:Int}(h:b<a):qJ a b=1:=by unfold qJ;rw[if_neg oM,if_pos h]
theorem zAA{a b:Int}(h:a=b):qJ a b=0:=by unfold qJ;rw[if_neg oM,if_neg oM]
theorem zAK(ao1 ao2:Option Addr)(n1 cap1 n2 cap2:Nat)(xs ys:List Nat)(w:World)(hn1:xs.length=n1)(hn2:ys.length=n2)(hl1:n1<=cap1)(hl2:n2<=cap2)
  (hc1:cap1<=9223372036854775807) (hc2:cap2<=9223372036854775807) (hx1:zG w ao1 xs) (hx2:zG w ao2 ys) (hN1:qO xs) (hN2:qO ys):
  Calls Tryz.prog 226 #[.slice ao1 n1 cap1,.slice ao2 n2 cap2] w fun e w'=>e= .returned (.int .i64 (qJ (nat xs) (nat ys)))/\∃q,w'=w.drewN q:=by
 have HN1:=Lib.hid hn1;have HN2:=Lib.hid hn2;by_cases hne:n1=n2
 ·subst hne
  have ec:((qJ (n1:Int) (n1:Int)) !=0)=false:=by unfold qJ;simp
  have hlen1:xs.length<=n1:=by omega
  have hlen1':n1<=xs.length:=by omega
  have hlen2:ys.length<=n1:=by omega
  have hlen2':n1<=ys.length:=by omega
  clear hn1 hn2;go_enter Tryz.func226,Tryz.ntmps226;go_wp2_with (go_at_call 238;refine(zCF _ _ _).mono ?_;rintro e w' ⟨rfl,rfl⟩)
  clear ec;go_loopw [6] (fun i wr=>∃k q:Nat,k<=n1/\i= .int .i64 ((k:Int)-1)/\Hid (xs.drop k=ys.drop k)/\Hid (wr=w.drewN q)) (fun i _=>(intOf i+1).toNat)
  case atStart=>exact⟨n1,0,xgf _,rfl,by show _=_;rw[List.drop_eq_nil_of_le oM,List.drop_eq_nil_of_le oM],rfl⟩
  case round=>
   obtain⟨k,q,hk,rfl,HD,HW⟩:=hrel;cases k with
   | zero=>
    have e0:qJ (nat xs:Int) (nat ys:Int)=0:=by
     have:xs=ys:=by simpa using HD.out
     subst this;unfold qJ;simp
    have E:=Lib.hid e0;clear e0;go_wp2;go_ret;exact⟨by rw[E.out];rfl,_,HW.out⟩
   | succ k=>
    obtain⟨b,off,x,rfl,hbw,hx32,HX,hck⟩:=hx1.limb (k:=k) oM;obtain⟨b2,off2,y,rfl,hbw2,hy32,HY,hcy⟩:=hx2.limb (k:=k) oM;have hck':wr.cell? ⟨b,off+k,none⟩=some (.int .u32 (x:Nat)):=by rw[HW.out];exact hck
    have hcy':wr.cell? ⟨b2,off2+k,none⟩=some (.int .u32 (y:Nat)):=by rw[HW.out];exact hcy
    have ek:IntKind.i64.wrap ((k:Int)+1-1)=k:=by rw[IntWalk.i64_in _ oM];omega
    clear hck hcy;rcases Nat.lt_trichotomy x y with hxy|hxy|hxy
    ·have E:Hid (qJ (nat xs) (nat ys)=-1):=yV (by have:=zIe hx1.1 oM oM HD.out HX.out HY.out hxy;omega)
     have hcall:=fun W=>zEW x y (-1) W (yV oM)
     go_wp2;go_quiet ((go_at_call 262;exact Calls.quiet_of_same (hcall _)));go_wp2;go_ret;exact⟨by rw[E.out];rfl,_,by rw[HW.out,World.drewN_drewN]⟩
    ·subst hxy
     have HD':Hid (xs.drop k=ys.drop k):=by
      show _=_;rw[List.drop_eq_getElem_cons (l:=xs) (i:=k) oM,List.drop_eq_getElem_cons (l:=ys) (i:=k) oM,HD.out];have h1:=HX.out;have h2:=HY.out;rw[xgb,xga oM]at h1 h2;simp at h1 h2;rw[h1,h2]
     have hcall:=fun W=>zEW x x 0 W (zAA rfl)
     clear HD HX HY;go_wp2;go_quiet ((go_at_call 262;exact Calls.quiet_of_same (hcall _)));go_wp2;go_roundw
     case rel=>exact⟨k,_,by omega,by go_num,HD',by show _=_;rw[HW.out,World.drewN_drewN]⟩
     case measure=>simp[intOf]
    ·have E:Hid (qJ (nat xs) (nat ys)=1):=jG (by have:=zIe hx2.1 oM oM HD.out.symm HY.out HX.out hxy;omega)
     have hcall:=fun W=>zEW x y 1 W (jG oM)
     go_wp2;go_quiet ((go_at_call 262;exact Calls.quiet_of_same (hcall _)));go_wp2;go_ret;exact⟨by rw[E.out];rfl,_,by rw[HW.out,World.drewN_drewN]⟩
 ·rcases Nat.lt_or_gt_of_ne hne with h|h
  ·have e1:qJ (n1:Int) (n2:Int)=-1:=yV oM
   have E:Hid (qJ (nat xs) (nat ys)=-1):=yV (by have:=zFt hx1.1 hN2 oM;omega);have hcall:=fun W=>(zCF n1 n2 W)
   rw[e1]at hcall;clear e1;go_enter Tryz.func226,Tryz.ntmps226;go_wp2_with (go_at_call 238;refine(hcall _).mono ?_;rintro e w' ⟨rfl,rfl⟩)
   go_ret;exact⟨by rw[E.out];rfl,0,rfl⟩
  ·have e1:qJ (n1:Int) (n2:Int)=1:=jG oM
   have E:Hid (qJ (nat xs) (nat ys)=1):=jG (by have:=zFt hx2.1 hN1 oM;omega);have hcall:=fun W=>(zCF n1 n2 W)
   rw[e1]at hcall;clear e1;go_enter Tryz.func226,Tryz.ntmps226;go_wp2_with (go_at_call 238;refine(hcall _).mono ?_;rintro e w' ⟨rfl,rfl⟩)
   go_ret;exact⟨by rw[E.out];rfl,0,rfl⟩
theorem zDa{xs ys zs:List Nat}{k d x y v e:Nat}(h:nat (zs.take k)+nat (ys.take k)=nat (xs.take k)+d*B32^k)(hk:k<zs.length)
  (hx:xs.getD k 0=x) (hy:ys.getD k 0=y) (hv:v+y+d=x+e*4294967296):
  nat ((zs.set k v).take (k+1))+nat (ys.take (k+1))=nat (xs.take (k+1))+e*B32^(k+1):=by
 rw[yU _ _ _ hk,zR,zR,hx,hy,Nat.pow_succ,yQ];rw[yQ]at h;generalize 4294967296^k=p at*;have e1:(v+y+d)*p=(x+e*4294967296)*p:=by rw[hv]
 rw[Nat.add_mul,Nat.add_mul,Nat.add_mul,Nat.mul_assoc,Nat.mul_comm 4294967296 p]at e1;omega
theorem zJ0(x y d:Nat)(hx:x<4294967296)(hy:y<4294967296)(hd:d<=1):
  ∃v e:Nat,IntKind.u32.wrap (IntKind.u64.wrap (IntKind.u64.wrap ((x:Int)-d)-y))=v/\IntKind.u64.wrap (IntKind.u64.wrap ((x:Int)-d)-y)/9223372036854775808=e/\v<4294967296/\e<=1/\v+y+d=x+e*4294967296:=by
 simp only[IntKind.wrap_u64,IntKind.wrap_u32];by_cases h:y+d<=x
 ·exact⟨x-d-y,0,by omega,by omega,by omega,by omega,by omega⟩
 ·exact⟨x+4294967296-d-y,1,by omega,by omega,by omega,by omega,by omega⟩
theorem zIT(x d:Nat)(hx:x<4294967296)(hd:d<=1):
  ∃v e:Nat,IntKind.u32.wrap (IntKind.u64.wrap ((x:Int)-d))=v/\IntKind.u64.wrap ((x:Int)-d)/9223372036854775808=e/\v<4294967296/\e<=1/\v+0+d=x+e*4294967296:=by
 simp only[IntKind.wrap_u64,IntKind.wrap_u32];by_cases h:d<=x
 ·exact⟨x-d,0,by omega,by omega,by omega,by omega,by omega⟩
 ·exact⟨x+4294967296-d,1,by omega,by omega,by omega,by omega,by omega⟩
theorem zEg(ao1 ao2:Option Addr)(n1 cap1 n2 cap2:Nat)(xs ys:List Nat)(w:World)(hn1:xs.length=n1)(hn2:ys.length=n2)(hl1:n1<=cap1)(hl2:n2<=cap2)
  (hc1:cap1<=9223372036854775807) (hc2:cap2<=9223372036854775807) (hb1:n1<=4*LIM) (hx1:zG w ao1 xs) (hx2:zG w ao2 ys) (hle:n2<=n1) (hval:nat ys<=nat xs):
  Calls Tryz.prog 227 #[.slice ao1 n1 cap1,.slice ao2 n2 cap2] w (zD8 w (nat xs-nat ys)):=by
 have HN1:=Lib.hid hn1;have HN2:=Lib.hid hn2;have HV:=Lib.hid hval;have hlen1:xs.length<=n1:=by omega
 have hlen1':n1<=xs.length:=by omega
 have hlen2:ys.length<=n2:=by omega
 have hlen2':n2<=ys.length:=by omega
 clear hn1 hn2 hval;rw[qW]at hb1;have hmk:=fun W=>mkU (n1:Int) n1 oM oM W
 go_enter Tryz.func227,Tryz.ntmps227;go_wp2;clear hmk;go_loopw [6,14] (fun c i wr=>∃(k d:Nat) (zs:List Nat),k<=n1/\i= .int .i64 k/\c= .int .u64 d/\d<=1/\jQ wr w.heap.size zs/\Below w.heap.size w wr/\n1<=zs.length∧
   Hid (zs.length=n1/\qT zs/\nat (zs.take k)+nat (ys.take k)=nat (xs.take k)+d*B32^k)) (fun _ i _=>n1-(intOf i).toNat)
 case atStart=>exact⟨0,0,List.replicate n1 0,by omega,rfl,rfl,by omega,jQ.made _ _,(Below.refl _ _).alloc (xgf _) _,by simp,⟨by simp,fun x hx=>by rw[List.eq_of_mem_replicate hx];exact yZ,by simp⟩⟩
 case round=>
  obtain⟨k,d,zs,hk,rfl,rfl,hd,hblk,hbel,hlz,HH⟩:=hrel;have hfr:=hblk.frozen k;by_cases hkn:k<n1
  ·obtain⟨b,off,x,rfl,hbw,hx32,HX,hck⟩:=hx1.limb (k:=k) oM
   have hck':=(hbel.cell (p:=⟨b,off+k,none⟩) hbw).trans hck;have hcz:=hblk.cell (k:=k) oM;clear hck;by_cases hk2:k<n2
   ·obtain⟨b2,off2,y,rfl,hbw2,hy32,HY,hcy⟩:=hx2.limb (k:=k) oM
    have hcy':=(hbel.cell (p:=⟨b2,off2+k,none⟩) hbw2).trans hcy;clear hcy;go_wp2;go_roundw;obtain⟨v,e,e1,e2,e3,e4,e5⟩:=zJ0 x y d hx32 hy32 hd
    case rel=>exact⟨k+1,e,zs.set k v,by omega,by go_num,by rw[e2],by omega,hblk.set' _ _ v (by first|exact e1|omega),hbel.setCell (xgf _) _,by simpa using hlz,
      ⟨by simpa using HH.out.1,HH.out.2.1.set _ _ e3,zDa HH.out.2.2 oM HX.out HY.out e5⟩⟩
    case measure=>simp[intOf];omega
   ·have HY:ys.getD k 0=0:=by rw[xgb,List.getElem?_eq_none oM];rfl
    have HY':=Lib.hid HY;clear HY;go_wp2;go_roundw;obtain⟨v,e,e1,e2,e3,e4,e5⟩:=zIT x d hx32 hd
    case rel=>exact⟨k+1,e,zs.set k v,by omega,by go_num,by rw[e2],by omega,hblk.set' _ _ v (by first|exact e1|omega),hbel.setCell (xgf _) _,by simpa using hlz,
      ⟨by simpa using HH.out.1,HH.out.2.1.set _ _ e3,zDa HH.out.2.2 oM HX.out HY'.out e5⟩⟩
    case measure=>simp[intOf];omega
  ·obtain rfl:n1=k:=by omega
   go_wp2;go_ret;have h1:=HH.out.2.2;rw[zJ xs hlen1,zJ ys oM,zJ zs (by rw[HH.out.1];omega)]at h1;have h2:=jZ HH.out.2.1;rw[HH.out.1]at h2;have h3:=HV.out;refine⟨_,_,_,zs,rfl,HH.out.1,by omega,by omega,hblk.at_ HH.out.2.1,?_,hbel⟩;generalize B32^n1=p at h1 h2;have h4:d=0∨d=1:=by omega
   rcases h4 with rfl|rfl<;>omega
theorem zDl{ys zs zs0:List Nat}{i k c x y z:Nat}(h:nat (zs.take (i+k))+c*B32^(i+k)=nat (zs0.take (i+k))+x*B32^i*nat (ys.take k))(hk:i+k<zs.length)
    (hy:ys.getD k 0=y) (hz:zs.getD (i+k) 0=z) (hz0:zs0.getD (i+k) 0=z):
    nat ((zs.set (i+k) ((c+(x*y+z))%4294967296)).take (i+(k+1)))+(c+(x*y+z))/4294967296*B32^(i+(k+1))=nat (zs0.take (i+(k+1)))+x*B32^i*nat (ys.take (k+1)):=by
  rw[show i+(k+1)=i+k+1 from rfl,yU _ _ _ hk,zR zs0,zR ys,hy,hz0,Nat.mul_add,Nat.pow_succ,yQ];rw[yQ]at h;have e1:x*4294967296^i*(y*4294967296^k)=x*y*4294967296^(i+k):=by rw[Nat.pow_add];simp only[Nat.mul_assoc,Nat.mul_comm,Nat.mul_left_comm]
  rw[e1];generalize 4294967296^(i+k)=p at*;generalize x*4294967296^i*nat (ys.take k)=t at*;generalize x*y=m at*;have e:=Nat.div_add_mod (c+(m+z)) 4294967296;generalize (c+(m+z))/4294967296=q at*;generalize (c+(m+z))%4294967296=r at*;have e2:r*p+q*(p*4294967296)=(c+(m+z))*p:=by rw[<-e,Nat.add_mul,Nat.mul_comm 4294967296 q,Nat.mul_assoc,Nat.mul_comm 4294967296 p,Nat.add_comm]
  rw[Nat.add_mul,Nat.add_mul]at e2;omega
theorem zC4{x y:Nat}(hx:x<4294967296)(hy:y<4294967296):x*y<=18446744065119617025:=by
  have h1:x*y<=4294967295*4294967295:=Nat.mul_le_mul oM oM;omega
theorem zC5{x y:Nat}(hx:x<4294967296)(hy:y<4294967296):(x:Int)*(y:Int)<=18446744065119617025/\0<=(x:Int)*(y:Int):=by
  have h:=zC4 hx hy;rw[<-Int.natCast_mul];generalize x*y=m at*;omega
theorem zBH{xs ys:List Nat}{k:Nat}(h:xs.drop k=ys.drop k){j:Nat}(hj:k<=j):xs.getD j 0=ys.getD j 0:=by
  have:=congrArg (fun l=>l.getD (j-k) 0) h;simp only[xgb,List.getElem?_drop]at this;rw[show k+(j-k)=j by omega]at this;simpa[xgb]using this
theorem zAV(zs:List Nat)(k v:Nat):(zs.set k v).drop (k+1)=zs.drop (k+1):=by
  rw[List.drop_set_of_lt oM]
theorem zB1{xs ys:List Nat}{k:Nat}(h:xs.drop k=ys.drop k):xs.drop (k+1)=ys.drop (k+1):=by
  have:=congrArg List.tail h;simpa using this
theorem zLs (ao1 ao2:Option Addr)(n1 cap1 n2 cap2:Nat)(xs ys:List Nat)(w:World)(hn1:xs.length=n1)(hn2:ys.length=n2)
    (hb1:n1<=4*LIM) (hb2:n2<=4*LIM) (hx1:zG w ao1 xs) (hx2:zG w ao2 ys):
    Calls Tryz.prog 243 #[.slice ao1 n1 cap1,.slice ao2 n2 cap2] w (zD8 w (nat xs*nat ys)):=by
  have HN1:=Lib.hid hn1;have HN2:=Lib.hid hn2;have hlen1:xs.length<=n1:=by omega
  have hlen1':n1<=xs.length:=by omega
  have hlen2:ys.length<=n2:=by omega
  have hlen2':n2<=ys.length:=by omega
  clear hn1 hn2;rw[qW]at hb1 hb2;have hmk:=fun W=>mkU ((n1:Int)+n2) (n1+n2) oM oM W
  go_enter Tryz.func243,Tryz.ntmps243;go_wp2;clear hmk;go_loopw [19] (fun i wr=>∃(k:Nat) (zs:List Nat),k<=n1/\i= .int .i64 k/\jQ wr w.heap.size zs/\Below w.heap.size w wr/\n1+n2<=zs.length∧
      Hid (zs.length=n1+n2/\qT zs/\nat (zs.take (k+n2))=nat (xs.take k)*nat ys)) (fun i _=>n1-(intOf i).toNat)
  case atStart=>exact⟨0,List.replicate (n1+n2) 0,by omega,rfl,jQ.made _ _,(Below.refl _ _).alloc (xgf _) _,by simp,⟨by simp,fun x hx=>by rw[List.eq_of_mem_replicate hx];exact yZ,by
    have:∀m,nat (List.replicate m 0)=0:=fun m=>by induction m with
      |zero=>rfl
      |succ m ih=>rw[List.replicate_succ,yN,ih];rfl
    rw[List.take_replicate,this];simp⟩⟩
  case round=>
    obtain⟨k,zs0,hk,rfl,hblk0,hbel0,hlz0,HH0⟩:=hrel;obtain⟨wo,rfl⟩:∃wo:World,wo=wr:=⟨_,rfl⟩;by_cases hkn:k<n1
    · obtain ⟨b,off,x,rfl,hbw,hx32,HX,hck⟩:=hx1.limb (k:=k) oM
      have hck':=(hbel0.cell (p:=⟨b,off+k,none⟩) hbw).trans hck;clear hck;go_wp2;go_loopw [8,26] (fun cv i wr=>∃(j c:Nat) (zs:List Nat),j<=n2/\i= .int .i64 j/\cv= .int .u64 c/\c<4294967296/\jQ wr w.heap.size zs/\Below w.heap.size w wr/\n1+n2<=zs.length∧
          Hid (zs.length=n1+n2/\qT zs/\zs.drop (k+j)=zs0.drop (k+j)/\nat (zs.take (k+j))+c*B32^(k+j)=nat (zs0.take (k+j))+x*B32^k*nat (ys.take j))) (fun _ i _=>n2-(intOf i).toNat)
      case atStart=>exact⟨0,0,zs0,by omega,rfl,rfl,by omega,hblk0,hbel0,hlz0,⟨HH0.out.1,HH0.out.2.1,rfl,by simp⟩⟩
      case round=>
        obtain⟨j,c,zs,hj,rfl,rfl,hc,hblk,hbel,hlz,HH⟩:=hrel;have hfr:=hblk.frozen (k+j);by_cases hjn:j<n2
        · obtain⟨b2,off2,y,rfl,hbw2,hy32,HY,hcy⟩:=hx2.limb (k:=j) oM
          have hcy':=(hbel.cell (p:=⟨b2,off2+j,none⟩) hbw2).trans hcy;clear hcy;obtain⟨z,HZ⟩:∃z,zs.getD (k+j) 0=z:=⟨_,rfl⟩;have hz32:z<4294967296:=by rw[<-HZ];exact HH.out.2.1.get _
          have hcz:=hblk.cell (k:=k+j) oM;rw[HZ]at hcz;have HZ':=Lib.hid HZ;clear HZ;have hm1:=zC4 hx32 hy32;obtain⟨hm2,hm3⟩:=zC5 hx32 hy32;go_wp2;go_roundw
          case rel=>
            have ec:(((c+(x*y+z))/4294967296:Nat):Int)=((c:Int)+((x:Int)*(y:Int)+(z:Int)))/4294967296:=by simp
            have hlt:c+(x*y+z)<18446744073709551616:=by generalize x*y=m at*;omega
            refine⟨j+1,(c+(x*y+z))/4294967296,zs.set (k+j) ((c+(x*y+z))%4294967296),by omega,by go_num,by rw[ec],by generalize x*y=m at*;omega,hblk.set' _ _ _ sI,hbel.setCell (xgf _) _,by simpa using hlz,
              ⟨by simpa using HH.out.1,HH.out.2.1.set _ _ (Nat.mod_lt _ oM),?_,zDl HH.out.2.2.2 oM HY.out HZ'.out ((zBH HH.out.2.2.1 (xgf _)).symm.trans HZ'.out)⟩⟩
            rw[show k+(j+1)=k+j+1 from rfl,zAV];exact zB1 HH.out.2.2.1
          case measure=>simp[intOf];omega
        · obtain rfl:n2=j:=by omega
          have hcz:=hblk.cell (k:=k+n2) oM;go_wp2;go_roundw
          case rel=>
            refine⟨k+1,zs.set (k+n2) c,by omega,by go_num,hblk.set' _ _ _ rfl,hbel.setCell (xgf _) _,by simpa using hlz,⟨by simpa using HH.out.1,HH.out.2.1.set _ _ hc,?_⟩⟩;have h1:=HH.out.2.2.2;have h2:=HH0.out.2.2;rw[h2,zJ ys oM]at h1;rw[show k+1+n2=k+n2+1 by omega,yU _ _ _ oM,h1,zR xs,HX.out,Nat.add_mul]
          case measure=>simp[intOf];omega
    · obtain rfl:n1=k:=by omega
      go_wp2;go_ret;have h1:=HH0.out.2.2;rw[zJ xs hlen1,zJ zs0 (by rw[HH0.out.1];omega)]at h1;exact⟨_,_,_,zs0,rfl,HH0.out.1,by omega,by omega,hblk0.at_ HH0.out.2.1,h1,hbel0⟩
theorem yH(neg:Bool)(ao:Option Addr)(n cap:Nat)(xs:List Nat)(w:World)(hn:xs.length=n)(hl:n<=cap)(hcap:cap<=9223372036854775807)(hx:zG w ao xs):
  Calls Tryz.prog 199 #[.bool neg,.slice ao n cap] w (jL w (sgn neg (nat xs))):=by
 have HN:=Lib.hid hn;have htl:=zAp xs n;obtain⟨t,HT⟩:∃t,qS xs n=t:=⟨_,rfl⟩;rw[HT]at htl;have hcall:=fun W hw=>jI ao n cap xs W hn hl hcap hw
 rw[HT]at hcall;have HT':=Lib.hid HT;clear HT hn;have hnorm:qO (xs.take t):=by
  have h1:=zBT xs;unfold zAu at h1;rw[HN.out,HT'.out]at h1;exact h1
 have hval:Hid (nat (xs.take t)=nat xs):=by
  have h1:=zAM xs;unfold zAu at h1;rw[HN.out,HT'.out]at h1;exact h1
 by_cases h0:t=0
 ·subst h0
  go_enter Tryz.func199,Tryz.ntmps199;go_wp2_with (go_at_call 224;refine(hcall _ ?_).mono ?_;exact hx.ext (yI.below ((Below.refl _ _).alloc (xgf _) _) (xgf _));rintro e w' ⟨rfl,rfl⟩)
  refine bodyPost_ret (v:=.agg #[.bool false,.slice none 0 0]) (by simp[results,Tryz.results199,go_sem]) rfl ?_;refine⟨_,rfl,⟨false,none,0,0,[],rfl,rfl,by omega,by omega,zG.nil _ _,qO.nil,?_,by simp⟩,(Below.refl _ _).alloc (xgf _) _⟩;have:=hval.out;simp at this;rw[<-this];simp[zEG]
 ·have ht0:((t:Int)==0)=false:=by simpa using h0
  go_enter Tryz.func199,Tryz.ntmps199;go_wp2_with (go_at_call 224;refine(hcall _ ?_).mono ?_;exact hx.ext (yI.below ((Below.refl _ _).alloc (xgf _) _) (xgf _));rintro e w' ⟨rfl,rfl⟩)
  refine bodyPost_ret (v:=.agg #[.bool neg,.slice ao t t]) (by simp[results,Tryz.results199,go_sem]) rfl ?_;have hB:Below w.heap.size w (w.alloc (.cells #[.bool neg,.slice ao t t] 35)):=(Below.refl _ _).alloc (xgf _) _;exact⟨_,rfl,⟨neg,ao,t,t,xs.take t,rfl,by rw[List.length_take,HN.out];omega,by omega,by omega,(hx.take t).ext (yI.below hB (xgf _)),hnorm,by rw[hval.out],by omega⟩,hB⟩
theorem zG.two(w:World)(a b:Nat)(ha:a<4294967296)(hb:b<4294967296)(m k:Int)(hm:m=a)(hk:k=b):
  zG (w.alloc (.cells #[.int .u32 m,.int .u32 k] tU)) (some ⟨w.heap.size,0,none⟩) [a,b]:=by
 subst hm;subst hk;exact(jQ.made w [a,b]).at_ (fun x hx=>by simp at hx;unfold B32;omega)
theorem zG.one(w:World)(a:Nat)(ha:a<4294967296)(m:Int)(hm:m=a):
  zG (w.alloc (.cells #[.int .u32 m] tU)) (some ⟨w.heap.size,0,none⟩) [a]:=by
 subst hm;exact(jQ.made w [a]).at_ (fun x hx=>by simp at hx;unfold B32;omega)
theorem zB4(u:Nat)(w:World)(hu:u<18446744073709551616):
  Calls Tryz.prog 200 #[.int .u64 (u:Nat)] w (zD8 w u):=by
 go_enter Tryz.func200,Tryz.ntmps200;go_wp2;go_ret;exact⟨_,_,_,[u%4294967296,u/4294967296],rfl,rfl,by omega,by omega,zG.two w _ _ oM oM _ _ (by simp[IntKind.wrap_u32]) (by simp[IntKind.wrap_u32]),by simp[yN,yQ];omega,(Below.refl _ _).alloc (xgf _) _⟩
theorem qV(v:Value)(z:Int)(w:World)(h:zD5 w v z):
  Calls Tryz.prog 160 #[v] w fun e w'=>e= .returned (.int .i64 (qJ z 0))/\Below w.heap.size w w':=by
 obtain⟨neg,ao,n,cap,xs,rfl,hn,hl,hcap,hx,hN,hz⟩:=h;have hcall:=fun W hw=>jI ao n cap xs W hn hl hcap hw
 rw[<-hn,qR hN,hn]at hcall;by_cases h0:n=0
 ·have E:Hid (qJ z 0=0):=by
   have:xs= []:=List.eq_nil_of_length_eq_zero oM;subst this;exact zAA (by rw[hz];simp[zEG])
  clear hz hn;subst h0;go_enter Tryz.func160,Tryz.ntmps160;go_wp2_with (go_at_call 224;refine(hcall _ ?_).mono ?_;exact hx.ext (yI.below ((Below.refl _ _).alloc (xgf _) _) (xgf _));rintro e w' ⟨rfl,rfl⟩)
  go_ret;exact⟨by rw[E.out];rfl,(Below.refl _ _).alloc (xgf _) _⟩
 ·have hp:0<nat xs:=zH6 hN (by rintro rfl;simp at hn;omega)
  have h0':((n:Int)==0)=false:=by simpa using h0
  cases neg with
  |true=>
   have E:Hid (qJ z 0=-1):=yV (by rw[hz];simp;omega);clear hz hn;go_enter Tryz.func160,Tryz.ntmps160;go_wp2_with (go_at_call 224;refine(hcall _ ?_).mono ?_;exact hx.ext (yI.below ((Below.refl _ _).alloc (xgf _) _) (xgf _));rintro e w' ⟨rfl,rfl⟩)
   go_ret;exact⟨by rw[E.out];rfl,(Below.refl _ _).alloc (xgf _) _⟩
  |false=>
   have E:Hid (qJ z 0=1):=jG (by rw[hz];simp;omega);clear hz hn;go_enter Tryz.func160,Tryz.ntmps160;go_wp2_with (go_at_call 224;refine(hcall _ ?_).mono ?_;exact hx.ext (yI.below ((Below.refl _ _).alloc (xgf _) _) (xgf _));rintro e w' ⟨rfl,rfl⟩)
   go_ret;exact⟨by rw[E.out];rfl,(Below.refl _ _).alloc (xgf _) _⟩
theorem zBK(n:Int)(w:World)(h1:-9223372036854775808<=n)(h2:n<=9223372036854775807):
  Calls Tryz.prog 114 #[.int .i64 n] w (jL w n):=by
 by_cases hn:n<0
 ·have e:IntKind.u64.wrap (-IntKind.u64.wrap n)=((n.natAbs:Nat):Int):=by simp only[IntKind.wrap_u64];omega
  go_enter Tryz.func114,Tryz.ntmps114;go_wp2_with fail
  refine(zB4 n.natAbs _ oM).mono ?_;rintro e1 w1 ⟨ao,len,cap,zs,rfl,hz1,hz2,hz3,hz4,hz5,hb1⟩;have br1:=(Blk.new w 35 #[.bool false,.slice none 0 0]).below hb1;go_wp2_with fail
  refine(yH true ao len cap zs _ hz1 hz2 hz3 hz4).mono ?_;rintro e2 w2 ⟨v,rfl,hv,hb2⟩;have br2:=br1.below hb2;obtain⟨k1,k2,k3,k4⟩:=br2.two;obtain⟨vn,va,vl,vc,vx,rfl,hv2⟩:=hv;go_wp2_with fail
  refine zW rfl rfl rfl (br2.put2 _ _) ?_ (zO (zO (nx (nx ((Below.refl _ _).alloc (xgf _) _) hb1) hb2) oM 0 _) oM 1 _);refine zH.ext ?_ (br2.lext2 dE _ _);have e3:sgn true (nat zs)=n:=by rw[hz5];simp;omega
  rw[<-e3];exact⟨vn,va,vl,vc,vx,rfl,hv2⟩
 ·obtain⟨m,rfl⟩:=Int.eq_ofNat_of_zero_le (show 0<=n by omega)
  go_enter Tryz.func114,Tryz.ntmps114;go_wp2_with fail
  refine(zB4 m _ oM).mono ?_;rintro e1 w1 ⟨ao,len,cap,zs,rfl,hz1,hz2,hz3,hz4,hz5,hb1⟩;have br1:=(Blk.new w 35 #[.bool false,.slice none 0 0]).below hb1;go_wp2_with fail
  refine(yH false ao len cap zs _ hz1 hz2 hz3 hz4).mono ?_;rintro e2 w2 ⟨v,rfl,hv,hb2⟩;have br2:=br1.below hb2;obtain⟨k1,k2,k3,k4⟩:=br2.two;obtain⟨vn,va,vl,vc,vx,rfl,hv2⟩:=hv;go_wp2_with fail
  refine zW rfl rfl rfl (br2.put2 _ _) ?_ (zO (zO (nx (nx ((Below.refl _ _).alloc (xgf _) _) hb1) hb2) oM 0 _) oM 1 _);refine zH.ext ?_ (br2.lext2 dE _ _);have e3:sgn false (nat zs)=m:=by rw[hz5];simp
  rw[<-e3];exact⟨vn,va,vl,vc,vx,rfl,hv2⟩
theorem zBh{a b:Int}(h:¬ a<b):0<=qJ a b:=by
 unfold qJ;rw[if_neg h];split<;>omega
theorem zLi(neg:Bool)(a b:Nat):sgn neg (a+b)=sgn neg a+sgn neg b:=by cases neg<;>simp<;>omega
theorem zJA{n1 n2:Bool}(h:n1≠n2)(a b:Nat)(hl:b<=a):sgn n1 (a-b)=sgn n1 a+sgn n2 b:=by
 cases n1<;>cases n2<;>simp at h ⊢<;>omega
theorem zJB{n1 n2:Bool}(h:n1≠n2)(a b:Nat)(hl:a<=b):sgn n2 (b-a)=sgn n1 a+sgn n2 b:=by
 cases n1<;>cases n2<;>simp at h ⊢<;>omega
theorem zBw(v1 v2:Value)(z1 z2:Int)(w:World)(h1:zD5 w v1 z1)(h2:zD5 w v2 z2)(s1:Sm z1)(s2:Sm z2):
  Calls Tryz.prog 156 #[v1,v2] w (jL w (z1+z2)):=by
 obtain⟨neg1,ao1,n1,cap1,xs,rfl,hn1,hl1,hc1,hx1,hN1,hz1⟩:=h1;obtain⟨neg2,ao2,n2,cap2,ys,rfl,hn2,hl2,hc2,hx2,hN2,hz2⟩:=h2;have hq1:n1<=4*LIM:=by
  have:n1<=LIM:=by rw[<-hn1];exact Sm.len (neg:=neg1) (by rw[<-hz1];exact s1) hN1
  omega
 have hq2:n2<=4*LIM:=by
  have:n2<=LIM:=by rw[<-hn2];exact Sm.len (neg:=neg2) (by rw[<-hz2];exact s2) hN2
  omega
 have hcall1:=fun W hw=>jI ao1 n1 cap1 xs W hn1 hl1 hc1 hw
 rw[<-hn1,qR hN1,hn1]at hcall1;have hcall2:=fun W hw=>jI ao2 n2 cap2 ys W hn2 hl2 hc2 hw
 rw[<-hn2,qR hN2,hn2]at hcall2;have HN1:=Lib.hid hn1;have HN2:=Lib.hid hn2;have HZ1:=Lib.hid hz1;have HZ2:=Lib.hid hz2;clear hn1 hn2 hz1 hz2 s1 s2;have Hcall1:=Lib.hid hcall1;by_cases hs:neg1=neg2
 ·subst hs
  go_enter Tryz.func156,Tryz.ntmps156;go_wp2_with fail
  refine zB ?_;intro W0 hW0;obtain⟨hB0,bx1,bx2,br,hs0⟩:=yO hW0;have hx1':=hx1.ext (lx hB0);have hx2':=hx2.ext (lx hB0);obtain⟨c1,c2,c3,c4⟩:=bx1.two;obtain⟨d1,d2,d3,d4⟩:=bx2.two;go_quiet ((first|(go_at_call_of 224 ao1;exact Calls.quiet_of_same ((hcall1 _ (hx1'.ext (lx (drN _ _)))).mono (by rintro e w' ⟨rfl,rfl⟩;exact⟨rfl,rfl⟩)))|(go_at_call_of 224 ao2;exact Calls.quiet_of_same ((hcall2 _ (hx2'.ext (lx (drN _ _)))).mono (by rintro e w' ⟨rfl,rfl⟩;exact⟨rfl,rfl⟩)))));go_wp2_with fail
  refine zB ?_;intro W1 hW1;have hB1:Below w.heap.size w W1:=by rw[hW1.out];exact nx hB0 (drN _ _)
  have bx1':=Blk.at_ hW1 bx1;have bx2':=Blk.at_ hW1 bx2;have br':=Blk.at_ hW1 br;have lx1:=lx (nx hB1 (dr W1));clear c1 c2 c3 c4 d1 d2 d3 d4;obtain⟨c1,c2,c3,c4⟩:=bx1'.two;obtain⟨d1,d2,d3,d4⟩:=bx2'.two;go_region_held3 (fun w'=>w'.cell? ⟨w.heap.size,0,none⟩=some (.bool neg1))
   ((((try go_split_ands);(repeat' apply And.intro))<;>first|exact yJ (by assumption)|exact zI (by assumption) hb1|exact zI (by assumption) hb2|exact zAE (zAE (by assumption) oM) oM))
   (first
    |((go_at_call 225;refine(zI0 ao1 ao2 n1 n1 n2 n2 xs ys _ HN1.out HN2.out (xgf _) (xgf _) oM oM hq1 hq2 (hx1.ext lx1) (hx2.ext lx1)).mono ?_;rintro e w1 ⟨ao,len,cap,zs,rfl,hz1,hz2,hz3,hz4,hz5,hb1⟩;have br1:=br'.drew.below hb1))
    |((go_at_call 199;refine(yH neg1 ao len cap zs _ hz1 hz2 hz3 hz4).mono ?_;rintro e w2 ⟨v,rfl,hv,hb2⟩;have br2:=br1.below hb2;obtain⟨e1,e2,e3,e4⟩:=br2.two;obtain⟨vn,va,vl,vc,vx,rfl,hv2⟩:=hv)))
  go_wp2_with fail
  refine zW rfl rfl rfl (br2.put2 _ _) ?_ (zO (zO (nx (nx (nx hB1 (dr W1)) hb1) hb2) oM 0 _) oM 1 _);refine zH.ext ?_ (br2.lext2 dE _ _);rw[hz5]at hv2;rw[HZ1.out,HZ2.out,<-zLi];exact⟨vn,va,vl,vc,vx,rfl,hv2⟩
 ·have hs':(neg1==neg2)=false:=by simpa using hs
  have Hs:=Lib.hid hs;clear hs;by_cases hlt:nat xs<nat ys
  ·have hcmp:=fun W h1 h2=>zAK ao1 ao2 n1 n1 n2 n2 xs ys W HN1.out HN2.out (xgf _) (xgf _) oM oM h1 h2 hN1 hN2
   rw[yV oM]at hcmp;go_enter Tryz.func156,Tryz.ntmps156;go_wp2_with fail
   refine zB ?_;intro W0 hW0;obtain⟨hB0,bx1,bx2,br,hs0⟩:=yO hW0;have hx1':=hx1.ext (lx hB0);have hx2':=hx2.ext (lx hB0);obtain⟨c1,c2,c3,c4⟩:=bx1.two;obtain⟨d1,d2,d3,d4⟩:=bx2.two;go_quiet ((first|(go_at_call_of 224 ao1;exact Calls.quiet_of_same ((hcall1 _ (hx1'.ext (lx (drN _ _)))).mono (by rintro e w' ⟨rfl,rfl⟩;exact⟨rfl,rfl⟩)))|(go_at_call_of 224 ao2;exact Calls.quiet_of_same ((hcall2 _ (hx2'.ext (lx (drN _ _)))).mono (by rintro e w' ⟨rfl,rfl⟩;exact⟨rfl,rfl⟩)))));have hx1'':=hx1'.ext (lx (drN W0 nq));have hx2'':=hx2'.ext (lx (drN W0 nq));go_wp2_with (go_at_call 226;refine(hcmp _ hx1'' hx2'').mono ?_;rintro e w' ⟨rfl,q,rfl⟩)
   refine zB ?_;intro W1 hW1;have hB1:Below w.heap.size w W1:=by rw[hW1.out];exact nx hB0 (drN _ _)
   have bx1':=Blk.at_ hW1 bx1;have bx2':=Blk.at_ hW1 bx2;have br':=Blk.at_ hW1 br;have lx1:=lx (nx hB1 (dr W1));clear c1 c2 c3 c4 d1 d2 d3 d4;obtain⟨c1,c2,c3,c4⟩:=bx1'.two;obtain⟨d1,d2,d3,d4⟩:=bx2'.two;go_region_held3 (fun w'=>w'.cell? ⟨(w.heap.size+1),0,none⟩=some (.bool neg2))
    ((((try go_split_ands);(repeat' apply And.intro))<;>first|exact yJ (by assumption)|exact zI (by assumption) hb1|exact zI (by assumption) hb2|exact zAE (zAE (by assumption) oM) oM))
    (first
     |((go_at_call 227;refine(zEg ao2 ao1 n2 n2 n1 n1 ys xs _ HN2.out HN1.out (xgf _) (xgf _) oM oM hq2 (hx2.ext lx1) (hx1.ext lx1) (by rw[<-HN1.out,<-HN2.out];exact jW hx2.1 hN1 oM) oM).mono ?_;rintro e w1 ⟨ao,len,cap,zs,rfl,hz1,hz2,hz3,hz4,hz5,hb1⟩;have br1:=br'.drew.below hb1))
     |((go_at_call 199;refine(yH neg2 ao len cap zs _ hz1 hz2 hz3 hz4).mono ?_;rintro e w2 ⟨v,rfl,hv,hb2⟩;have br2:=br1.below hb2;obtain⟨e1,e2,e3,e4⟩:=br2.two;obtain⟨vn,va,vl,vc,vx,rfl,hv2⟩:=hv)))
   go_wp2_with fail
   refine zW rfl rfl rfl (br2.put2 _ _) ?_ (zO (zO (nx (nx (nx hB1 (dr W1)) hb1) hb2) oM 0 _) oM 1 _);refine zH.ext ?_ (br2.lext2 dE _ _);rw[hz5]at hv2;rw[HZ1.out,HZ2.out,<-zJB Hs.out _ _ oM];exact⟨vn,va,vl,vc,vx,rfl,hv2⟩
  ·have hcmp:=fun W h1 h2=>zAK ao1 ao2 n1 n1 n2 n2 xs ys W HN1.out HN2.out (xgf _) (xgf _) oM oM h1 h2 hN1 hN2
   obtain⟨cc,hcc,hcc0⟩:∃cc:Int,qJ (nat xs) (nat ys)=cc/\0<=cc:=⟨_,rfl,zBh oM⟩;rw[hcc]at hcmp;clear hcc;go_enter Tryz.func156,Tryz.ntmps156;go_wp2_with fail
   refine zB ?_;intro W0 hW0;obtain⟨hB0,bx1,bx2,br,hs0⟩:=yO hW0;have hx1':=hx1.ext (lx hB0);have hx2':=hx2.ext (lx hB0);obtain⟨c1,c2,c3,c4⟩:=bx1.two;obtain⟨d1,d2,d3,d4⟩:=bx2.two;go_quiet ((first|(go_at_call_of 224 ao1;exact Calls.quiet_of_same ((hcall1 _ (hx1'.ext (lx (drN _ _)))).mono (by rintro e w' ⟨rfl,rfl⟩;exact⟨rfl,rfl⟩)))|(go_at_call_of 224 ao2;exact Calls.quiet_of_same ((hcall2 _ (hx2'.ext (lx (drN _ _)))).mono (by rintro e w' ⟨rfl,rfl⟩;exact⟨rfl,rfl⟩)))));have hx1'':=hx1'.ext (lx (drN W0 nq));have hx2'':=hx2'.ext (lx (drN W0 nq));go_wp2_with (go_at_call 226;refine(hcmp _ hx1'' hx2'').mono ?_;rintro e w' ⟨rfl,q,rfl⟩)
   refine zB ?_;intro W1 hW1;have hB1:Below w.heap.size w W1:=by rw[hW1.out];exact nx hB0 (drN _ _)
   have bx1':=Blk.at_ hW1 bx1;have bx2':=Blk.at_ hW1 bx2;have br':=Blk.at_ hW1 br;have lx1:=lx (nx hB1 (dr W1));clear c1 c2 c3 c4 d1 d2 d3 d4;obtain⟨c1,c2,c3,c4⟩:=bx1'.two;obtain⟨d1,d2,d3,d4⟩:=bx2'.two;go_region_held3 (fun w'=>w'.cell? ⟨w.heap.size,0,none⟩=some (.bool neg1))
    ((((try go_split_ands);(repeat' apply And.intro))<;>first|exact yJ (by assumption)|exact zI (by assumption) hb1|exact zI (by assumption) hb2|exact zAE (zAE (by assumption) oM) oM))
    (first
     |((go_at_call 227;refine(zEg ao1 ao2 n1 n1 n2 n2 xs ys _ HN1.out HN2.out (xgf _) (xgf _) oM oM hq1 (hx1.ext lx1) (hx2.ext lx1) (by rw[<-HN1.out,<-HN2.out];exact jW hx1.1 hN2 oM) oM).mono ?_;rintro e w1 ⟨ao,len,cap,zs,rfl,hz1,hz2,hz3,hz4,hz5,hb1⟩;have br1:=br'.drew.below hb1))
     |((go_at_call 199;refine(yH neg1 ao len cap zs _ hz1 hz2 hz3 hz4).mono ?_;rintro e w2 ⟨v,rfl,hv,hb2⟩;have br2:=br1.below hb2;obtain⟨e1,e2,e3,e4⟩:=br2.two;obtain⟨vn,va,vl,vc,vx,rfl,hv2⟩:=hv)))
   go_wp2_with fail
   refine zW rfl rfl rfl (br2.put2 _ _) ?_ (zO (zO (nx (nx (nx hB1 (dr W1)) hb1) hb2) oM 0 _) oM 1 _);refine zH.ext ?_ (br2.lext2 dE _ _);rw[hz5]at hv2;rw[HZ1.out,HZ2.out,<-zJA Hs.out _ _ oM];exact⟨vn,va,vl,vc,vx,rfl,hv2⟩
def zEP(w:World)(base:Nat)(v:Value)(xs:List Nat):Prop:=qT xs/\w.ownsRow base tU 1 v xs.length (xs.map fun n=>Value.int .u32 (n:Nat))
theorem zEP.at_{w:World}{base:Nat}{v:Value}{xs:List Nat}(h:zEP w base v xs):
  ∃ao cap,v= .slice ao xs.length cap/\xs.length<=cap/\cap<=9223372036854775807/\zG w ao xs:=by
 obtain⟨hl,h1,h2⟩:=h;rcases h2 with⟨rfl,h0⟩|⟨g,cap,cur,rfl,hg,hh,hn,hc,hs,ht⟩
 ·have:xs= []:=List.eq_nil_of_length_eq_zero h0
  subst this;exact⟨none,0,rfl,by simp,by omega,zG.nil _ _⟩
 ·refine⟨some ⟨g,0,none⟩,cap,rfl,hn,hc,hl,fun _=>⟨g,0,cur,_,rfl,hh,fun k x hk=>?_⟩⟩
  have hk':(xs.map fun n=>Value.int .u32 (n:Nat))[k]?=some (.int .u32 (x:Nat)):=by simp[hk]
  rw[<-ht,List.getElem?_take]at hk';split at hk'
  ·simpa using hk'
  ·cases hk'
theorem zEP.empty(w:World)(base:Nat)(h:base<=w.heap.size):zEP (w.alloc (.cells #[] tU)) base (.slice (some ⟨w.heap.size,0,none⟩) 0 0) []:=
 ⟨qT.nil,by simp,.inr ⟨w.heap.size,0,#[],rfl,h,heap_alloc_new w _,xgf _,by simp[maxLen],rfl,rfl⟩⟩
theorem zEP.alloc{w:World}{base:Nat}{v:Value}{xs:List Nat}(h:zEP w base v xs)(o:Obj):zEP (w.alloc o) base v xs:=⟨h.1,h.2.alloc o⟩
theorem zDE{P:Program}{w:World}(base:Nat)(t ty e:TypeId)(i:TypeInfo)(size:Nat)(ht:P.underlying t=some (.slice e))(hi:P.info? e=some i)
  (v:Value) (n:Nat) (xs:List Value) (hown:w.ownsRow base e size v n xs) (c:Nat):(Builtin.append_ #[t,t] ty #[v,.slice none 0 c]).run P w= .ok v w:=by
 rcases hown.2 with⟨rfl,rfl⟩|⟨g,cap,cur,rfl,_,_,hnc,_⟩
 ·simp[Builtin.append_,run_underlying ht,sizeOf,typeInfo,hi,Builtin.lenOf,Builtin.firstCells]
 ·simp[Builtin.append_,run_underlying ht,sizeOf,typeInfo,hi,Builtin.lenOf,Builtin.firstCells,hnc,storeCells]
theorem zIa{w:World}{ops:Array Oper}{rest:List Oper}{o:Oper}{a:Act}{Q:Exit->Act->World->Prop}(hgd:o.guard=none)(s x:Operand)
  (ho:o.op= .call {callee:=.builtin .append,args:=#[s,x],argTypes:=#[33,33]})
  (base:Nat) (v:Value) (xs:List Nat) (hs:a.eval s=v) (hown:zEP w base v xs) (ao:Option Addr) (m c:Nat) (ys:List Nat) (hx:a.eval x= .slice ao m c) (hy:zG w ao ys) (hm:ys.length=m)
  (hlen:xs.length+m<=35184372088832) (hbase:base<=w.heap.size)
  (h:∀v' w',zEP w' base v' (xs++ys)->w.grownBy w' v.ownBlock->wpList Tryz.prog ops Q rest (a.put o.dst v') w'):wpList Tryz.prog ops Q (o::rest) a w:=by
 obtain⟨i0,hi,hz0,hz1,hz2⟩:=info_parts Tryz.infoU;cases ao with
 | none=>
  have hy0:ys= []:=by
   by_cases h0:ys= []
   ·exact h0
   ·obtain⟨_,_,_,_,h1,_⟩:=hy.2 h0
    cases h1
  subst hy0;simp at hm;subst hm;refine wpList_plain hgd fun K hK=>?_
  have hrun:=zDE (P:=Tryz.prog) (w:=w) base 33 o.type tU i0 1 Tryz.underlying33 hi v xs.length _ hown.2 c;unfold Oper.wp;simp only[execOp,ho,resolve,invoke,builtin,Sem.run_bind,Sem.run_pure,Result.andThen_ok,List.map_toArray,List.map_cons,List.map_nil,hs,hx,hrun];exact hK _ _ (h v w (by simpa using hown) (World.grownBy.refl w _))
 | some ad=>
  refine wpList_append_own w hgd s x 33 ho base tU i0 _ 1 4 Tryz.underlying33 hi hz0 hz1 hz2 rfl oM v xs.length _ hs hown.2 ad m c (ys.map fun n=>Value.int .u32 (n:Nat)) hx (by simp[hm]) ?_ ?_ (by simp[maxLen];omega) oM hbase ?_
  ·intro j u hj
   simp only[List.getElem?_map,Option.map_eq_some_iff]at hj;obtain⟨x',hj,rfl⟩:=hj;obtain⟨b,off,cs,fz,h1,h2,h3⟩:=hy.2 (by rintro rfl;simp at hj);injection h1 with h1
   subst h1;rw[Addr.add_lit,cell_of_row w b (off+j) cs tU fz h2];exact h3 j x' hj
  ·intro u hu
   simp only[List.mem_map]at hu;obtain⟨x',_,rfl⟩:=hu;rfl
  ·intro v' w' h1 h2 _
   refine h v' w' ⟨hown.1.append hy.1,?_⟩ h2;simpa[hm]using h1
def zN2(w:World)(xs:List Nat)(e:Ending)(w':World):Prop:=
 ∃ao len cap,e= .returned (.slice ao len cap)/\xs.length=len/\len<=cap/\cap<=9223372036854775807/\zG w' ao xs/\Below w.heap.size w w'
theorem zBW(ao:Option Addr)(n cap:Nat)(xs:List Nat)(w:World)(hn:xs.length=n)(hb:n<=4*LIM)(hx:zG w ao xs):
  Calls Tryz.prog 229 #[.slice ao n cap] w (zN2 w xs):=by
 have heq:=fun W=>Lib.run_eql_slice_nil (P:=Tryz.prog) W 33 tU ao n cap 0 0 Tryz.underlying33
 rw[qW]at hb;cases ao with
 | none=>
  have hy0:xs= []:=by
   by_cases h0:xs= []
   ·exact h0
   ·obtain⟨_,_,_,_,h1,_⟩:=hx.2 h0
    cases h1
  subst hy0;clear hn;go_enter Tryz.func229,Tryz.ntmps229;go_wp2;go_ret;exact⟨none,0,0,rfl,rfl,by omega,by omega,zG.nil _ _,Below.refl _ _⟩
 |some ad=>
  have HN:=Lib.hid hn;clear hn;go_enter Tryz.func229,Tryz.ntmps229;go_wp2_with (at_builtin;refine zIa rfl _ _ rfl w.heap.size (.slice (some ⟨w.heap.size,0,none⟩) 0 0) [] rfl (zEP.empty w _ (xgf _)) (some ad) n cap xs rfl (hx.ext (lx ((Below.refl _ _).alloc (xgf _) _))) HN.out (by simp;omega) sI ?_;intro v' w' hown hgr)
  have hB:Below w.heap.size w w':=((Below.refl _ _).alloc (xgf _) _).grown hgr sI (fun k hk=>by simp[Value.ownBlock]at hk;omega);go_ret;obtain⟨ao',cap',hv,h1,h2,h3⟩:=hown.at_;exact⟨ao',_,cap',by rw[hv];rfl,rfl,h1,h2,h3,hB⟩
theorem zD5.len{w:World}{v:Value}{z:Int}(h:zD5 w v z)(s:Sm z):
  ∃neg ao n cap xs,v= .agg #[.bool neg,.slice ao n cap]/\xs.length=n/\n<=cap/\cap<=9223372036854775807/\zG w ao xs/\qO xs/\z=sgn neg (nat xs)/\n<=LIM:=by
 obtain⟨neg,ao,n,cap,xs,h1,h2,h3,h4,h5,h6,h7⟩:=h;exact⟨neg,ao,n,cap,xs,h1,h2,h3,h4,h5,h6,h7,by rw[<-h2];exact Sm.len (neg:=neg) (by rw[<-h7];exact s) h6⟩
theorem zGN(b:Bool)(n:Nat):sgn (!b) n=-sgn b n:=by cases b<;>simp
theorem jP(v1:Value)(z:Int)(w:World)(h1:zD5 w v1 z)(s1:Sm z):Calls Tryz.prog 159 #[v1] w (jL w (-z)):=by
 obtain⟨neg,ao,n,cap,xs,rfl,hn,hl,hc,hx,hN,hz,hq⟩:=h1.len s1;have HN:=Lib.hid hn;have HZ:=Lib.hid hz;clear hn hz s1 h1;have hq':n<=4*LIM:=by omega
 go_enter Tryz.func159,Tryz.ntmps159;go_upto_region 1 with(fail)
 refine zB ?_;intro W0 hW0;obtain⟨hB0,bx1,br,hs0⟩:=qH hW0;obtain⟨c1,c2,c3,c4⟩:=bx1.two;obtain⟨d1,d2,d3,d4⟩:=br.two;have lx1:=lx (nx hB0 (dr W0));go_region_held3 (fun w'=>w'.cell? ⟨w.heap.size,0,none⟩=some (.bool neg)/\w'.cell? ⟨w.heap.size,1,none⟩=some (.slice ao n cap))
  ((((try go_split_ands);(repeat' apply And.intro))<;>first|exact yJ (by assumption)|exact zI (by assumption) hb1|exact zI (by assumption) hb2|exact zAE (zAE (by assumption) oM) oM))
  (first
   |((go_at_call 229;refine(zBW ao n cap xs _ HN.out hq' (hx.ext lx1)).mono ?_;rintro e w1 ⟨ao',len,cap',rfl,hz1,hz2,hz3,hz4,hb1⟩;have br1:=br.drew.below hb1))
   |((go_at_call 199;refine(yH (!neg) ao' len cap' xs _ hz1 hz2 hz3 hz4).mono ?_;rintro e w2 ⟨v,rfl,hv,hb2⟩;have br2:=br1.below hb2;obtain⟨e1,e2,e3,e4⟩:=br2.two;obtain⟨vn,va,vl,vc,vx,rfl,hv2⟩:=hv)))
 go_wp2_with fail
 refine zW rfl rfl rfl (br2.put2 _ _) ?_ (zO (zO (nx (nx (nx hB0 (dr W0)) hb1) hb2) oM 0 _) oM 1 _);refine zH.ext ?_ (br2.lext2 dE _ _);rw[HZ.out,<-zGN];exact⟨vn,va,vl,vc,vx,rfl,hv2⟩
theorem zKI(v1:Value)(z:Int)(w:World)(h1:zD5 w v1 z)(s1:Sm z):Calls Tryz.prog 316 #[v1] w (jL w (z.natAbs:Nat)):=by
 obtain⟨neg,ao,n,cap,xs,rfl,hn,hl,hc,hx,hN,hz,hq⟩:=h1.len s1;have HN:=Lib.hid hn;have HZ:=Lib.hid hz;clear hn hz s1 h1;have hq':n<=4*LIM:=by omega
 go_enter Tryz.func316,Tryz.ntmps316;go_upto_region 1 with(fail)
 refine zB ?_;intro W0 hW0;obtain⟨hB0,bx1,br,hs0⟩:=qH hW0;obtain⟨c1,c2,c3,c4⟩:=bx1.two;obtain⟨d1,d2,d3,d4⟩:=br.two;have lx1:=lx hB0;go_wp2_with fail
 refine(zBW ao n cap xs _ HN.out hq' (hx.ext lx1)).mono ?_;rintro e w1 ⟨ao',len,cap',rfl,hz1,hz2,hz3,hz4,hb1⟩;have br1:=br.below hb1;go_wp2_with fail
 refine(yH false ao' len cap' xs _ hz1 hz2 hz3 hz4).mono ?_;rintro e w2 ⟨v,rfl,hv,hb2⟩;have br2:=br1.below hb2;obtain⟨e1,e2,e3,e4⟩:=br2.two;obtain⟨vn,va,vl,vc,vx,rfl,hv2⟩:=hv;go_wp2_with fail
 refine zW rfl rfl rfl (br2.put2 _ _) ?_ (zO (zO (nx (nx hB0 hb1) hb2) oM 0 _) oM 1 _);refine zH.ext ?_ (br2.lext2 dE _ _);rw[show((z.natAbs:Nat):Int)=sgn false (nat xs) by rw[HZ.out,zZ];rfl];exact⟨vn,va,vl,vc,vx,rfl,hv2⟩
theorem zIS(v1 v2:Value)(z1 z2:Int)(w:World)(h1:zD5 w v1 z1)(h2:zD5 w v2 z2)(s1:Sm z1)(s2:Sm z2):Calls Tryz.prog 317 #[v1,v2] w (jL w (z1-z2)):=by
 have h1':=h1;have H2:=Lib.hid h2;obtain⟨neg1,ao1,n1,cap1,xs,rfl,_⟩:=h1;obtain⟨neg2,ao2,n2,cap2,ys,rfl,hn2,hl2,hc2,hx2,hN2,hz2⟩:=h2;have hcall:∀W,yI w W->Calls Tryz.prog 156 #[.agg #[.bool neg1,.slice ao1 n1 cap1],.agg #[.bool (!neg2),.slice ao2 n2 cap2]] W (jL W (z1+-z2)):=fun W e=>
  zBw _ _ _ _ W (h1'.ext e) ⟨!neg2,ao2,n2,cap2,ys,rfl,hn2,hl2,hc2,hx2.ext e,hN2,by rw[hz2,zGN]⟩ s1 (by unfold Sm at s2 ⊢;rwa[Int.natAbs_neg])
 clear hn2 hz2 s1 s2 H2;go_enter Tryz.func317,Tryz.ntmps317;go_upto_region 1 with(fail)
 refine zB ?_;intro W0 hW0;obtain⟨hB0,bx1,bx2,br,hs0⟩:=yO hW0;obtain⟨c1,c2,c3,c4⟩:=bx1.two;obtain⟨d1,d2,d3,d4⟩:=bx2.two;obtain⟨r1,r2,r3,r4⟩:=br.two;go_wp2_with fail
 refine(hcall _ (lx hB0)).mono ?_;rintro e w2 ⟨v,rfl,hv,hb2⟩;have br2:=br.below hb2;obtain⟨e1,e2,e3,e4⟩:=br2.two;obtain⟨vn,va,vl,vc,vx,rfl,hv2⟩:=hv;go_wp2_with fail
 refine zW rfl rfl rfl (br2.put2 _ _) ?_ (zO (zO (nx hB0 hb2) oM 0 _) oM 1 _);refine zH.ext ?_ (br2.lext2 dE _ _);rw[show z1-z2=z1+-z2 from Int.sub_eq_add_neg];exact⟨vn,va,vl,vc,vx,rfl,hv2⟩
theorem zLj(a b:Bool)(m n:Nat):sgn (a !=b) (m*n)=sgn a m*sgn b n:=by
 cases a<;>cases b<;>simp[Int.neg_mul,Int.mul_neg]
theorem jO(v1 v2:Value)(z1 z2:Int)(w:World)(h1:zD5 w v1 z1)(h2:zD5 w v2 z2)(s1:Sm z1)(s2:Sm z2):Calls Tryz.prog 194 #[v1,v2] w (jL w (z1*z2)):=by
 obtain⟨neg1,ao1,n1,cap1,xs,rfl,hn1,hl1,hc1,hx1,hN1,hz1,hq1⟩:=h1.len s1;obtain⟨neg2,ao2,n2,cap2,ys,rfl,hn2,hl2,hc2,hx2,hN2,hz2,hq2⟩:=h2.len s2;have hcall1:=fun W hw=>jI ao1 n1 cap1 xs W hn1 hl1 hc1 hw
 rw[<-hn1,qR hN1,hn1]at hcall1;have hcall2:=fun W hw=>jI ao2 n2 cap2 ys W hn2 hl2 hc2 hw
 rw[<-hn2,qR hN2,hn2]at hcall2;have HN1:=Lib.hid hn1;have HN2:=Lib.hid hn2;have HZ1:=Lib.hid hz1;have HZ2:=Lib.hid hz2;clear hn1 hn2 hz1 hz2 s1 s2 h1 h2;go_enter Tryz.func194,Tryz.ntmps194;go_upto_region 1 with(fail)
 refine zB ?_;intro W0 hW0;obtain⟨hB0,bx1,bx2,br,hs0⟩:=yO hW0;obtain⟨c1,c2,c3,c4⟩:=bx1.two;obtain⟨d1,d2,d3,d4⟩:=bx2.two;obtain⟨r1,r2,r3,r4⟩:=br.two;have hxd1:=hx1.ext (lx (nx hB0 (dr W0)));have hxd2:=hx2.ext (lx (nx hB0 (dr W0)));go_region_held3 (fun w'=>w'.cell? ⟨w.heap.size,0,none⟩=some (.bool neg1)/\w'.cell? ⟨w.heap.size,1,none⟩=some (.slice ao1 n1 cap1)/\w'.cell? ⟨w.heap.size+1,0,none⟩=some (.bool neg2)/\w'.cell? ⟨w.heap.size+1,1,none⟩=some (.slice ao2 n2 cap2))
  ((((try go_split_ands);(repeat' apply And.intro))<;>first|exact yJ (by assumption)|exact zI (by assumption) hb1|exact zI (by assumption) hb2|assumption|exact zAE (zAE (by assumption) oM) oM))
  (first
   |(go_at_call_of 224 ao1;refine(hcall1 _ hxd1).mono ?_;rintro e w' ⟨rfl,rfl⟩)
   |(go_at_call_of 224 ao2;refine(hcall2 _ hxd2).mono ?_;rintro e w' ⟨rfl,rfl⟩)
   |(go_at_call 243;refine(zLs ao1 ao2 n1 n1 n2 n2 xs ys _ HN1.out HN2.out oM oM hxd1 hxd2).mono ?_;rintro e w1 ⟨ao',len,cap',zs,rfl,hz1,hz2,hz3,hz4,hz5,hb1⟩;have br1:=br.drew.below hb1)
   |(go_at_call 199;refine(yH (neg1 !=neg2) ao' len cap' zs _ hz1 hz2 hz3 hz4).mono ?_;rintro e w2 ⟨v,rfl,hv,hb2⟩;have br2:=br1.below hb2;obtain⟨e1,e2,e3,e4⟩:=br2.two;obtain⟨vn,va,vl,vc,vx,rfl,hv2⟩:=hv))
 go_wp2_with fail
 refine zW rfl rfl rfl (br2.put2 _ _) ?_ (zO (zO (nx (nx (nx hB0 (dr W0)) hb1) hb2) oM 0 _) oM 1 _);refine zH.ext ?_ (br2.lext2 dE _ _);rw[HZ1.out,HZ2.out,<-zLj,<-hz5];exact⟨vn,va,vl,vc,vx,rfl,hv2⟩
theorem zOr(v1:Value)(z:Int)(w:World)(h1:zH w v1 z)(s1:Sm z):Calls Tryz.prog 223 #[v1] w (jL w z):=by
  obtain⟨neg,ao,n,cap,xs,rfl,hn,hl,hc,hx,hN,hz,hpos⟩:=h1;have hq:n<=LIM:=by rw[<-hn];exact Sm.len (neg:=neg) (by rw[<-hz];exact s1) hN
  have HN:=Lib.hid hn;have HZ:=Lib.hid hz;have HP:=Lib.hid hpos;clear hn hz s1 hpos;have hq':n<=4*LIM:=by omega
  go_enter Tryz.func223,Tryz.ntmps223;go_upto_region 1 with(fail)
  refine zB ?_;intro W0 hW0;obtain⟨hB0,bx1,br,hs0⟩:=qH hW0;obtain⟨c1,c2,c3,c4⟩:=bx1.two;obtain⟨d1,d2,d3,d4⟩:=br.two;have lx1:=lx (nx hB0 (dr W0));go_region_held3 (fun w'=>w'.cell? ⟨w.heap.size,0,none⟩=some (.bool neg)/\w'.cell? ⟨w.heap.size,1,none⟩=some (.slice ao n cap))
    ((((try go_split_ands);(repeat' apply And.intro))<;>first|exact yJ (by assumption)|exact zI (by assumption) hb1|exact zI (by assumption) hb1|exact zAE (zAE (by assumption) oM) oM))
    (first
      |((go_at_call 229;refine(zBW ao n cap xs _ HN.out hq' (hx.ext lx1)).mono ?_;rintro e w1 ⟨ao',len,cap',rfl,hz1,hz2,hz3,hz4,hb1⟩;have br1:=br.drew.below hb1;obtain⟨e1,e2,e3,e4⟩:=br1.two))
      |(fail))
  go_wp2_with fail
  refine zW rfl rfl rfl (br1.put2 _ _) ?_ (zO (zO (nx (nx hB0 (dr W0)) hb1) oM 0 _) oM 1 _);refine zH.ext ?_ (br1.lext2 dE _ _);exact⟨neg,ao',len,cap',xs,rfl,hz1,hz2,hz3,hz4,hN,HZ.out,fun h=>HP.out (by rw[<-HN.out,hz1,h])⟩
theorem zDJ(v1:Value)(z:Int)(w:World)(h1:zH w v1 z):Calls Tryz.prog 149 #[v1] w fun e w'=>e= .returned (.bool true)/\Below w.heap.size w w':=by
  obtain⟨neg,ao,n,cap,xs,rfl,hn,hl,hc,hx,hN,hz,hpos⟩:=h1;have HN:=Lib.hid hn;clear hz;cases n with
  | zero=>
    obtain rfl:=hpos rfl;clear hn;go_enter Tryz.func149,Tryz.ntmps149;go_wp2;go_ret;exact⟨rfl,(Below.refl _ _).alloc (xgf _) _⟩
  | succ n=>
    obtain⟨b,off,x,rfl,hbw,hx32,HX,hck⟩:=hx.limb (k:=n) oM;have hx0:((x:Int) !=0)=true:=by
      have:=hN n hn;rw[HX.out]at this;simpa using this
    clear hn hpos;go_enter Tryz.func149,Tryz.ntmps149;go_wp2;go_ret;exact⟨rfl,(Below.refl _ _).alloc (xgf _) _⟩
theorem zFr(a b:Int):-1<=qJ a b/\qJ a b<=1:=by
  unfold qJ;by_cases h1:a<b
  · rw[if_pos h1];omega
  · rw[if_neg h1];by_cases h2:b<a
    · rw[if_pos h2];omega
    · rw[if_neg h2];omega
theorem zFs{a b:Int}:(qJ a b=-1->a<b)/\(qJ a b=0->a=b)/\(qJ a b=1->b<a):=by
  rcases Int.lt_trichotomy a b with h|h|h
  · rw[yV h];omega
  · rw[zAA h];omega
  · rw[jG h];omega
theorem zGm{a b:Int}(h:qJ a 0≠qJ b 0):qJ (qJ a 0) (qJ b 0)=qJ a b:=by
  rcases Int.lt_trichotomy a 0 with ha|ha|ha<;>rcases Int.lt_trichotomy b 0 with hb|hb|hb
  all_goals first
    |(exfalso;apply h;first|rw[yV ha,yV hb]|rw[zAA ha,zAA hb]|rw[jG ha,jG hb];done)
    | (first|rw[yV ha]|rw[zAA ha]|rw[jG ha]
       first|rw[yV hb]|rw[zAA hb]|rw[jG hb]
       first|(rw[yV (show a<b by omega)];rfl)|(rw[jG (show b<a by omega)];rfl))
theorem zGl{a b:Int}(h:qJ a 0=qJ b 0):qJ a 0*qJ (a.natAbs:Nat) (b.natAbs:Nat)=qJ a b:=by
  rcases Int.lt_trichotomy a 0 with ha|ha|ha
  · rw[yV ha]at h ⊢
    have hb:b<0:=zFs.1 h.symm;rcases Int.lt_trichotomy a b with h1|h1|h1
    · rw[yV h1,jG oM];rfl
    · rw[zAA h1,zAA oM];rfl
    · rw[jG h1,yV oM];rfl
  · rw[zAA ha]at h ⊢
    have hb:b=0:=zFs.2.1 h.symm;rw[Int.zero_mul,zAA (show a=b by omega)]
  · rw[jG ha]at h ⊢
    have hb:0<b:=zFs.2.2 h.symm;rw[Int.one_mul];rcases Int.lt_trichotomy a b with h1|h1|h1
    · rw[yV h1,yV oM]
    · rw[zAA h1,zAA oM]
    · rw[jG h1,jG oM]
theorem zKu(n:Int)(h1:-1<=n)(h2:n<=1):IntKind.i64.wrap n=n:=IntWalk.i64_in n ⟨by omega,by omega⟩
theorem zHg(v1 v2:Value)(z1 z2:Int)(w:World)(h1:zD5 w v1 z1)(h2:zD5 w v2 z2):Calls Tryz.prog 176 #[v1,v2] w fun e w'=>e= .returned (.int .i64 (qJ z1 z2))/\Below w.heap.size w w':=by
  have H1:=Lib.hid h1;have H2:=Lib.hid h2;obtain⟨neg1,ao1,n1,cap1,xs,rfl,hn1,hl1,hc1,hx1,hN1,hz1⟩:=h1;obtain⟨neg2,ao2,n2,cap2,ys,rfl,hn2,hl2,hc2,hx2,hN2,hz2⟩:=h2;have hcall1:=fun W hw=>jI ao1 n1 cap1 xs W hn1 hl1 hc1 hw
  rw[<-hn1,qR hN1,hn1]at hcall1;have hcall2:=fun W hw=>jI ao2 n2 cap2 ys W hn2 hl2 hc2 hw
  rw[<-hn2,qR hN2,hn2]at hcall2;obtain⟨s,hs⟩:∃s,qJ z1 0=s:=⟨_,rfl⟩;obtain⟨t,ht⟩:∃t,qJ z2 0=t:=⟨_,rfl⟩;obtain⟨c,hc⟩:∃c,qJ (nat xs) (nat ys)=c:=⟨_,rfl⟩;have hsb:=zFr z1 0;have htb:=zFr z2 0;have hcb:=zFr (nat xs) (nat ys);have hsg1:=fun W hw=>qV (.agg #[.bool neg1,.slice ao1 n1 cap1]) z1 W hw
  have hsg2:=fun W hw=>qV (.agg #[.bool neg2,.slice ao2 n2 cap2]) z2 W hw
  have hcmp:=fun W h1 h2=>zAK ao1 ao2 n1 n1 n2 n2 xs ys W hn1 hn2 (xgf _) (xgf _) oM oM h1 h2 hN1 hN2
  rw[hs]at hsg1 hsb;rw[ht]at hsg2 htb;rw[hc]at hcmp hcb;have hres:Hid ((s≠t->qJ s t=qJ z1 z2)/\(s=t->s*c=qJ z1 z2)):=by
    subst hs;subst ht;subst hc;refine⟨fun h=>zGm h,fun h=>?_⟩;have:=zGl h;rw[hz1,hz2,zZ,zZ]at this;rw[hz1,hz2];exact this
  clear hn1 hn2 hz1 hz2 hs ht hc;go_enter Tryz.func176,Tryz.ntmps176;go_upto_region 1 with(fail)
  refine zB ?_;intro W0 hW0;obtain⟨hB0,bx1,bx2,hs0⟩:=qH hW0;obtain⟨c1,c2,c3,c4⟩:=bx1.two;obtain⟨d1,d2,d3,d4⟩:=bx2.two;have lx1:=lx (nx hB0 (dr W0));go_region_held3 (fun w'=>w'.cell? ⟨w.heap.size,0,none⟩=some (.bool neg1)/\w'.cell? ⟨w.heap.size,1,none⟩=some (.slice ao1 n1 cap1)/\w'.cell? ⟨w.heap.size+1,0,none⟩=some (.bool neg2)/\w'.cell? ⟨w.heap.size+1,1,none⟩=some (.slice ao2 n2 cap2))
    ((((try go_split_ands);(repeat' apply And.intro))<;>first|exact yJ (by assumption)|exact zI (by assumption) hb1|exact zI (by assumption) hb2|assumption))
    (first
      |(go_at_call_of 160 ao1;refine(hsg1 _ (H1.out.ext lx1)).mono ?_;rintro e w1 ⟨rfl,hb1⟩)
      |(go_at_call_of 160 ao2;refine(hsg2 _ (H2.out.ext (lx (nx (nx hB0 (dr W0)) hb1)))).mono ?_;rintro e w2 ⟨rfl,hb2⟩))
  have hB2:=nx (nx (nx hB0 (dr W0)) hb1) hb2;by_cases hst:s=t
  · subst hst
    have e0:((s:Int) !=s)=false:=by simp
    have HR:Hid (s*c=qJ z1 z2):=hres.out.2 rfl;clear hres;have hq:=fun W=>hcmp W
    have bx1':=(bx1.drew.below hb1).below hb2;have bx2':=(bx2.drew.below hb1).below hb2;clear c1 c2 c3 c4 d1 d2 d3 d4;go_wp2_with fail
    obtain⟨c1,c2,c3,c4⟩:=bx1'.two;obtain⟨d1,d2,d3,d4⟩:=bx2'.two;have hxd1:=hx1.ext (lx (nx hB2 (dr w2)));have hxd2:=hx2.ext (lx (nx hB2 (dr w2)));go_region_held3 (fun w'=>w'.cell? ⟨w.heap.size,1,none⟩=some (.slice ao1 n1 cap1)/\w'.cell? ⟨w.heap.size+1,1,none⟩=some (.slice ao2 n2 cap2))
      ((((try go_split_ands);(repeat' apply And.intro))<;>first|exact yJ (by assumption)|exact zI (by assumption) (drN _ _)|assumption))
      (first
        |(go_at_call_of 224 ao1;refine(hcall1 _ hxd1).mono ?_;rintro e w' ⟨rfl,rfl⟩)
        |(go_at_call_of 224 ao2;refine(hcall2 _ hxd2).mono ?_;rintro e w' ⟨rfl,rfl⟩)
        |(go_at_call 226;refine(hcmp _ hxd1 hxd2).mono ?_;rintro e w' ⟨rfl,q,rfl⟩))
    go_wp2_with fail
    go_ret;have hr:=HR.out;have hbd:=zFr z1 z2;refine⟨?_,nx hB2 (drN _ _)⟩;rw[<-hr]at hbd ⊢
    first|rfl|(show _=Ending.returned (.int .i64 _);simp[IntWalk.wrap64_in _ ⟨show-9223372036854775808<=s*c by omega,by omega⟩,zKu _ hbd.1 hbd.2])
  · have e0:((s:Int) !=t)=true:=by simpa using hst
    have E:=hres.out.1 hst;have hci:=fun W=>zCF s t W
    rw[E]at hci;clear E hst;go_wp2_with (go_at_call 238;refine(hci _).mono ?_;rintro e w' ⟨rfl,rfl⟩)
    go_ret;exact⟨rfl,hB2⟩
theorem zDo(n:Nat)(h:n<4294967296):IntKind.u32.wrap (n:Int)=n:=by rw[IntKind.wrap_u32];omega
theorem zIv(a b:Nat)(hb:b<4294967296):a*4294967296|||b=a*4294967296+b:=by
 have h:=Nat.shiftLeft_add_eq_or_of_lt (i:=32) (show b<2^32 from hb) a;rw[Nat.shiftLeft_eq]at h;exact h.symm
theorem zIw(a b:Nat)(ha:a<4294967296)(hb:b<4294967296):bits BinOp.or IntKind.u64 ((a:Int)*4294967296) (b:Int)=((a*4294967296+b:Nat):Int):=by
 have h:=u64_or_nat (a*4294967296) b oM oM;rw[zIv a b hb]at h;rw[<-h];simp
theorem jR(xs:List Nat)(k:Nat)(h:k<xs.length):nat (xs.drop k)=xs.getD k 0+B32*nat (xs.drop (k+1)):=by
 rw[List.drop_eq_getElem_cons h,yN,xgb,xga h];rfl
theorem zFi{xs zs:List Nat}{k r d x:Nat}(h:nat (xs.drop (k+1))=nat (zs.drop (k+1))*d+r)(hk:k<xs.length)(hkz:k<zs.length)(hx:xs.getD k 0=x):
  nat (xs.drop k)=nat ((zs.set k ((r*4294967296+x)/d)).drop k)*d+(r*4294967296+x)%d:=by
 rw[jR xs k hk,jR _ k (by simpa using hkz),hx,h,zAV,xgb,List.getElem?_set_self hkz,yQ];simp only[Option.getD_some];have e:=Nat.div_add_mod (r*4294967296+x) d;generalize (r*4294967296+x)/d=q at*;generalize (r*4294967296+x)%d=s at*;generalize nat (List.drop (k+1) zs)=z at*;rw[Nat.add_mul,Nat.mul_comm q d,Nat.mul_add,Nat.mul_assoc];omega
theorem zLk(ao:Option Addr)(n cap:Nat)(xs:List Nat)(d:Nat)(w:World)(hn:xs.length=n)(hb:n<=4*LIM)(hx:zG w ao xs)(hd0:0<d)(hd:d<4294967296):
  Calls Tryz.prog 264 #[.slice ao n cap,.int .u32 (d:Nat)] w fun e w'=>
   ∃g qs r,e= .returned (.tuple #[.slice (some ⟨g,0,none⟩) n n,.int .u32 (r:Nat)])/\jQ w' g qs/\qT qs/\qs.length=n/\r<d/\nat xs=nat qs*d+r/\Below w.heap.size w w':=by
 have HN:=Lib.hid hn;have hlen1:xs.length<=n:=by omega
 have hlen1':n<=xs.length:=by omega
 clear hn;rw[qW]at hb;have hmk:=fun W=>mkU (n:Int) n oM oM W
 go_enter Tryz.func264,Tryz.ntmps264;go_wp2;clear hmk;go_loopw [7,8] (fun rv i wr=>∃(k r:Nat) (zs:List Nat),k<=n/\i= .int .i64 ((k:Int)-1)/\rv= .int .u64 r/\r<d/\jQ wr w.heap.size zs/\Below w.heap.size w wr/\n<=zs.length∧
   Hid (zs.length=n/\qT zs/\nat (xs.drop k)=nat (zs.drop k)*d+r)) (fun _ i _=>(intOf i+1).toNat)
 case atStart=>exact⟨n,0,List.replicate n 0,by omega,by go_num,rfl,by omega,jQ.made _ _,(Below.refl _ _).alloc (xgf _) _,by simp,⟨by simp,fun x hx=>by rw[List.eq_of_mem_replicate hx];exact yZ,by rw[List.drop_eq_nil_of_le hlen1,List.drop_eq_nil_of_le sI];simp⟩⟩
 case round=>
  obtain⟨k,r,zs,hk,rfl,rfl,hr,hblk,hbel,hlz,HH⟩:=hrel;cases k with
  |zero=>
   go_wp2;go_ret2;refine⟨_,zs,r,by congr 3,hblk,HH.out.2.1,HH.out.1,hr,by simpa using HH.out.2.2,hbel⟩
  | succ k=>
   have hfr:=hblk.frozen k;obtain⟨b,off,x,rfl,hbw,hx32,HX,hck⟩:=hx.limb (k:=k) oM;have hck':=(hbel.cell (p:=⟨b,off+k,none⟩) hbw).trans hck;have hcz:=hblk.cell (k:=k) oM;clear hck;have eo:=zIw r x oM hx32;have hq:(r*4294967296+x)/d<4294967296:=by
    rw[Nat.div_lt_iff_lt_mul hd0];have:(r+1)*4294967296<=d*4294967296:=Nat.mul_le_mul_right _ hr;omega
   have hr':(r*4294967296+x)%d<d:=Nat.mod_lt _ hd0;have EQ:Hid (((r:Int)*4294967296+x)/d=(((r*4294967296+x)/d:Nat):Int)):=by show _=_;simp
   have ER:Hid (((r:Int)*4294967296+x)%d=(((r*4294967296+x)%d:Nat):Int)):=by show _=_;simp
   go_wp2;go_roundw
   case rel=>exact⟨k,(r*4294967296+x)%d,zs.set k ((r*4294967296+x)/d),by omega,by go_num,by rw[ER.out],hr',hblk.set' _ _ _ (by rw[EQ.out];exact zDo _ hq),hbel.setCell (xgf _) _,by simpa using hlz,
     ⟨by simpa using HH.out.1,HH.out.2.1.set _ _ hq,zFi HH.out.2.2 oM oM HX.out⟩⟩
   case measure=>simp[intOf]
end Go.Proofs.YtnbmaipobhppcaaGreat

namespace Go.Proofs.YtnbmaipobhppcaaGreat
open Go.Shelf Go.RowKit
def Tryz.lays128_ren:Go.Shelf.Ren:=⟨fun|128=>303|n=>n,fun|51=>128|3=>3|4=>4|46=>129|5=>5|9=>9|n=>n,fun|n=>n⟩
def Tryz.lays133_ren:Go.Shelf.Ren:=⟨fun|133=>265|128=>303|n=>n,fun|51=>128|3=>3|4=>4|46=>129|5=>5|9=>9|n=>n,fun|n=>n⟩
theorem Tryz.lays133:Go.Proofs.Lays.n133 Tryz.prog Tryz.lays133_ren:={
 mixed:=by kernel_rfl
 f128:=Tryz.func303.trans (congrArg some kR)
 f133:=Tryz.func265.trans (congrArg some kR)
 t3:=Tryz.underlying3
 a3:=Tryz.isAgg3
 z3:=Tryz.sizeOf3
 v3:=Tryz.zeroValue3
 t4:=Tryz.underlying4
 a4:=Tryz.isAgg4
 z4:=Tryz.sizeOf4
 v4:=Tryz.zeroValue4
 t5:=Tryz.underlying5
 a5:=Tryz.isAgg5
 z5:=Tryz.sizeOf5
 v5:=Tryz.zeroValue5
 t9:=Tryz.underlying9
 a9:=Tryz.isAgg9
 z9:=Tryz.sizeOf9
 v9:=Tryz.zeroValue9
 t46:=Tryz.underlying129
 a46:=Tryz.isAgg129
 z46:=Tryz.sizeOf129
 v46:=Tryz.zeroValue129
 t51:=Tryz.underlying128
 a51:=Tryz.isAgg128
 z51:=Tryz.sizeOf128
 v51:=Tryz.zeroValue128}
theorem Tryz.bits_LeadingZeros32(x:Int)(w:World)(h0:0<=x)(h1:x<=4294967295):
  Calls Tryz.prog 265 #[.int .u32 x] w fun e w'=>e= .returned (.int .i64 (32-(Lib.bitLen x.toNat:Int)))/\w'=w:=Any.bits_LeadingZeros32 Tryz.lays133 x w h0 h1
theorem zCU:∀(f x:Nat),x<2^f->0<x->2^(Lib.bitLenAux f x-1)<=x/\x<2^Lib.bitLenAux f x/\0<Lib.bitLenAux f x
 |0,x,h,h0=>by simp at h;omega
 | f+1,x,h,h0=>by
  unfold Lib.bitLenAux;rw[if_neg oM];by_cases h1:x/2=0
  ·have:x=1:=by omega
   subst this;cases f<;>simp[Lib.bitLenAux]
  ·obtain⟨a,b,c⟩:=zCU f (x/2) (by rw[Nat.pow_succ]at h;omega) oM
   generalize Lib.bitLenAux f (x/2)=m at*;obtain⟨m,rfl⟩:∃k,m=k+1:=⟨m-1,by omega⟩;rw[show 1+(m+1)-1=m+1 by omega,show 1+(m+1)=m+1+1 by omega,Nat.pow_succ,Nat.pow_succ 2 (m+1)];simp only[Nat.add_sub_cancel]at a;omega
theorem zMt(x:Nat)(w:World)(h0:0<x)(h1:x<4294967296):
  ∃s:Nat,s<32/\2147483648<=x*2^s/\x*2^s<4294967296/\∀w,Calls Tryz.prog 265 #[.int .u32 (x:Nat)] w fun e w'=>e= .returned (.int .i64 (s:Nat))/\w=w':=by
 have hsp:=zCU 64 x oM h0;obtain⟨a,b,c⟩:=hsp;have hL:Lib.bitLen x<=32:=by
  unfold Lib.bitLen;rcases Nat.lt_or_ge 32 (Lib.bitLenAux 64 x)with h|h
  ·have:=Nat.pow_le_pow_right (show 0<2 by omega) (show 32<=Lib.bitLenAux 64 x-1 by omega)
   omega
  ·exact h
 refine⟨32-Lib.bitLen x,?_,?_,?_,fun w=>(Tryz.bits_LeadingZeros32 (x:Int) w oM oM).mono fun e w' h=>⟨?_,h.2.symm⟩⟩
 ·unfold Lib.bitLen;omega
 ·unfold Lib.bitLen at*
  generalize Lib.bitLenAux 64 x=m at*;have:2^(m-1)*2^(32-m)=2^31:=by rw[<-Nat.pow_add];congr 1;omega
  have h3:=Nat.mul_le_mul_right (2^(32-m)) a;omega
 ·unfold Lib.bitLen at*
  generalize Lib.bitLenAux 64 x=m at*;have:2^m*2^(32-m)=2^32:=by rw[<-Nat.pow_add];congr 1;omega
  have h3:=(Nat.mul_lt_mul_right (a:=2^(32-m)) (Nat.pow_pos oM)).2 b;omega
 ·rw[h.1]
  simp only[Int.toNat_natCast];congr 2;omega
end Go.Proofs.YtnbmaipobhppcaaGreat

namespace Go.Proofs.YtnbmaipobhppcaaGreat
open Go.RowKit
theorem zPj(d x s:Nat)(hd:d<2^s):d|||x*2^s=d+x*2^s:=by
 have h:=Nat.shiftLeft_add_eq_or_of_lt hd x;rw[Nat.shiftLeft_eq]at h;rw[Nat.or_comm,<-h,Nat.add_comm]
theorem zJC{x s:Nat}(hx:x<4294967296)(hs:s<32):x*2^s<=4294967295*2^s/\4294967296*2^s<18446744073709551616:=by
 refine⟨Nat.mul_le_mul_right _ oM,?_⟩;have:2^s<=2^31:=Nat.pow_le_pow_right oM oM;omega
theorem zOq(d x s:Nat)(hd:d<2^s)(hx:x<4294967296)(hs:s<32):bits BinOp.or IntKind.u64 (d:Int) (IntKind.u64.wrap ((x:Int)*2^s))=((d+x*2^s:Nat):Int):=by
 obtain⟨h1,h2⟩:=zJC hx hs;have e:IntKind.u64.wrap ((x:Int)*2^s)=((x*2^s:Nat):Int):=by
  rw[IntKind.wrap_u64,show(x:Int)*2^s=((x*2^s:Nat):Int) by simp];generalize x*2^s=m at*;generalize 2^s=p at*;omega
 have h:=u64_or_nat d (x*2^s) (by generalize x*2^s=m at*;generalize 2^s=p at*;omega) (by generalize x*2^s=m at*;generalize 2^s=p at*;omega);rw[e,h,zPj d x s hd]
theorem zJx{xs zs:List Nat}{k d x p m:Nat}(h:nat (zs.take k)+d*B32^k=nat (xs.take k)*p)(hk:k<zs.length)(hx:xs.getD k 0=x)(hm:d+x*p=m):
  nat ((zs.set k (m%4294967296)).take (k+1))+m/4294967296*B32^(k+1)=nat (xs.take (k+1))*p:=by
 rw[yU _ _ _ hk,zR xs,hx,Nat.add_mul,<-h,Nat.pow_succ,yQ];have e:=Nat.div_add_mod m 4294967296;generalize m/4294967296=q at*;generalize m%4294967296=r at*;have e1:x*4294967296^k*p=x*p*4294967296^k:=by simp only[Nat.mul_assoc,Nat.mul_comm,Nat.mul_left_comm]
 rw[e1];generalize 4294967296^k=t at*;have e2:(4294967296*q+r)*t=(d+x*p)*t:=by rw[e,hm]
 rw[Nat.add_mul,Nat.add_mul,Nat.mul_comm 4294967296 q,Nat.mul_assoc,Nat.mul_comm 4294967296 t]at e2;omega
theorem zHL(ao:Option Addr)(n cap:Nat)(xs:List Nat)(s:Nat)(w:World)(hn:xs.length=n)(hb:n<=4*LIM)(hx:zG w ao xs)(hs:s<32):
  Calls Tryz.prog 266 #[.slice ao n cap,.int .i64 (s:Nat)] w fun e w'=>
   ∃g zs,e= .returned (.slice (some ⟨g,0,none⟩) (n+1) (n+1))/\w.heap.size<=g/\jQ w' g zs/\qT zs/\zs.length=n+1/\nat zs=nat xs*2^s/\Below w.heap.size w w':=by
 have HN:=Lib.hid hn;have hlen1:xs.length<=n:=by omega
 have hlen1':n<=xs.length:=by omega
 clear hn;rw[qW]at hb;have hmk:=fun W=>mkU ((n:Int)+1) (n+1) oM oM W
 go_enter Tryz.func266,Tryz.ntmps266;go_wp2;clear hmk;go_loopw [6,15] (fun c i wr=>∃(k d:Nat) (zs:List Nat),k<=n/\i= .int .i64 k/\c= .int .u64 d/\d<4294967296/\jQ wr w.heap.size zs/\Below w.heap.size w wr/\n<zs.length∧
   Hid (zs.length=n+1/\qT zs/\d<2^s/\nat (zs.take k)+d*B32^k=nat (xs.take k)*2^s)) (fun _ i _=>n-(intOf i).toNat)
 case atStart=>exact⟨0,0,List.replicate (n+1) 0,by omega,rfl,rfl,by omega,jQ.made _ _,(Below.refl _ _).alloc (xgf _) _,by simp,⟨by simp,fun x hx=>by rw[List.eq_of_mem_replicate hx];exact yZ,Nat.pow_pos oM,by simp⟩⟩
 case round=>
  obtain⟨k,d,zs,hk,rfl,rfl,hd,hblk,hbel,hlz,HH⟩:=hrel;have hfr:=hblk.frozen k;by_cases hkn:k<n
  ·obtain⟨b,off,x,rfl,hbw,hx32,HX,hck⟩:=hx.limb (k:=k) oM
   have hck':=(hbel.cell (p:=⟨b,off+k,none⟩) hbw).trans hck;have hcz:=hblk.cell (k:=k) oM;clear hck;have hor:=zOq d x s HH.out.2.2.1 hx32 hs;obtain⟨hs1,hs2⟩:=zJC hx32 hs;obtain⟨m,hm⟩:∃m,d+x*2^s=m:=⟨_,rfl⟩;rw[hm]at hor;have hmlt:m<4294967296*2^s:=by have:=HH.out.2.2.1;generalize x*2^s=y at*;generalize 2^s=p at*;omega
   have hmd:m/4294967296<2^s:=by omega
   have HM:=Lib.hid hm;have HMD:=Lib.hid hmd;have hm64:m<18446744073709551616:=by generalize 2^s=p at*;omega
   clear hm hmlt hs1 hs2 hmd;go_wp2;go_roundw
   case rel=>exact⟨k+1,m/4294967296,zs.set k (m%4294967296),by omega,by go_num,by go_num,by omega,hblk.set' _ _ _ (by simp[IntKind.wrap_u32]),hbel.setCell (xgf _) _,by simpa using hlz,
     ⟨by simpa using HH.out.1,HH.out.2.1.set _ _ (Nat.mod_lt _ oM),HMD.out,zJx HH.out.2.2.2 oM HX.out HM.out⟩⟩
   case measure=>simp[intOf];omega
  ·obtain rfl:n=k:=by omega
   have hcz:=hblk.cell (k:=n) oM;go_wp2;go_ret;have h1:=HH.out.2.2.2;have h2:=yU zs n d hlz;rw[zJ _ (by simp[HH.out.1]),h1,zJ xs oM]at h2;exact⟨_,zs.set n d,rfl,xgf _,hblk.set' _ _ d (by simp[IntKind.wrap_u32]),HH.out.2.1.set _ _ hd,by simpa using HH.out.1,h2,hbel.setCell (xgf _) _⟩
end Go.Proofs.YtnbmaipobhppcaaGreat

namespace Go.Proofs.YtnbmaipobhppcaaGreat
def seg(us:List Nat)(off k:Nat):List Nat:=(us.drop off).take k
theorem zFh{us:List Nat}{off k:Nat}(h:off+k<=us.length):(seg us off k).length=k:=by unfold seg;simp;omega
theorem zNN{us:List Nat}{off k:Nat}(h:off+k<us.length):seg us off (k+1)=seg us off k++ [us.getD (off+k) 0]:=by
 unfold seg;rw[zBS _ _ (by simp;omega)];simp[xgb,List.getElem?_drop]
theorem zDz{us:List Nat}{off k:Nat}(h:off+k<us.length):nat (seg us off (k+1))=nat (seg us off k)+us.getD (off+k) 0*B32^k:=by
 rw[zNN h,zAw,zFh (by omega),Nat.mul_comm]
theorem qT.drop{xs:List Nat}(h:qT xs)(k:Nat):qT (xs.drop k):=fun x hx=>h x (List.mem_of_mem_drop hx)
theorem qT.seg{xs:List Nat}(h:qT xs)(off k:Nat):qT (seg xs off k):=(h.drop off).take k
def put(us:List Nat)(off:Nat)(ms:List Nat):List Nat:=us.take off++ms++us.drop (off+ms.length)
theorem zBa{us ms:List Nat}{off:Nat}(h:off+ms.length<=us.length):(put us off ms).length=us.length:=by unfold put;simp;omega
theorem zOv(us:List Nat)(off:Nat):put us off []=us:=by unfold put;simp
theorem zLP{us ms:List Nat}{off v:Nat}(h:off+ms.length<us.length):(put us off ms).set (off+ms.length) v=put us off (ms++ [v]):=by
 unfold put;have h1:(us.take off++ms).length=off+ms.length:=by simp;omega
 rw[List.set_append_right _ _ (by rw[h1];omega),h1,Nat.sub_self,List.drop_eq_getElem_cons h];simp[Nat.add_assoc]
theorem zI4{us ms:List Nat}{off k:Nat}(h:off+ms.length<=us.length)(hk:ms.length<=k):(put us off ms).getD (off+k) 0=us.getD (off+k) 0:=by
 unfold put;have h1:(us.take off++ms).length=off+ms.length:=by simp;omega
 simp only[xgb];rw[List.getElem?_append_right (by rw[h1];omega),h1,List.getElem?_drop];congr 2;omega
theorem zIB{us ms:List Nat}{off k:Nat}(h:off+ms.length<=us.length)(hk:k<ms.length):(put us off ms).getD (off+k) 0=ms.getD k 0:=by
 unfold put;have h2:(us.take off).length=off:=by simp;omega
 simp only[xgb];rw[List.getElem?_append_left (by simp;omega),List.getElem?_append_right (by rw[h2];omega),h2];congr 2;omega
theorem zLO{us ms:List Nat}{off:Nat}(h:qT us)(hm:qT ms):qT (put us off ms):=((h.take off).append hm).append (h.drop _)
theorem zJl{us ms:List Nat}{off k v:Nat}(h:off+ms.length<=us.length)(hk:k<ms.length):(put us off ms).set (off+k) v=put us off (ms.set k v):=by
 unfold put;have h2:(us.take off).length=off:=by simp;omega
 rw[List.set_append_left _ _ (by simp;omega),List.set_append_right _ _ (by rw[h2];omega),h2,Nat.add_sub_cancel_left];simp
theorem zM2{vs:List Nat}{n:Nat}(hv:qT vs)(hl:vs.length=n+2):
  ∃l,l<B32^n/\nat vs=(vs.getD (n+1) 0*B32+vs.getD n 0)*B32^n+l:=by
 refine⟨nat (vs.take n),?_,?_⟩
 ·have:=jZ (hv.take n);rwa[List.length_take,Nat.min_eq_left (by omega)]at this
 ·have h1:=zR vs (n+1)
  have h2:=zR vs n;rw[zJ vs (by omega),h2,Nat.pow_succ]at h1;rw[h1,Nat.add_mul,Nat.mul_assoc,Nat.mul_comm B32 (B32^n)];omega
theorem zM3{us:List Nat}{n:Nat}(hv:qT us)(hl:us.length=n+3):
  ∃l,l<B32^n/\nat us=((us.getD (n+2) 0*B32+us.getD (n+1) 0)*B32+us.getD n 0)*B32^n+l:=by
 refine⟨nat (us.take n),?_,?_⟩
 ·have:=jZ (hv.take n);rwa[List.length_take,Nat.min_eq_left (by omega)]at this
 ·have h1:=zR us (n+2)
  have h2:=zR us (n+1);have h3:=zR us n;rw[zJ us (by omega),h2,h3]at h1;rw[h1,show B32^(n+2)=B32*(B32*B32^n) by rw[Nat.pow_succ,Nat.pow_succ,Nat.mul_comm,Nat.mul_comm (B32^n)],show B32^(n+1)=B32*B32^n by rw[Nat.pow_succ,Nat.mul_comm]];generalize B32^n=P;simp only[Nat.add_mul,Nat.mul_assoc];omega
theorem zOh(t B p:Nat):t*(B*p)=t*p*B:=by rw[Nat.mul_comm B p,<-Nat.mul_assoc]
section
variable {U V Q h v2 u2 top p Ul Vl:Nat} (hU:U=(top*4294967296+u2)*p+Ul) (hV:V=(h*4294967296+v2)*p+Vl) (hp:0<p) (hUl:Ul<p) (hVl:Vl<p)
 (hu2:u2<4294967296) (hv2:v2<4294967296) (hh:2147483648<=h) (hh2:h<4294967296) (hQ:Q*V<=U) (hQB:Q<4294967296) (hUV:U<V*4294967296)
include hU hV hp hUl hVl hu2 hv2 hh hh2 hQ hQB hUV
omit hUl hu2 hh hh2 hQ hQB hUV in
theorem zQL{q r:Nat}(hqr:q*h+r=top)(hb:r*4294967296+u2<q*v2)(hUl:Ul<p):U<q*V:=by
 have h1:top*4294967296+u2+1<=q*(h*4294967296+v2):=by
  rw[<-hqr,Nat.mul_add,Nat.add_mul,Nat.mul_assoc];omega
 have h2:=Nat.mul_le_mul_right p h1;rw[hU,hV,Nat.mul_add,<-Nat.mul_assoc];rw[Nat.add_mul _ 1 p]at h2;omega
theorem zPe{q r:Nat}(hqr:q*h+r=top)(hq:Q<=q)(hb:q>4294967295∨r*4294967296+u2<q*v2):Q<=q-1:=by
 rcases hb with hb|hb
 ·omega
 ·have h1:=zQL hU hV hp hVl hv2 hqr hb hUl
  rcases Nat.lt_or_ge Q q with h2|h2
  ·omega
  ·have:=Nat.mul_le_mul_right V h2;omega
theorem zOU:Q<=top/h:=by
 rw[Nat.le_div_iff_mul_le (by omega)];rcases Nat.lt_or_ge top (Q*h)with h1|h1
 ·exfalso
  have h2:(top+1)*(4294967296*p)<=Q*h*(4294967296*p):=Nat.mul_le_mul_right _ h1;have h3:Q*h*(4294967296*p)<=Q*V:=by
   rw[hV,Nat.mul_assoc];refine Nat.mul_le_mul_left _ ?_;rw[Nat.add_mul,<-Nat.mul_assoc];omega
  have h4:U<(top+1)*(4294967296*p):=by
   rw[hU,Nat.add_mul,Nat.add_mul,<-Nat.mul_assoc];have:(u2+1)*p<=4294967296*p:=Nat.mul_le_mul_right _ hu2;rw[Nat.add_mul]at this;omega
  omega
 ·exact h1
theorem zNq:top<(h+1)*4294967296:=by
 rcases Nat.lt_or_ge top ((h+1)*4294967296)with h1|h1
 ·exact h1
 ·exfalso
  have h2:V<(h+1)*4294967296*p:=by
   rw[hV];have:(h*4294967296+v2+1)*p<=(h+1)*4294967296*p:=Nat.mul_le_mul_right _ (by omega);rw[Nat.add_mul _ 1]at this;omega
  have h3:=Nat.mul_le_mul_right (4294967296*p) h1;have h4:top*(4294967296*p)<=U:=by rw[hU,Nat.add_mul,<-Nat.mul_assoc,Nat.add_assoc];exact Nat.le_add_right _ _
  rw[zOh]at h3;have h5:=Nat.mul_le_mul_right 4294967296 (Nat.le_of_lt h2);exact absurd (Nat.lt_of_lt_of_le hUV (Nat.le_trans h5 (Nat.le_trans h3 h4))) (Nat.lt_irrefl _)
theorem zMq:top/h<=4294967297:=by
 have h1:=zNq hU hV hp hUl hVl hu2 hv2 hh hh2 hQ hQB hUV;have:top/h<4294967298:=by
  rw[Nat.div_lt_iff_lt_mul (by omega)];omega
 omega
theorem zQM{q r:Nat}(hqr:q*h+r=top)(hqB:q<4294967296)(hb:q*v2<=r*4294967296+u2):q<=Q+1∨q*V<U+V:=by
 right;have h1:q*(h*4294967296+v2)<=top*4294967296+u2:=by
  rw[<-hqr,Nat.mul_add,Nat.add_mul,Nat.mul_assoc];omega
 have h2:=Nat.mul_le_mul_right p h1;rw[hV,Nat.mul_add,<-Nat.mul_assoc,hU];have h3:q*Vl<=4294967295*p:=Nat.mul_le_mul (by omega) (by omega);have h4:4294967296*p<=h*4294967296*p:=Nat.mul_le_mul_right _ (by omega);rw[Nat.add_mul (h*4294967296)];omega
theorem zOV{q r:Nat}(hqr:q*h+r=top)(hr:4294967295<r):q<4294967296/\q*v2<=r*4294967296+u2:=by
 have h1:=zNq hU hV hp hUl hVl hu2 hv2 hh hh2 hQ hQB hUV;have h2:q<4294967296:=by
  rcases Nat.lt_or_ge q 4294967296 with h3|h3
  ·exact h3
  ·have:=Nat.mul_le_mul_right h h3;omega
 refine⟨h2,?_⟩;have h3:q*v2<=4294967296*4294967296:=Nat.mul_le_mul (by omega) (by omega);omega
end
theorem zK6{us ms vs:List Nat}{off q b c x e v b' c':Nat}(h:nat ms+q*nat (vs.take ms.length)=nat (seg us off ms.length)+(b+c)*B32^ms.length)(hk:off+ms.length<us.length)
  (hx:us.getD (off+ms.length) 0=x) (he:vs.getD ms.length 0=e) (hv:v+(c+q*e)+b=x+(b'+c')*4294967296):
  nat (ms++ [v])+q*nat (vs.take (ms.length+1))=nat (seg us off (ms.length+1))+(b'+c')*B32^(ms.length+1):=by
 rw[zAw,zDz hk,zR,hx,he,Nat.pow_succ,yQ,Nat.mul_add,<-Nat.mul_assoc q];rw[yQ]at h;generalize 4294967296^ms.length=p at*;have e1:(v+(c+q*e)+b)*p=(x+(b'+c')*4294967296)*p:=by rw[hv]
 have e2:(b'+c')*(p*4294967296)=(b'+c')*4294967296*p:=by rw[Nat.mul_assoc,Nat.mul_comm p]
 rw[e2,Nat.mul_comm p v];simp only[Nat.add_mul]at*;omega
theorem zGa{ms vs rr:List Nat}{c x e:Nat}(h:nat rr+c*B32^rr.length=nat (ms.take rr.length)+nat (vs.take rr.length))(hx:ms.getD rr.length 0=x)(he:vs.getD rr.length 0=e):
  nat (rr++ [(c+(x+e))%4294967296])+(c+(x+e))/4294967296*B32^(rr.length+1)=nat (ms.take (rr.length+1))+nat (vs.take (rr.length+1)):=by
 rw[zAw,zR,zR,hx,he,Nat.pow_succ,yQ];rw[yQ]at h;generalize 4294967296^rr.length=p at*;have e0:=Nat.div_add_mod (c+(x+e)) 4294967296;generalize (c+(x+e))/4294967296=q at*;generalize hr:(c+(x+e))%4294967296=r at*;have e2:(4294967296*q+r)*p=(c+(x+e))*p:=by rw[e0]
 rw[Nat.add_mul,Nat.mul_comm 4294967296 q,Nat.mul_assoc,Nat.mul_comm 4294967296 p,Nat.add_mul,Nat.add_mul]at e2;rw[Nat.mul_comm p r];omega
end Go.Proofs.YtnbmaipobhppcaaGreat
