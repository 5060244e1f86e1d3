/- Numbers to the base 2^32 as lists of limbs: plain arithmetic, no program. What integers of the program look like in memory: limbs, integers, frames; over any world. -/
import Derived.Test.YtgnmdddaiefooaaGreatRows
import Derived.WalkKit
import Derived.WalkSpells
import Derived.WalkLawsBesides
import Derived.Lib.Hide
import Derived.Deep.Draws
set_option linter.unusedVariables false
set_option linter.unusedSimpArgs false
set_option linter.unusedSectionVars false
set_option maxHeartbeats 16000000
set_option maxRecDepth 100000
namespace Go.Proofs.YtgnmdddaiefooaaGreat
def B32:Nat:=4294967296
theorem yL:B32=4294967296:=rfl
theorem yT:0<B32:=by decide
def nat:List Nat->Nat
 | []=>0
 |x::xs=>x+B32*nat xs
@[simp] theorem nat_nil:nat []=0:=rfl
theorem yK(x:Nat)(xs:List Nat):nat (x::xs)=x+B32*nat xs:=rfl
theorem zBP(xs ys:List Nat):nat (xs++ys)=nat xs+B32^xs.length*nat ys:=by
 induction xs with
 |nil=>simp
 |cons x xs ih=>
  simp only[List.cons_append,yK,ih,List.length_cons,Nat.pow_succ,Nat.mul_add];rw[Nat.add_assoc,<-Nat.mul_assoc,Nat.mul_comm B32 (B32^xs.length)]
theorem zAk(xs:List Nat)(y:Nat):nat (xs++ [y])=nat xs+B32^xs.length*y:=by
 rw[zBP];simp[yK]
def qN(xs:List Nat):Prop:=∀x∈xs,x<B32
theorem qN.cons{x:Nat}{xs:List Nat}(h:qN (x::xs)):x<B32/\qN xs:=
 ⟨h x (by simp),fun y hy=>h y (by simp[hy])⟩
theorem qN.nil:qN []:=by intro x hx;cases hx
theorem qN.take{xs:List Nat}(h:qN xs)(k:Nat):qN (xs.take k):=fun x hx=>h x (List.mem_of_mem_take hx)
theorem qN.append{xs ys:List Nat}(h:qN xs)(k:qN ys):qN (xs++ys):=fun x hx=>by
 rcases List.mem_append.1 hx with h1|h1
 ·exact h x h1
 ·exact k x h1
theorem qN.get{xs:List Nat}(h:qN xs)(k:Nat):xs.getD k 0<B32:=by
 rw[List.getD_eq_getElem?_getD];rcases Nat.lt_or_ge k xs.length with hk|hk
 ·rw[List.getElem?_eq_getElem hk];exact h _ (List.getElem_mem hk)
 ·rw[List.getElem?_eq_none hk];exact yT
theorem jW{xs:List Nat}(h:qN xs):nat xs<B32^xs.length:=by
 induction xs with
 |nil=>simp
 |cons x xs ih=>
  obtain⟨hx,hxs⟩:=h.cons;have:=ih hxs;simp only[yK,List.length_cons,Nat.pow_succ];have h2:B32*(nat xs+1)<=B32*B32^xs.length:=Nat.mul_le_mul_left _ this;rw[Nat.mul_add]at h2;rw[Nat.mul_comm (B32^xs.length)];omega
def qP(xs:List Nat):Prop:=∀n,xs.length=n+1->xs.getD n 0≠0
theorem qP.nil:qP []:=by intro n h;simp at h
theorem qP.tail{x:Nat}{xs:List Nat}(h:qP (x::xs)):qP xs:=by
 intro n hn;have:=h (n+1) (by simp[hn]);simpa using this
theorem zDn{xs:List Nat}(h:qP xs){n:Nat}(hn:xs.length=n+1):B32^n<=nat xs:=by
 induction xs generalizing n with
 |nil=>simp at hn
 | cons x xs ih=>
  simp at hn;rw[yK];cases n with
  |zero=>
   have h0:=h 0 (by simp[hn]);have:xs= []:=List.eq_nil_of_length_eq_zero hn;subst this;simp at h0 ⊢
   omega
  |succ n=>
   have:=ih h.tail (n:=n) (by omega);have h2:=Nat.mul_le_mul_left B32 this;rw[Nat.pow_succ,Nat.mul_comm];omega
theorem zHe{xs:List Nat}(h:qP xs)(hne:xs≠ []):0<nat xs:=by
 cases hx:xs.length with
 |zero=>exact absurd (List.eq_nil_of_length_eq_zero hx) hne
 |succ n=>exact Nat.lt_of_lt_of_le (Nat.pow_pos yT) (zDn h hx)
theorem zCj{xs:List Nat}(h:qP xs):nat xs=0↔xs= []:=by
 constructor
 ·intro h0
  by_cases hne:xs= []
  ·exact hne
  ·have:=zHe h hne;omega
 ·rintro rfl;rfl
theorem zAa{a b:Nat}(h:a<=b):B32^a<=B32^b:=Nat.pow_le_pow_right yT h
theorem zAF{xs ys:List Nat}(hx:qN xs)(hn:qP ys)(h:nat ys<=nat xs):ys.length<=xs.length:=by
 rcases Nat.lt_or_ge xs.length ys.length with hlt|hge
 ·cases hy:ys.length with
  |zero=>omega
  |succ n=>
   have h1:=zDn hn hy;have h2:=jW hx;have h3:=zAa (show xs.length<=n by omega);omega
 ·exact hge
theorem zBG(xs:List Nat)(n:Nat)(h:n<xs.length):xs.take (n+1)=xs.take n++ [xs.getD n 0]:=by
 rw[List.take_succ_eq_append_getElem h];simp[List.getD_eq_getElem?_getD,List.getElem?_eq_getElem h]
theorem zO(xs:List Nat)(k:Nat):nat (xs.take (k+1))=nat (xs.take k)+xs.getD k 0*B32^k:=by
 rcases Nat.lt_or_ge k xs.length with h|h
 ·rw[zBG xs k h,zAk,List.length_take,Nat.min_eq_left (by omega),Nat.mul_comm]
 ·rw[List.take_of_length_le (by omega),List.take_of_length_le h,List.getD_eq_getElem?_getD,List.getElem?_eq_none h];simp
theorem yO(zs:List Nat)(k v:Nat)(h:k<zs.length):nat ((zs.set k v).take (k+1))=nat (zs.take k)+v*B32^k:=by
 rw[zO,List.take_set_of_le (by omega),List.getD_eq_getElem?_getD,List.getElem?_set_self h];rfl
theorem qN.set{zs:List Nat}(h:qN zs)(k v:Nat)(hv:v<B32):qN (zs.set k v):=fun x hx=>by
 rcases List.mem_or_eq_of_mem_set hx with h1|h1
 ·exact h x h1
 ·subst h1;exact hv
theorem zH(xs:List Nat){n:Nat}(h:xs.length<=n):nat (xs.take n)=nat xs:=by rw[List.take_of_length_le h]
theorem zBy{xs ys zs:List Nat}{k d x y:Nat}(h:nat (zs.take k)+d*B32^k=nat (xs.take k)+nat (ys.take k))(hk:k<zs.length)
  (hx:xs.getD k 0=x) (hy:ys.getD k 0=y):
  nat ((zs.set k ((d+x+y)%4294967296)).take (k+1))+(d+x+y)/4294967296*B32^(k+1)=nat (xs.take (k+1))+nat (ys.take (k+1)):=by
 rw[yO _ _ _ hk,zO,zO,hx,hy,Nat.pow_succ,yL];rw[yL]at h;generalize 4294967296^k=p at*;generalize nat (List.take k zs)=a at*;generalize nat (List.take k xs)=b at*;generalize nat (List.take k ys)=c at*;have e:=Nat.div_add_mod (d+x+y) 4294967296;generalize (d+x+y)/4294967296=q at*;generalize (d+x+y)%4294967296=r at*;have e2:r*p+q*(p*4294967296)=(d+x+y)*p:=by rw[<-e,Nat.add_mul,Nat.mul_comm 4294967296 q,Nat.mul_assoc,Nat.mul_comm 4294967296 p,Nat.add_comm]
 rw[Nat.add_mul,Nat.add_mul]at e2;omega
def qW(xs:List Nat):Nat->Nat
 |0=>0
 |n+1=>if xs.getD n 0=0 then qW xs n else n+1
theorem zAy(xs:List Nat):∀n,qW xs n<=n
 |0=>Nat.le_refl _
 |n+1=>by
  unfold qW;split
  ·have:=zAy xs n;omega
  ·omega
theorem zFd(xs:List Nat):∀n,n<=xs.length->nat (xs.take (qW xs n))=nat (xs.take n)
 |0,_=>rfl
 | n+1,h=>by
  unfold qW;split
  ·rename_i h0
   rw[zFd xs n (by omega),zBG xs n (by omega),zAk,h0];simp
  ·rfl
theorem zAR(xs:List Nat):∀n,n<=xs.length->qP (xs.take (qW xs n))
 |0,_=>by simpa[qW]using qP.nil
 | n+1,h=>by
  unfold qW;split
  ·exact zAR xs n (by omega)
  ·rename_i h0
   intro k hk;rw[List.length_take,Nat.min_eq_left h]at hk;have:k=n:=by omega
   subst this;rw[List.getD_eq_getElem?_getD,List.getElem?_take,if_pos (by omega),<-List.getD_eq_getElem?_getD];exact h0
def zAz(xs:List Nat):List Nat:=xs.take (qW xs xs.length)
theorem zE9(xs:List Nat):(zAz xs).length=qW xs xs.length:=by
 unfold zAz;rw[List.length_take,Nat.min_eq_left (zAy _ _)]
theorem zAY(xs:List Nat):nat (zAz xs)=nat xs:=by
 unfold zAz;rw[zFd xs _ (Nat.le_refl _),List.take_of_length_le (Nat.le_refl _)]
theorem zBH(xs:List Nat):qP (zAz xs):=zAR xs _ (Nat.le_refl _)
theorem qV{xs:List Nat}(h:qP xs):qW xs xs.length=xs.length:=by
 cases hx:xs.length with
 |zero=>rfl
 |succ n=>unfold qW;rw[if_neg (h n hx)]
theorem zC6(xs:List Nat)(k:Nat)(h:k<xs.length):nat xs=nat (xs.take k)+B32^k*(xs.getD k 0+B32*nat (xs.drop (k+1))):=by
 have e:xs=xs.take k++xs.getD k 0::xs.drop (k+1):=by
  rw[List.getD_eq_getElem?_getD,List.getElem?_eq_getElem h];simp
 have hl:(xs.take k).length=k:=by rw[List.length_take,Nat.min_eq_left (by omega)]
 have:=congrArg nat e;rw[zBP,hl,yK]at this;exact this
theorem zID{xs ys:List Nat}{k x y:Nat}(hx:qN xs)(hkx:k<xs.length)(hky:k<ys.length)(hd:xs.drop (k+1)=ys.drop (k+1))
  (ex:xs.getD k 0=x) (ey:ys.getD k 0=y) (h:x<y):nat xs<nat ys:=by
 rw[zC6 xs k hkx,zC6 ys k hky,hd,ex,ey];have h1:=jW (hx.take k);rw[List.length_take,Nat.min_eq_left (by omega)]at h1;have h2:B32^k*(x+B32*nat (List.drop (k+1) ys)+1)<=B32^k*(y+B32*nat (List.drop (k+1) ys)):=Nat.mul_le_mul_left _ (by omega);rw[Nat.mul_add _ _ 1]at h2;omega
theorem zFi{xs ys:List Nat}(hx:qN xs)(hy:qP ys)(h:xs.length<ys.length):nat xs<nat ys:=by
 cases hl:ys.length with
 |zero=>omega
 |succ n=>
  have h1:=zDn hy hl;have h2:=jW hx;have h3:=zAa (show xs.length<=n by omega);omega
def qO(a b:Int):Int:=if a<b then-1 else if b<a then 1 else 0
def sgn(neg:Bool)(n:Nat):Int:=if neg then-(n:Int)else(n:Int)
@[simp] theorem sgn_true (n:Nat):sgn true n=-(n:Int):=rfl
@[simp] theorem sgn_false (n:Nat):sgn false n=(n:Int):=rfl
theorem zEB(b:Bool):sgn b 0=0:=by cases b<;>rfl
theorem qD(b:Bool)(n:Nat):(sgn b n).natAbs=n:=by cases b<;>simp[sgn]
abbrev xga:=@List.getElem?_eq_getElem
abbrev xgb:=@List.getD_eq_getElem?_getD
abbrev xgc:=@Array.getElem?_setIfInBounds_ne
abbrev xgd:=@List.mem_of_getElem?
abbrev xge:=@List.getElem?_eq_some_iff
abbrev xgf:=@Nat.le_refl
abbrev xgg:=@exists_eq_left
abbrev xgh:=@List.setIfInBounds_toArray
abbrev xgi:=@List.set_cons_zero
abbrev xgj:=@List.set_cons_succ
abbrev xgk:=@List.drop_zero
abbrev xgl:=@List.drop_succ_cons
abbrev xgm:=@List.forall_mem_cons
abbrev xgn:=@List.forall_mem_nil
theorem mm0{α:Type _}{x:α}{l:List α}:x∈x::l:=.head _
theorem mm1{α:Type _}{a0 x:α}{l:List α}:x∈a0::x::l:=.tail _ mm0
abbrev mm2:=fun{α:Type}{a b x:α}{l:List α}=>List.Mem.tail a (@mm1 α b x l)
abbrev mm3:=fun{α:Type}{a b c x:α}{l:List α}=>List.Mem.tail a (@mm2 α b c x l)
abbrev mm4:=fun{α:Type}{a b c d x:α}{l:List α}=>List.Mem.tail a (@mm3 α b c d x l)
abbrev mm5:=fun{α:Type}{a b c d e x:α}{l:List α}=>List.Mem.tail a (@mm4 α b c d e x l)
abbrev mm6:=fun{α:Type}{a b c d e f x:α}{l:List α}=>List.Mem.tail a (@mm5 α b c d e f x l)
abbrev mm7:=fun{α:Type}{a b c d e f g x:α}{l:List α}=>List.Mem.tail a (@mm6 α b c d e f g x l)
abbrev mm8:=fun{α:Type}{a b c d e f g h x:α}{l:List α}=>List.Mem.tail a (@mm7 α b c d e f g h x l)
abbrev mm9:=fun{α:Type}{a b c d e f g h i x:α}{l:List α}=>List.Mem.tail a (@mm8 α b c d e f g h i x l)
abbrev yD:=fun{α:Type}{a b c d e f g h i j x:α}{l:List α}=>List.Mem.tail a (@mm9 α b c d e f g h i j x l)
abbrev zAB:=fun{α:Type}{a b c d e f g h i j k x:α}{l:List α}=>List.Mem.tail a (@yD α b c d e f g h i j k x l)
abbrev zAh:=fun{α:Type}{a b c d e f g h i j k L x:α}{l:List α}=>List.Mem.tail a (@zAB α b c d e f g h i j k L x l)
abbrev zBv:=fun{α:Type}{a b c d e f g h i j k L m x:α}{l:List α}=>List.Mem.tail a (@zAh α b c d e f g h i j k L m x l)
abbrev zBF:=fun{α:Type}{a b c d e f g h i j k L m n x:α}{l:List α}=>List.Mem.tail a (@zBv α b c d e f g h i j k L m n x l)
abbrev zCN:=fun{α:Type}{a b c d e f g h i j k L m n o x:α}{l:List α}=>List.Mem.tail a (@zBF α b c d e f g h i j k L m n o x l)
abbrev zCf:=fun{α:Type}{a b c d e f g h i j k L m n o p x:α}{l:List α}=>List.Mem.tail a (@zCN α b c d e f g h i j k L m n o p x l)
abbrev zCg:=fun{α:Type}{a b c d e f g h i j k L m n o p q x:α}{l:List α}=>List.Mem.tail a (@zCf α b c d e f g h i j k L m n o p q x l)
abbrev zCh:=fun{α:Type}{a b c d e f g h i j k L m n o p q r x:α}{l:List α}=>List.Mem.tail a (@zCg α b c d e f g h i j k L m n o p q r x l)
abbrev zDW:=fun{α:Type}{a b c d e f g h i j k L m n o p q r s x:α}{l:List α}=>List.Mem.tail a (@zCh α b c d e f g h i j k L m n o p q r s x l)
abbrev zD6:=fun{α:Type}{a b c d e f g h i j k L m n o p q r s t x:α}{l:List α}=>List.Mem.tail a (@zDW α b c d e f g h i j k L m n o p q r s t x l)
abbrev zEf:=fun{α:Type}{a b c d e f g h i j k L m n o p q r s t u x:α}{l:List α}=>List.Mem.tail a (@zD6 α b c d e f g h i j k L m n o p q r s t u x l)
abbrev zEg:=fun{α:Type}{a b c d e f g h i j k L m n o p q r s t u v x:α}{l:List α}=>List.Mem.tail a (@zEf α b c d e f g h i j k L m n o p q r s t u v x l)
abbrev zEh:=fun{α:Type}{a b c d e f g h i j k L m n o p q r s t u v w x:α}{l:List α}=>List.Mem.tail a (@zEg α b c d e f g h i j k L m n o p q r s t u v w x l)
abbrev zGC:=fun{α:Type}{a b c d e f g h i j k L m n o p q r s t u v w X x:α}{l:List α}=>List.Mem.tail a (@zEh α b c d e f g h i j k L m n o p q r s t u v w X x l)
abbrev zGD:=fun{α:Type}{a b c d e f g h i j k L m n o p q r s t u v w X y x:α}{l:List α}=>List.Mem.tail a (@zGC α b c d e f g h i j k L m n o p q r s t u v w X y x l)
abbrev zHd:=fun{α:Type}{a b c d e f g h i j k L m n o p q r s t u v w X y z x:α}{l:List α}=>List.Mem.tail a (@zGD α b c d e f g h i j k L m n o p q r s t u v w X y z x l)
abbrev zGE:=fun{α:Type}{a b c d e f g h i j k L m n o p q r s t u v w X y z a1 x:α}{l:List α}=>List.Mem.tail a (@zHd α b c d e f g h i j k L m n o p q r s t u v w X y z a1 x l)
abbrev zIS:=fun{α:Type}{a b c d e f g h i j k L m n o p q r s t u v w X y z a1 b1 x:α}{l:List α}=>List.Mem.tail a (@zGE α b c d e f g h i j k L m n o p q r s t u v w X y z a1 b1 x l)
abbrev zIT:=fun{α:Type}{a b c d e f g h i j k L m n o p q r s t u v w X y z a1 b1 c1 x:α}{l:List α}=>List.Mem.tail a (@zIS α b c d e f g h i j k L m n o p q r s t u v w X y z a1 b1 c1 x l)
abbrev zJD:=fun{α:Type}{a b c d e f g h i j k L m n o p q r s t u v w X y z a1 b1 c1 d1 x:α}{l:List α}=>List.Mem.tail a (@zIT α b c d e f g h i j k L m n o p q r s t u v w X y z a1 b1 c1 d1 x l)
abbrev zMG:=fun{α:Type}{a b c d e f g h i j k L m n o p q r s t u v w X y z a1 b1 c1 d1 e1 x:α}{l:List α}=>List.Mem.tail a (@zJD α b c d e f g h i j k L m n o p q r s t u v w X y z a1 b1 c1 d1 e1 x l)
abbrev zKe:=fun{α:Type}{a b c d e f g h i j k L m n o p q r s t u v w X y z a1 b1 c1 d1 e1 f1 x:α}{l:List α}=>List.Mem.tail a (@zMG α b c d e f g h i j k L m n o p q r s t u v w X y z a1 b1 c1 d1 e1 f1 x l)
abbrev zOM:=fun{α:Type}{a b c d e f g h i j k L m n o p q r s t u v w X y z a1 b1 c1 d1 e1 f1 g1 x:α}{l:List α}=>List.Mem.tail a (@zKe α b c d e f g h i j k L m n o p q r s t u v w X y z a1 b1 c1 d1 e1 f1 g1 x l)
abbrev zON:=fun{α:Type}{a b c d e f g h i j k L m n o p q r s t u v w X y z a1 b1 c1 d1 e1 f1 g1 h1 x:α}{l:List α}=>List.Mem.tail a (@zOM α b c d e f g h i j k L m n o p q r s t u v w X y z a1 b1 c1 d1 e1 f1 g1 h1 x l)
abbrev zOO:=fun{α:Type}{a b c d e f g h i j k L m n o p q r s t u v w X y z a1 b1 c1 d1 e1 f1 g1 h1 i1 x:α}{l:List α}=>List.Mem.tail a (@zON α b c d e f g h i j k L m n o p q r s t u v w X y z a1 b1 c1 d1 e1 f1 g1 h1 i1 x l)
abbrev zM3:=fun{α:Type}{a b c d e f g h i j k L m n o p q r s t u v w X y z a1 b1 c1 d1 e1 f1 g1 h1 i1 j1 x:α}{l:List α}=>List.Mem.tail a (@zOO α b c d e f g h i j k L m n o p q r s t u v w X y z a1 b1 c1 d1 e1 f1 g1 h1 i1 j1 x l)
abbrev zOP:=fun{α:Type}{a b c d e f g h i j k L m n o p q r s t u v w X y z a1 b1 c1 d1 e1 f1 g1 h1 i1 j1 k1 x:α}{l:List α}=>List.Mem.tail a (@zM3 α b c d e f g h i j k L m n o p q r s t u v w X y z a1 b1 c1 d1 e1 f1 g1 h1 i1 j1 k1 x l)
abbrev zOQ:=fun{α:Type}{a b c d e f g h i j k L m n o p q r s t u v w X y z a1 b1 c1 d1 e1 f1 g1 h1 i1 j1 k1 l1 x:α}{l:List α}=>List.Mem.tail a (@zOP α b c d e f g h i j k L m n o p q r s t u v w X y z a1 b1 c1 d1 e1 f1 g1 h1 i1 j1 k1 l1 x l)
abbrev zOR:=fun{α:Type}{a b c d e f g h i j k L m n o p q r s t u v w X y z a1 b1 c1 d1 e1 f1 g1 h1 i1 j1 k1 l1 m1 x:α}{l:List α}=>List.Mem.tail a (@zOQ α b c d e f g h i j k L m n o p q r s t u v w X y z a1 b1 c1 d1 e1 f1 g1 h1 i1 j1 k1 l1 m1 x l)
abbrev zM4:=fun{α:Type}{a b c d e f g h i j k L m n o p q r s t u v w X y z a1 b1 c1 d1 e1 f1 g1 h1 i1 j1 k1 l1 m1 n1 x:α}{l:List α}=>List.Mem.tail a (@zOR α b c d e f g h i j k L m n o p q r s t u v w X y z a1 b1 c1 d1 e1 f1 g1 h1 i1 j1 k1 l1 m1 n1 x l)
end Go.Proofs.YtgnmdddaiefooaaGreat

namespace Go.Proofs.YtgnmdddaiefooaaGreat
open Go.RowKit
theorem oM{p:Prop}(h:p:=by omega):p:=h
theorem sI{p:Prop}(h:p:=by simp):p:=h
theorem kR{p:Prop}(h:p:=by kernel_rfl):p:=h
theorem dE{p:Prop}(h:p:=by decide):p:=h
theorem aU{p:Prop}(h:p:=by repeat' (first|refine xgm.2 ⟨?_,?_⟩|exact xgn _|(dsimp only;omega))):p:=h
abbrev tU:TypeId:=117
def LIM:Nat:=1099511627776
theorem yA:LIM=1099511627776:=rfl
def yI(w w':World):Prop:=∀(b:Nat) (cs:Array Value) (fz:Nat × Nat),w.heap[b]?=some (.cells cs tU fz)->w'.heap[b]?=some (.cells cs tU fz)
theorem yI.refl(w:World):yI w w:=fun _ _ _ h=>h
theorem yI.trans{a b c:World}(h:yI a b)(k:yI b c):yI a c:=fun _ _ _ hh=>k _ _ _ (h _ _ _ hh)
theorem yI.below{w w':World}{B:Nat}(h:Below B w w')(hB:w.heap.size<=B):yI w w':=fun b cs fz hh=>by
 have hl:b<w.heap.size:=by
  rcases Nat.lt_or_ge b w.heap.size with h1|h1
  ·exact h1
  ·rw[Array.getElem?_eq_none h1]at hh;cases hh
 rw[h.block b (by omega)];exact hh
def zG(w:World)(ao:Option Addr)(xs:List Nat):Prop:=
 qN xs/\(xs≠ []->∃b off cs fz,ao=some ⟨b,off,none⟩/\w.heap[b]?=some (.cells cs tU fz)/\∀k x,xs[k]?=some x->cs[off+k]?=some (.int .u32 (x:Nat)))
theorem zG.nil(w:World)(ao:Option Addr):zG w ao []:=⟨qN.nil,fun h=>absurd rfl h⟩
theorem zG.ext{w w':World}{ao:Option Addr}{xs:List Nat}(h:zG w ao xs)(e:yI w w'):zG w' ao xs:=
 ⟨h.1,fun hne=>by
  obtain⟨b,off,cs,fz,h1,h2,h3⟩:=h.2 hne;exact⟨b,off,cs,fz,h1,e _ _ _ h2,h3⟩⟩
theorem zG.cell{w:World}{ao:Option Addr}{xs:List Nat}(h:zG w ao xs){k:Nat}(hk:k<xs.length):
  ∃b off,ao=some ⟨b,off,none⟩/\b<w.heap.size/\w.cell? ⟨b,off+k,none⟩=some (.int .u32 (xs.getD k 0:Nat)):=by
 obtain⟨b,off,cs,fz,h1,h2,h3⟩:=h.2 (by rintro rfl;simp at hk);refine⟨b,off,h1,?_,?_⟩
 ·exact(Array.getElem?_eq_some_iff.1 h2).1
 ·rw[cell_of_row w b (off+k) cs tU fz h2,h3 k (xs.getD k 0) (by simp[xgb,xga hk])]
theorem zG.limb{w:World}{ao:Option Addr}{xs:List Nat}(h:zG w ao xs){k:Nat}(hk:k<xs.length):
  ∃b off x,ao=some ⟨b,off,none⟩/\b<w.heap.size/\x<4294967296/\Hid (xs.getD k 0=x)/\w.cell? ⟨b,off+k,none⟩=some (.int .u32 (x:Nat)):=by
 obtain⟨b,off,h1,h2,h3⟩:=h.cell hk;exact⟨b,off,_,h1,h2,h.1.get k,rfl,h3⟩
theorem zG.cells{w:World}{ao:Option Addr}{xs:List Nat}(h:zG w ao xs)(hk:0<xs.length):
  ∃b off,ao=some ⟨b,off,none⟩/\b<w.heap.size/\∀k,k<xs.length->w.cell? ⟨b,off+k,none⟩=some (.int .u32 (xs.getD k 0:Nat)):=by
 obtain⟨b,off,h1,hb,h2⟩:=h.cell hk;refine⟨b,off,h1,hb,fun k hk=>?_⟩;obtain⟨b',off',h1',_,h2'⟩:=h.cell hk;rw[h1]at h1';injection h1' with h1'
 injection h1' with e1 e2
 subst e1;subst e2;exact h2'
theorem zG.take{w:World}{ao:Option Addr}{xs:List Nat}(h:zG w ao xs)(n:Nat):zG w ao (xs.take n):=
 ⟨h.1.take n,fun hne=>by
  obtain⟨b,off,cs,fz,h1,h2,h3⟩:=h.2 (by rintro rfl;simp at hne);refine⟨b,off,cs,fz,h1,h2,fun k x hk=>h3 k x ?_⟩;rw[List.getElem?_take]at hk;split at hk
  ·exact hk
  ·cases hk⟩
def yM(xs:List Nat):Array Value:=(xs.map fun n=>Value.int .u32 (n:Nat)).toArray
def jJ(w:World)(b:Nat)(xs:List Nat):Prop:=w.heap[b]?=some (.cells (yM xs) tU (0,0))
theorem jJ.lt{w:World}{b:Nat}{xs:List Nat}(h:jJ w b xs):b<w.heap.size:=(Array.getElem?_eq_some_iff.1 h).1
theorem jJ.cell{w:World}{b:Nat}{xs:List Nat}(h:jJ w b xs){k:Nat}(hk:k<xs.length):w.cell? ⟨b,k,none⟩=some (.int .u32 (xs.getD k 0:Nat)):=by
 rw[cell_of_row w b k _ tU _ h];simp[yM,xga hk,xgb]
theorem jJ.frozen{w:World}{b:Nat}{xs:List Nat}(h:jJ w b xs)(k:Nat):w.frozen? ⟨b,k,none⟩=false:=frozen_of_row w b k _ _ h
theorem jJ.set{w:World}{b:Nat}{xs:List Nat}(h:jJ w b xs)(k n:Nat):jJ (w.setCell ⟨b,k,none⟩ (.int .u32 (n:Nat))) b (xs.set k n):=by
 unfold jJ at h ⊢
 rw[heap_setCell_same w b k _ tU _ h];simp[yM,List.map_set]
theorem jJ.set'{w:World}{b:Nat}{xs:List Nat}(h:jJ w b xs)(k:Nat)(m:Int)(n:Nat)(hm:m=n):jJ (w.setCell ⟨b,k,none⟩ (.int .u32 m)) b (xs.set k n):=by
 subst hm;exact h.set k n
theorem jJ.ext{w w':World}{b:Nat}{xs:List Nat}(h:jJ w b xs)(e:yI w w'):jJ w' b xs:=e _ _ _ h
theorem jJ.alloc{w:World}{b:Nat}{xs:List Nat}(h:jJ w b xs)(o:Obj):jJ (w.alloc o) b xs:=(heap_alloc_old w o h.lt).trans h
theorem jJ.at_{w:World}{b:Nat}{xs:List Nat}(h:jJ w b xs)(hx:qN xs):zG w (some ⟨b,0,none⟩) xs:=
 ⟨hx,fun _=>⟨b,0,_,_,rfl,h,fun k x hk=>by simp[yM,hk]⟩⟩
theorem Tryz.infoU:(Tryz.prog.info? tU).map (fun i=>(i.zero,i.size,i.bytes))=some (some (.int .u32 0),1,4):=by kernel_rfl
theorem zAl{P:Program}(t e:TypeId)(i:TypeInfo)(z:Value)(ht:P.underlying t=some (.slice e))(hi:P.info? e=some i)(hz:i.zero=some z)
  (kl kc:IntKind) (n c:Nat) (hnc:n<=c) (hbytes:i.bytes*c<=281474976710656) (h63:c<=9223372036854775807) (w:World):
  (Instr.makeSlice t (.int kl (n:Int)) (.int kc (c:Int))).run P w= .ok (.slice (some ⟨w.heap.size,0,none⟩) n c) (w.alloc (.cells (madeCells z.cells (c*i.size)) e)):=by
 have hb:(i.bytes:Int)*(c:Int)<=281474976710656:=by
  have h:((i.bytes*c:Nat):Int)<=281474976710656:=by omega
  rwa[Int.natCast_mul]at h
 have hr:=run_make (P:=P) w t e i z ht hi hz kl kc n c (by omega) (by omega) hb (by omega);simp only[Int.toNat_natCast]at hr;exact hr
theorem zPg(n:Nat):madeCells (Value.int .u32 0).cells (n*1)=yM (List.replicate n 0):=by
 apply Array.ext
 ·simp[madeCells,yM]
 ·intro i h1 h2
  simp[madeCells,yM,Nat.mod_one,Value.cells]
theorem mkU(m:Int)(n:Nat)(hm:m=n)(h:n<=70368744177664)(W:World):
  (Instr.makeSlice 49 (.int .i64 m) (.int .i64 m)).run Tryz.prog W= .ok (.slice (some ⟨W.heap.size,0,none⟩) n n) (W.alloc (.cells (yM (List.replicate n 0)) tU)):=by
 subst hm;obtain⟨i0,hi,hz0,hz1,hz2⟩:=info_parts Tryz.infoU;have:=zAl (P:=Tryz.prog) 49 tU i0 _ Tryz.underlying49 hi hz0 .i64 .i64 n n (xgf _) (by rw[hz2];omega) (by omega) W;rw[this,hz1,zPg]
theorem jJ.made(w:World)(xs:List Nat):jJ (w.alloc (.cells (yM xs) tU)) w.heap.size xs:=heap_alloc_new w _
def zDw(w:World)(v:Value)(z:Int):Prop:=
 ∃neg ao n cap xs,v= .agg #[.bool neg,.slice ao n cap]/\xs.length=n/\n<=cap/\cap<=9223372036854775807/\zG w ao xs/\qP xs/\z=sgn neg (nat xs)
def zR(w:World)(v:Value)(z:Int):Prop:=
 ∃neg ao n cap xs,v= .agg #[.bool neg,.slice ao n cap]/\xs.length=n/\n<=cap/\cap<=9223372036854775807/\zG w ao xs/\qP xs/\z=sgn neg (nat xs)/\(n=0->neg=false)
theorem zR.weak{w:World}{v:Value}{z:Int}(h:zR w v z):zDw w v z:=by
 obtain⟨neg,ao,n,cap,xs,h1,h2,h3,h4,h5,h6,h7,_⟩:=h;exact⟨neg,ao,n,cap,xs,h1,h2,h3,h4,h5,h6,h7⟩
theorem zDw.ext{w w':World}{v:Value}{z:Int}(h:zDw w v z)(e:yI w w'):zDw w' v z:=by
 obtain⟨neg,ao,n,cap,xs,h1,h2,h3,h4,h5,h6⟩:=h;exact⟨neg,ao,n,cap,xs,h1,h2,h3,h4,h5.ext e,h6⟩
theorem zR.ext{w w':World}{v:Value}{z:Int}(h:zR w v z)(e:yI w w'):zR w' v z:=by
 obtain⟨neg,ao,n,cap,xs,h1,h2,h3,h4,h5,h6⟩:=h;exact⟨neg,ao,n,cap,xs,h1,h2,h3,h4,h5.ext e,h6⟩
theorem zR.below{w w':World}{B:Nat}{v:Value}{z:Int}(h:zR w v z)(hb:Below B w w')(hB:w.heap.size<=B):zR w' v z:=h.ext (yI.below hb hB)
def Sm(z:Int):Prop:=z.natAbs<B32^LIM
theorem Sm.len{neg:Bool}{xs:List Nat}(h:Sm (sgn neg (nat xs)))(hn:qP xs):xs.length<=LIM:=by
 unfold Sm at h;rw[qD]at h;cases hx:xs.length with
 |zero=>omega
 |succ n=>
  have h1:=zDn hn hx;rcases Nat.lt_or_ge n LIM with h2|h2
  ·omega
  ·have:=zAa h2;omega
theorem Sm.of_pow{z:Int}{k:Nat}(h:z.natAbs<B32^k)(hk:k<=LIM):Sm z:=Nat.lt_of_lt_of_le h (zAa hk)
theorem Sm.mono{z y:Int}(h:Sm z)(hy:y.natAbs<=z.natAbs):Sm y:=Nat.lt_of_le_of_lt hy h
def zAI(w:World)(z:Int)(e:Ending)(w':World):Prop:=∃v,e= .returned v/\zR w' v z/\Below w.heap.size w w'
def zD0(w:World)(n:Nat)(e:Ending)(w':World):Prop:=
 ∃ao len cap xs,e= .returned (.slice ao len cap)/\xs.length=len/\len<=cap/\cap<=9223372036854775807/\zG w' ao xs/\nat xs=n/\Below w.heap.size w w'
theorem zC{P:Program}{c:Code}{Q:Exit->Act->World->Prop}{a:Act}{w:World}(h:∀W0,Hid (W0=w)->Code.wp P c Q a W0):Code.wp P c Q a w:=h w rfl
theorem yF{w:World}{a:Addr}{v:Value}(h:w.cell? a=some v):w.drew.cell? a=some v:=h
theorem qC{w w1:World}{b o:Nat}{v:Value}(h:w.cell? ⟨b,o,none⟩=some v)(hb:Below w.heap.size w w1):w1.cell? ⟨b,o,none⟩=some v:=
 (hb.cell (p:=⟨b,o,none⟩) (World.block_lt_of_cell? w _ h)).trans h
theorem jV{w:World}{b o r i:Nat}{v u:Value}(h:w.cell? ⟨b,o,none⟩=some v)(hne:b≠r):(w.setCell ⟨r,i,none⟩ u).cell? ⟨b,o,none⟩=some v:=
 (World.cell?_setCell_other w _ _ u (fun e=>hne (by injection e with e1;exact e1.symm))).trans h
theorem nx{w W W':World}(h:Below w.heap.size w W)(hb:Below W.heap.size W W'):Below w.heap.size w W':=h.trans (hb.mono h.size)
theorem lx{w W:World}(h:Below w.heap.size w W):yI w W:=yI.below h (xgf _)
theorem dr(w:World):Below w.heap.size w w.drew:=(Below.refl _ _).drew
theorem drN(w:World)(n:Nat):Below w.heap.size w (w.drewN n):=⟨rfl,rfl,rfl,xgf _,fun _ _=>rfl⟩
def Blk(w:World)(g:Nat)(t:TypeId)(cs:Array Value):Prop:=w.heap[g]?=some (.cells cs t (0,0))
section
variable {w w':World} {g:Nat} {t:TypeId} {cs:Array Value}
theorem Blk.lt(h:Blk w g t cs):g<w.heap.size:=(Array.getElem?_eq_some_iff.1 h).1
theorem Blk.cell(h:Blk w g t cs)(i:Nat):w.cell? ⟨g,i,none⟩=cs[i]?:=cell_of_row w g i cs t (0,0) h
theorem Blk.frozen(h:Blk w g t cs)(i:Nat):w.frozen? ⟨g,i,none⟩=false:=frozen_of_row w g i cs t h
theorem Blk.new(w:World)(t:TypeId)(cs:Array Value):Blk (w.alloc (.cells cs t)) w.heap.size t cs:=heap_alloc_new w _
theorem Blk.drew(h:Blk w g t cs):Blk w.drew g t cs:=h
theorem Blk.drewN(h:Blk w g t cs)(n:Nat):Blk (w.drewN n) g t cs:=h
theorem Blk.alloc(h:Blk w g t cs)(o:Obj):Blk (w.alloc o) g t cs:=(Below.heap_alloc w o g h.lt).trans h
theorem Blk.set_(h:Blk w g t cs)(i:Nat)(u:Value):Blk (w.setCell ⟨g,i,none⟩ u) g t (cs.setIfInBounds i u):=by
 unfold Blk at h ⊢
 simp[World.setCell,Array.getElem?_modify,h]
theorem Blk.far(h:Blk w g t cs){r:Nat}(hp:g≠r)(i:Nat)(u:Value):Blk (w.setCell ⟨r,i,none⟩ u) g t cs:=(Below.heap_setCell w ⟨r,i,none⟩ u g hp).trans h
theorem Blk.below(h:Blk w g t cs)(hb:Below w.heap.size w w'):Blk w' g t cs:=(hb.block g h.lt).trans h
theorem Blk.belowB{B:Nat}(h:Blk w g t cs)(hb:Below B w w')(hg:g<B):Blk w' g t cs:=(hb.block g hg).trans h
theorem Blk.at_(e:Hid (w'=w))(h:Blk w g t cs):Blk w' g t cs:=by rw[e.out];exact h
theorem Blk.lext(h:Blk w g t cs)(hne:t≠tU)(i:Nat)(u:Value):yI w (w.setCell ⟨g,i,none⟩ u):=fun b c fz hb=>by
 have hg:b≠g:=by
  rintro rfl;unfold Blk at h;rw[h]at hb;injection hb with hb
  injection hb with _ ht
  exact hne ht
 exact(Below.heap_setCell w ⟨g,i,none⟩ u b hg).trans hb
theorem zP{B:Nat}{a:World}(h:Below B a w)(hp:B<=g)(i:Nat)(u:Value):Below B a (w.setCell ⟨g,i,none⟩ u):=h.setCell (p:=⟨g,i,none⟩) hp u
theorem Blk.two{c0 c1:Value}(h:Blk w g t #[c0,c1]):w.cell? ⟨g,0,none⟩=some c0/\w.cell? ⟨g,1,none⟩=some c1/\w.frozen? ⟨g,0,none⟩=false/\w.frozen? ⟨g,1,none⟩=false:=
 ⟨h.cell 0,h.cell 1,h.frozen 0,h.frozen 1⟩
theorem Blk.three{c0 c1 c2:Value}(h:Blk w g t #[c0,c1,c2]):w.cell? ⟨g,0,none⟩=some c0/\w.cell? ⟨g,1,none⟩=some c1/\w.cell? ⟨g,2,none⟩=some c2∧
  w.frozen? ⟨g,0,none⟩=false/\w.frozen? ⟨g,1,none⟩=false/\w.frozen? ⟨g,2,none⟩=false:=
 ⟨h.cell 0,h.cell 1,h.cell 2,h.frozen 0,h.frozen 1,h.frozen 2⟩
end
theorem Blk.put2{w:World}{r:Nat}{T:TypeId}{c0 c1:Value}(h:Blk w r T #[c0,c1])(x y:Value):Blk ((w.setCell ⟨r,0,none⟩ x).setCell ⟨r,1,none⟩ y) r T #[x,y]:=by
 simpa using(h.set_ 0 x).set_ 1 y
theorem Blk.lext2{w:World}{r:Nat}{T:TypeId}{cs:Array Value}(h:Blk w r T cs)(hne:T≠tU)(x y:Value):yI w ((w.setCell ⟨r,0,none⟩ x).setCell ⟨r,1,none⟩ y):=
 (h.lext hne 0 _).trans ((h.set_ 0 _).lext hne 1 _)
theorem Tryz.sizeI:(Tryz.prog.info? 51).map (·.size)=some 2:=by kernel_rfl
theorem zU{fn:Func}{a:Act}{w W:World}{z:Int}{r:Nat}{v:Array Value}{p:Tmp}(h:fn.results=#[.cell p 51])(hd:a.defers= [])
  (hp:a.tmps.getD p undef= .pointer (some ⟨r,0,none⟩)) (hb:Blk W r 51 v) (hv:zR W (.agg v) z) (hbel:Below w.heap.size w W):bodyPost Tryz.prog fn (zAI w z) .ret a W:=by
 obtain⟨neg,ao,n,cap,xs,h1,h2⟩:=hv;injection h1 with h1
 subst h1;exact bodyPost_ret (results_cell_row h _ W r _ _ _ _ hp hb Tryz.underlying51 rfl (by rw[Tryz.sizeI];rfl)) hd ⟨_,rfl,⟨neg,ao,n,cap,xs,rfl,h2⟩,hbel⟩
section
variable {w W0:World} {T1 T2 T3 T4 T5:TypeId} {A B C D E:Array Value}
theorem zN(h:Hid (W0=w.alloc (.cells A T1))):Below w.heap.size w W0/\Blk W0 w.heap.size T1 A/\w.heap.size<W0.heap.size:=by
 rw[h.out];exact⟨(Below.refl _ _).alloc (xgf _) _,Blk.new _ _ _,by simp⟩
theorem qK(h:Hid (W0=(w.alloc (.cells A T1)).alloc (.cells B T2))):Below w.heap.size w W0/\Blk W0 w.heap.size T1 A/\Blk W0 (w.heap.size+1) T2 B/\w.heap.size+1<W0.heap.size:=by
 obtain⟨h1,h2,h3⟩:=zN (w:=w.alloc (.cells A T1)) (W0:=W0) (A:=B) (T1:=T2) h;obtain⟨k1,k2,k3⟩:=zN (w:=w) (W0:=w.alloc (.cells A T1)) (A:=A) (T1:=T1) rfl;simp only[World.size_alloc]at h2 h3;exact⟨nx k1 h1,k2.below h1,h2,h3⟩
theorem zAS(h:Hid (W0=((w.alloc (.cells A T1)).alloc (.cells B T2)).alloc (.cells C T3))):
  Below w.heap.size w W0/\Blk W0 w.heap.size T1 A/\Blk W0 (w.heap.size+1) T2 B/\Blk W0 (w.heap.size+1+1) T3 C/\w.heap.size+1+1<W0.heap.size:=by
 obtain⟨h1,h2,h3⟩:=zN (w:=(w.alloc (.cells A T1)).alloc (.cells B T2)) (W0:=W0) h;obtain⟨k1,k2,k3,k4⟩:=qK (w:=w) (W0:=(w.alloc (.cells A T1)).alloc (.cells B T2)) rfl;simp only[World.size_alloc]at h2 h3;exact⟨nx k1 h1,k2.below h1,k3.below h1,h2,h3⟩
theorem zHD(h:Hid (W0=(((w.alloc (.cells A T1)).alloc (.cells B T2)).alloc (.cells C T3)).alloc (.cells D T4))):
  Below w.heap.size w W0/\Blk W0 w.heap.size T1 A/\Blk W0 (w.heap.size+1) T2 B/\Blk W0 (w.heap.size+1+1) T3 C/\Blk W0 (w.heap.size+1+1+1) T4 D/\w.heap.size+1+1+1<W0.heap.size:=by
 obtain⟨h1,h2,h3⟩:=zN (w:=((w.alloc (.cells A T1)).alloc (.cells B T2)).alloc (.cells C T3)) (W0:=W0) h;obtain⟨k1,k2,k3,k4,k5⟩:=zAS (w:=w) (W0:=((w.alloc (.cells A T1)).alloc (.cells B T2)).alloc (.cells C T3)) rfl;simp only[World.size_alloc]at h2 h3;exact⟨nx k1 h1,k2.below h1,k3.below h1,k4.below h1,h2,h3⟩
theorem zPB(h:Hid (W0=((((w.alloc (.cells A T1)).alloc (.cells B T2)).alloc (.cells C T3)).alloc (.cells D T4)).alloc (.cells E T5))):
  Below w.heap.size w W0/\Blk W0 w.heap.size T1 A/\Blk W0 (w.heap.size+1) T2 B/\Blk W0 (w.heap.size+1+1) T3 C/\Blk W0 (w.heap.size+1+1+1) T4 D/\Blk W0 (w.heap.size+1+1+1+1) T5 E/\w.heap.size+1+1+1+1<W0.heap.size:=by
 obtain⟨h1,h2,h3⟩:=zN (w:=(((w.alloc (.cells A T1)).alloc (.cells B T2)).alloc (.cells C T3)).alloc (.cells D T4)) (W0:=W0) h;obtain⟨k1,k2,k3,k4,k5,k6⟩:=zHD (w:=w) (W0:=(((w.alloc (.cells A T1)).alloc (.cells B T2)).alloc (.cells C T3)).alloc (.cells D T4)) rfl;simp only[World.size_alloc]at h2 h3;exact⟨nx k1 h1,k2.below h1,k3.below h1,k4.below h1,k5.below h1,h2,h3⟩
end
end Go.Proofs.YtgnmdddaiefooaaGreat
