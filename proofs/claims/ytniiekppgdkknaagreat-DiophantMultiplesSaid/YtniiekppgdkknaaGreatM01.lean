/- Joined. -/
import Derived.Test.YtniiekppgdkknaaGreatRows
import Derived.WalkKit
import Derived.WalkSpells
import Derived.WalkLawsBesides
import Derived.Lib.Hide
import Derived.Deep.Draws
import Derived.Deep.QuietTactic
import Derived.BigQuiet
import Derived.Laws.ResultCell
import Derived.Deep.RegionHeld3
import Derived.Laws.AppendOwnNone
import Derived.Deep.DeepCutAuto
import Derived.Deep.CutBlock
import Derived.Deep.Cut
set_option linter.unusedVariables false
set_option linter.unusedSimpArgs false
set_option linter.unusedSectionVars false
set_option maxHeartbeats 16000000
set_option maxRecDepth 100000
variable{n1 n2:Bool}{Q:Go.Exit->Go.Act->Go.World->Prop}{a z:Int}{xs ys zs:List Nat}{B b base d i k n o r x y:Nat}{ao:Option Go.Addr}{p:Prop}{T:Go.TypeId}{c0 c1 v:Go.Value}{W w w':Go.World}
namespace Go.Proofs.YtniiekppgdkknaaGreat
def B32:Nat:=4294967296
theorem zBV:B32=4294967296:=rfl
theorem zBj:0<B32:=by decide
def nat:List Nat->Nat
 | []=>0
 |x::xs=>x+B32*nat xs
@[simp] theorem nat_nil:nat []=0:=rfl
theorem zBR(x:Nat)(xs:List Nat):nat (x::xs)=x+B32*nat xs:=rfl
theorem zEG(xs ys:List Nat):nat (xs++ys)=nat xs+B32^xs.length*nat ys:=by
 induction xs with
 |nil=>simp
 |cons x xs a=>
  simp only[List.cons_append,zBR,a,List.length_cons,Nat.pow_succ,Nat.mul_add];rw[Nat.add_assoc,<-Nat.mul_assoc,Nat.mul_comm B32 (B32^xs.length)]
theorem zDZ(xs:List Nat)(y:Nat):nat (xs++ [y])=nat xs+B32^xs.length*y:=by
 rw[zEG];simp[zBR]
def zAV(xs:List Nat):Prop:=∀x∈xs,x<B32
theorem zAV.cons(h:zAV (x::xs)):x<B32/\zAV xs:=
 ⟨h x (by simp),fun y a=>h y (by simp[a])⟩
theorem zAV.nil:zAV []:=by intro x a;cases a
theorem zAV.take(h:zAV xs)(k:Nat):zAV (xs.take k):=fun x a=>h x (List.mem_of_mem_take a)
theorem zAV.append(h:zAV xs)(k:zAV ys):zAV (xs++ys):=fun x a=>by
 rcases List.mem_append.1 a with h1|h1
 exact h x h1;exact k x h1
theorem zAV.get(h:zAV xs)(k:Nat):xs.getD k 0<B32:=by
 rw[List.getD_eq_getElem?_getD];rcases Nat.lt_or_ge k xs.length with hk|hk
 rw[List.getElem?_eq_getElem hk];exact h _ (List.getElem_mem hk);rw[List.getElem?_eq_none hk];exact zBj
theorem zCY(h:zAV xs):nat xs<B32^xs.length:=by
 induction xs with
 |nil=>simp
 |cons x xs c=>
  obtain⟨d,b⟩:=h.cons;have:=c b;simp only[zBR,List.length_cons,Nat.pow_succ];have a:B32*(nat xs+1)<=B32*B32^xs.length:=Nat.mul_le_mul_left _ this;rw[Nat.mul_add]at a;rw[Nat.mul_comm (B32^xs.length)];omega
def zAL(xs:List Nat):Prop:=∀n,xs.length=n+1->xs.getD n 0≠0
theorem zAL.nil:zAL []:=by intro n h;simp at h
theorem zAL.tail(h:zAL (x::xs)):zAL xs:=by
 intro n a;have:=h (n+1) (by simp[a]);simpa using this
theorem zGM(h:zAL xs)(a:xs.length=n+1):B32^n<=nat xs:=by
 induction xs generalizing n with
 |nil=>simp at a
 | cons x xs c=>
  simp at a;rw[zBR];cases n with
  |zero=>
   have b:=h 0 (by simp[a]);have:xs= []:=List.eq_nil_of_length_eq_zero a;subst this;simp at b ⊢
   omega
  |succ n=>
   have:=c h.tail (n:=n) (by omega);have d:=Nat.mul_le_mul_left B32 this;rw[Nat.pow_succ,Nat.mul_comm];omega
theorem zMP(h:zAL xs)(b:xs≠ []):0<nat xs:=by
 cases a:xs.length with
 |zero=>exact absurd (List.eq_nil_of_length_eq_zero a) b
 |succ n=>exact Nat.lt_of_lt_of_le (Nat.pow_pos zBj) (zGM h a)
theorem zF1(h:zAL xs):nat xs=0↔xs= []:=by
 constructor
 .intro b
  by_cases a:xs= []
  .exact a
  have:=zMP h a;omega
 rintro rfl;rfl
theorem zC0{a:Nat}(h:a<=b):B32^a<=B32^b:=Nat.pow_le_pow_right zBj h
theorem zCV(c:zAV xs)(b:zAL ys)(h:nat ys<=nat xs):ys.length<=xs.length:=by
 rcases Nat.lt_or_ge xs.length ys.length with i|a
 .cases d:ys.length with
  |zero=>omega
  |succ n=>
   have e:=zGM b d;have f:=zCY c;have g:=zC0 (show xs.length<=n by omega);omega
 exact a
theorem zD4(xs:List Nat)(n:Nat)(h:n<xs.length):xs.take (n+1)=xs.take n++ [xs.getD n 0]:=by
 rw[List.take_succ_eq_append_getElem h];simp[List.getD_eq_getElem?_getD,List.getElem?_eq_getElem h]
theorem yC(xs:List Nat)(k:Nat):nat (xs.take (k+1))=nat (xs.take k)+xs.getD k 0*B32^k:=by
 rcases Nat.lt_or_ge k xs.length with h|h
 rw[zD4 xs k h,zDZ,List.length_take,Nat.min_eq_left (by omega),Nat.mul_comm];rw[List.take_of_length_le (by omega),List.take_of_length_le h,List.getD_eq_getElem?_getD,List.getElem?_eq_none h];simp
theorem zBZ(zs:List Nat)(k v:Nat)(h:k<zs.length):nat ((zs.set k v).take (k+1))=nat (zs.take k)+v*B32^k:=by
 rw[yC,List.take_set_of_le (by omega),List.getD_eq_getElem?_getD,List.getElem?_set_self h];rfl
theorem zAV.set(h:zAV zs)(k v:Nat)(hv:v<B32):zAV (zs.set k v):=fun x a=>by
 rcases List.mem_or_eq_of_mem_set a with h1|h1
 exact h x h1;subst h1;exact hv
theorem qN(xs:List Nat)(h:xs.length<=n):nat (xs.take n)=nat xs:=by rw[List.take_of_length_le h]
theorem zE3{x y:Nat}(h:nat (zs.take k)+d*B32^k=nat (xs.take k)+nat (ys.take k))(g:k<zs.length)
  (i:xs.getD k 0=x) (j:ys.getD k 0=y):
  nat ((zs.set k ((d+x+y)%4294967296)).take (k+1))+(d+x+y)/4294967296*B32^(k+1)=nat (xs.take (k+1))+nat (ys.take (k+1)):=by
 rw[zBZ _ _ _ g,yC,yC,i,j,Nat.pow_succ,zBV];rw[zBV]at h;generalize 4294967296^k=p at*;generalize nat (List.take k zs)=a at*;generalize nat (List.take k xs)=b at*;generalize nat (List.take k ys)=c at*;have e:=Nat.div_add_mod (d+x+y) 4294967296;generalize (d+x+y)/4294967296=q at*;generalize (d+x+y)%4294967296=r at*;have f:r*p+q*(p*4294967296)=(d+x+y)*p:=by rw[<-e,Nat.add_mul,Nat.mul_comm 4294967296 q,Nat.mul_assoc,Nat.mul_comm 4294967296 p,Nat.add_comm]
 rw[Nat.add_mul,Nat.add_mul]at f;omega
def zAU(xs:List Nat):Nat->Nat
 |0=>0
 |n+1=>if xs.getD n 0=0 then zAU xs n else n+1
theorem zDR(xs:List Nat):∀n,zAU xs n<=n
 |0=>Nat.le_refl _
 |n+1=>by
  unfold zAU;split;have:=zDR xs n;omega;omega
theorem zJR(xs:List Nat):∀n,n<=xs.length->nat (xs.take (zAU xs n))=nat (xs.take n)
 |0,_=>rfl
 | n+1,h=>by
  unfold zAU;split
  .rename_i a
   rw[zJR xs n (by omega),zD4 xs n (by omega),zDZ,a];simp
  rfl
theorem zCX(xs:List Nat):∀n,n<=xs.length->zAL (xs.take (zAU xs n))
 |0,_=>by simpa[zAU]using zAL.nil
 |n+1,h=>by
  unfold zAU;split;exact zCX xs n (by omega);rename_i a;intro k b;rw[List.length_take,Nat.min_eq_left h]at b;have:k=n:=by omega
  subst this;rw[List.getD_eq_getElem?_getD,List.getElem?_take,if_pos (by omega),<-List.getD_eq_getElem?_getD];exact a
def zDU(xs:List Nat):List Nat:=xs.take (zAU xs xs.length)
theorem zIl(xs:List Nat):(zDU xs).length=zAU xs xs.length:=by
 unfold zDU;rw[List.length_take,Nat.min_eq_left (zDR _ _)]
theorem zCl(xs:List Nat):nat (zDU xs)=nat xs:=by
 unfold zDU;rw[zJR xs _ (Nat.le_refl _),List.take_of_length_le (Nat.le_refl _)]
theorem zD5(xs:List Nat):zAL (zDU xs):=zCX xs _ (Nat.le_refl _)
theorem zAT(h:zAL xs):zAU xs xs.length=xs.length:=by
 cases a:xs.length with
 |zero=>rfl
 |succ n=>unfold zAU;rw[if_neg (h n a)]
theorem zGL(xs:List Nat)(k:Nat)(h:k<xs.length):nat xs=nat (xs.take k)+B32^k*(xs.getD k 0+B32*nat (xs.drop (k+1))):=by
 have e:xs=xs.take k++xs.getD k 0::xs.drop (k+1):=by
  rw[List.getD_eq_getElem?_getD,List.getElem?_eq_getElem h];simp
 have a:(xs.take k).length=k:=by rw[List.length_take,Nat.min_eq_left (by omega)]
 have:=congrArg nat e;rw[zEG,a,zBR]at this;exact this
theorem zM8{x y:Nat}(f:zAV xs)(d:k<xs.length)(e:k<ys.length)(hd:xs.drop (k+1)=ys.drop (k+1))
  (ex:xs.getD k 0=x) (a:ys.getD k 0=y) (h:x<y):nat xs<nat ys:=by
 rw[zGL xs k d,zGL ys k e,hd,ex,a];have b:=zCY (f.take k);rw[List.length_take,Nat.min_eq_left (by omega)]at b;have c:B32^k*(x+B32*nat (List.drop (k+1) ys)+1)<=B32^k*(y+B32*nat (List.drop (k+1) ys)):=Nat.mul_le_mul_left _ (by omega);rw[Nat.mul_add _ _ 1]at c;omega
theorem zJd(b:zAV xs)(c:zAL ys)(h:xs.length<ys.length):nat xs<nat ys:=by
 cases a:ys.length with
 |zero=>omega
 |succ n=>
  have d:=zGM c a;have e:=zCY b;have f:=zC0 (show xs.length<=n by omega);omega
def zAB(a b:Int):Int:=if a<b then-1 else if b<a then 1 else 0
def sgn(neg:Bool)(n:Nat):Int:=if neg then-(n:Int)else(n:Int)
@[simp] theorem sgn_true (n:Nat):sgn true n=-(n:Int):=rfl
@[simp] theorem sgn_false (n:Nat):sgn false n=(n:Int):=rfl
theorem zHh(b:Bool):sgn b 0=0:=by cases b<;>rfl
theorem jA(b:Bool)(n:Nat):(sgn b n).natAbs=n:=by cases b<;>simp[sgn]
abbrev LL:=List (List Int)
abbrev qE:=@Nat.pow_succ
abbrev jT:=@Nat.mul_add
abbrev zN:=@Nat.mul_assoc
abbrev zP:=@Nat.mul_comm
abbrev zJ:=@Nat.lt_or_ge
abbrev jE:=@List.getElem_mem
abbrev qA:=@Nat.mul_le_mul_left
abbrev zY:=@List.eq_nil_of_length_eq_zero
abbrev zI:=@Nat.lt_of_lt_of_le
abbrev jH:=@Nat.pow_pos
abbrev zX:=@Nat.pow_le_pow_right
abbrev qM:=@List.length_take
abbrev zAt:=@Nat.min_eq_left
abbrev jS:=@List.take_of_length_le
abbrev jP:=@Nat.div_add_mod
abbrev zS:=@Nat.add_mul
abbrev zCJ:=@Nat.add_comm
abbrev yP:=@Int.natCast_mul
abbrev zDm:=@Array.ext
abbrev zM:=@Nat.lt_of_le_of_lt
abbrev yW:=@Go.World.block_lt_of_cell?
abbrev zB:=@Go.RowKit.Below.refl
abbrev qH:=@Go.RowKit.Below.heap_setCell
abbrev zH:=@Go.Lib.hid
abbrev yE:=@Nat.mod_lt
abbrev qX:=@List.drop_eq_nil_of_le
abbrev yB:=@Go.IntWalk.i64_in
abbrev zBg:=@Nat.lt_trichotomy
abbrev yK:=@Go.Calls.quiet_of_same
abbrev jL:=@Go.World.drewN_drewN
abbrev yX:=@List.drop_eq_getElem_cons
abbrev jG:=@Nat.lt_or_gt_of_ne
abbrev zAF:=@Go.IntKind.wrap_u64
abbrev zAg:=@Go.IntKind.wrap_u32
abbrev zAS:=@Nat.pow_add
abbrev qP:=@Nat.mul_le_mul
abbrev zCL:=@Go.Sem.run_bind
abbrev jI:=@Go.Addr.add_lit
abbrev qO:=@Int.natAbs_neg
abbrev yQ:=@Int.neg_mul
abbrev zB9:=@Int.mul_neg
abbrev zAI:=@Int.lt_trichotomy
abbrev zAM:=@Int.zero_mul
abbrev jR:=@Int.one_mul
abbrev zA7:=@Nat.div_lt_iff_lt_mul
abbrev zK:=@Nat.mul_le_mul_right
abbrev zCi:=@Go.Proofs.Tryz.underlying3
abbrev zCj:=@Go.Proofs.Tryz.underlying5
abbrev zBy:=@Nat.mul_lt_mul_right
abbrev zAk:=@List.set_append_right
abbrev zAu:=@Nat.sub_self
abbrev zAc:=@Nat.le_of_lt
abbrev zF:=@Nat.le_trans
abbrev jJ:=@Nat.add_zero
abbrev yU:=@Nat.one_mul
abbrev qY:=@Nat.eq_zero_or_pos
abbrev jF:=@Nat.le_mul_of_pos_left
abbrev zAa:=@Int.natCast_add
abbrev zBo:=@Nat.le_of_eq
abbrev jZ:=@Nat.zero_mul
abbrev zAD:=@List.length_append
abbrev zBw:=@List.length_drop
abbrev jV:=@List.take_append_of_le_length
abbrev zBp:=@Nat.mul_zero
abbrev zCE:=@List.append_nil
abbrev zAJ:=@List.append_assoc
abbrev zC7:=@List.take_take
abbrev qJ:=@Nat.le_mul_of_pos_right
abbrev zAs:=@Nat.div_le_self
abbrev zBE:=@Int.tmod_eq_emod_of_nonneg
abbrev jC:=@Nat.zero_add
abbrev zBq:=@Nat.pow_zero
abbrev zAp:=@Nat.mul_one
abbrev zAW:=@List.take_zero
abbrev yN:=@Int.mul_comm
abbrev zCb:=@Int.add_mul
abbrev zA6:=@List.nil_append
abbrev qC:=@Option.some.inj
abbrev zAe:=@Array.any_toList
abbrev zAN:=@List.any_eq_true
abbrev zAf:=@Bool.and_eq_true
abbrev zBv:=@List.count_replicate
abbrev qI:=@List.ext_getElem
abbrev jU:=@Classical.byContradiction
abbrev zAh:=@Array.ext_getElem?
abbrev qG:=@List.mem_cons_of_mem
abbrev zCr:=@List.nodup_cons
abbrev zG:=@Nat.zero_le
abbrev zW:=@List.all_eq_true
abbrev yI:=@List.nodup_append
abbrev jO:=@List.mem_append_left
abbrev zAj:=@List.mem_append_right
abbrev zL:=@Ne.symm
abbrev zBm:=@Bool.not_not
abbrev zDz:=@Int.mul_add
abbrev zBD:=@Int.mul_assoc
abbrev zQ:=@Int.natAbs_natCast
abbrev qT:=@Int.natAbs_mul
abbrev zAr:=@Int.emod_nonneg
abbrev zAK:=@List.take_add_one
abbrev zAG:=@List.take_length
abbrev yL:=@List.getElem_of_mem
abbrev zA1:=@List.map_congr_left
abbrev zAi:=@List.getElem_set_self
abbrev zA0:=@List.getElem_set_ne
abbrev zAO:=@List.getElem_inj
abbrev zZ:=@Int.mul_zero
abbrev jN:=@Int.add_zero
abbrev zCS:=@Iff.rfl
abbrev zBx:=@Nat.lt_succ_self
abbrev zBf:=@Int.mul_left_comm
abbrev zB5:=@Int.dvd_trans
abbrev zCq:=@Int.dvd_refl
abbrev zDF:=@Nat.mul_pos
abbrev zAP:=@List.mem_cons_self
abbrev zBz:=@Go.World.ownsRow.lt
abbrev zD0:=@Int.neg_neg
abbrev zB6:=@Nat.le_of_dvd
abbrev zBH:=@Int.natAbs_ediv_le_natAbs
abbrev zBN:=@Int.gcd_dvd_left
abbrev zCC:=@List.take_succ_cons
abbrev zCT:=@List.take_left
abbrev zBn:=@Int.mul_ediv_add_emod
abbrev zCI:=@Int.emod_lt_of_pos
abbrev zDG:=@Nat.pow_mul
abbrev zAb:=@Nat.pow_le_pow_left
abbrev zC8:=@Nat.add_le_add
abbrev zCs:=@Nat.min_le_left
abbrev zAH:=@Int.gcd_dvd_right
abbrev zAm:=@Int.eq_of_mul_eq_mul_left
abbrev yR:=@List.mem_range
abbrev zAC:=@Array.getD_eq_getD_getElem?
abbrev zCh:=@Int.le_of_dvd
abbrev jY:=@Int.mul_ediv_cancel_left
abbrev zA:=@if_neg
abbrev zC:=@if_pos
abbrev zT:=@decide_eq_true
abbrev zR:=@decide_eq_false
abbrev jM:=@of_decide_eq_true
abbrev xga:=@List.getElem?_eq_getElem
abbrev xgb:=@List.getD_eq_getElem?_getD
abbrev xgc:=@Array.getElem?_setIfInBounds_ne
abbrev xgd:=@List.mem_of_getElem?
abbrev xge:=@List.getElem?_eq_some_iff
abbrev xgf:=@Nat.le_refl
abbrev xgg:=@exists_eq_left
abbrev xgh:=@List.setIfInBounds_toArray
abbrev xgi:=@List.set_cons_zero
abbrev xgj:=@List.set_cons_succ
abbrev xgk:=@List.drop_zero
abbrev xgl:=@List.drop_succ_cons
abbrev xgm:=@List.forall_mem_cons
abbrev xgn:=@List.forall_mem_nil
theorem mm0{a:Type _}{x:a}{l:List a}:x∈x::l:=.head _
theorem mm1{a:Type _}{b x:a}{l:List a}:x∈b::x::l:=.tail _ mm0
abbrev mm2:=fun{α:Type}{a b x:α}{l:List α}=>List.Mem.tail a (@mm1 α b x l)
abbrev mm3:=fun{α:Type}{a b c x:α}{l:List α}=>List.Mem.tail a (@mm2 α b c x l)
abbrev mm4:=fun{α:Type}{a b c d x:α}{l:List α}=>List.Mem.tail a (@mm3 α b c d x l)
abbrev mm5:=fun{α:Type}{a b c d e x:α}{l:List α}=>List.Mem.tail a (@mm4 α b c d e x l)
abbrev mm6:=fun{α:Type}{a b c d e f x:α}{l:List α}=>List.Mem.tail a (@mm5 α b c d e f x l)
abbrev mm7:=fun{α:Type}{a b c d e f g x:α}{l:List α}=>List.Mem.tail a (@mm6 α b c d e f g x l)
abbrev mm8:=fun{α:Type}{a b c d e f g h x:α}{l:List α}=>List.Mem.tail a (@mm7 α b c d e f g h x l)
abbrev mm9:=fun{α:Type}{a b c d e f g h i x:α}{l:List α}=>List.Mem.tail a (@mm8 α b c d e f g h i x l)
abbrev zHa:=fun{α:Type}{a b c d e f g h i j x:α}{l:List α}=>List.Mem.tail a (@mm9 α b c d e f g h i j x l)
abbrev zHH:=fun{α:Type}{a b c d e f g h i j k x:α}{l:List α}=>List.Mem.tail a (@zHa α b c d e f g h i j k x l)
abbrev zHT:=fun{α:Type}{a b c d e f g h i j k L x:α}{l:List α}=>List.Mem.tail a (@zHH α b c d e f g h i j k L x l)
abbrev zIh:=fun{α:Type}{a b c d e f g h i j k L m x:α}{l:List α}=>List.Mem.tail a (@zHT α b c d e f g h i j k L m x l)
abbrev zKJ:=fun{α:Type}{a b c d e f g h i j k L m n x:α}{l:List α}=>List.Mem.tail a (@zIh α b c d e f g h i j k L m n x l)
abbrev zJ3:=fun{α:Type}{a b c d e f g h i j k L m n o x:α}{l:List α}=>List.Mem.tail a (@zKJ α b c d e f g h i j k L m n o x l)
abbrev zLe:=fun{α:Type}{a b c d e f g h i j k L m n o p x:α}{l:List α}=>List.Mem.tail a (@zJ3 α b c d e f g h i j k L m n o p x l)
abbrev zLf:=fun{α:Type}{a b c d e f g h i j k L m n o p q x:α}{l:List α}=>List.Mem.tail a (@zLe α b c d e f g h i j k L m n o p q x l)
abbrev zLg:=fun{α:Type}{a b c d e f g h i j k L m n o p q r x:α}{l:List α}=>List.Mem.tail a (@zLf α b c d e f g h i j k L m n o p q r x l)
abbrev zLh:=fun{α:Type}{a b c d e f g h i j k L m n o p q r s x:α}{l:List α}=>List.Mem.tail a (@zLg α b c d e f g h i j k L m n o p q r s x l)
abbrev zLi:=fun{α:Type}{a b c d e f g h i j k L m n o p q r s t x:α}{l:List α}=>List.Mem.tail a (@zLh α b c d e f g h i j k L m n o p q r s t x l)
abbrev zLj:=fun{α:Type}{a b c d e f g h i j k L m n o p q r s t u x:α}{l:List α}=>List.Mem.tail a (@zLi α b c d e f g h i j k L m n o p q r s t u x l)
abbrev zLk:=fun{α:Type}{a b c d e f g h i j k L m n o p q r s t u v x:α}{l:List α}=>List.Mem.tail a (@zLj α b c d e f g h i j k L m n o p q r s t u v x l)
abbrev zLl:=fun{α:Type}{a b c d e f g h i j k L m n o p q r s t u v w x:α}{l:List α}=>List.Mem.tail a (@zLk α b c d e f g h i j k L m n o p q r s t u v w x l)
abbrev zLm:=fun{α:Type}{a b c d e f g h i j k L m n o p q r s t u v w X x:α}{l:List α}=>List.Mem.tail a (@zLl α b c d e f g h i j k L m n o p q r s t u v w X x l)
abbrev zLn:=fun{α:Type}{a b c d e f g h i j k L m n o p q r s t u v w X y x:α}{l:List α}=>List.Mem.tail a (@zLm α b c d e f g h i j k L m n o p q r s t u v w X y x l)
abbrev zNI:=fun{α:Type}{a b c d e f g h i j k L m n o p q r s t u v w X y z x:α}{l:List α}=>List.Mem.tail a (@zLn α b c d e f g h i j k L m n o p q r s t u v w X y z x l)
abbrev zOF:=fun{α:Type}{a b c d e f g h i j k L m n o p q r s t u v w X y z a1 x:α}{l:List α}=>List.Mem.tail a (@zNI α b c d e f g h i j k L m n o p q r s t u v w X y z a1 x l)
abbrev zO0:=fun{α:Type}{a b c d e f g h i j k L m n o p q r s t u v w X y z a1 b1 x:α}{l:List α}=>List.Mem.tail a (@zOF α b c d e f g h i j k L m n o p q r s t u v w X y z a1 b1 x l)
abbrev zO1:=fun{α:Type}{a b c d e f g h i j k L m n o p q r s t u v w X y z a1 b1 c1 x:α}{l:List α}=>List.Mem.tail a (@zO0 α b c d e f g h i j k L m n o p q r s t u v w X y z a1 b1 c1 x l)
open Go.RowKit
abbrev CPq:=Calls Tryz.prog
abbrev BWq(w w':World):Prop:=Below w.heap.size w w'
abbrev slq(b n k:Nat):Value:=.slice (some ⟨b,0,none⟩) n k
abbrev ptq(b o:Nat):Value:=.pointer (some ⟨b,o,none⟩)
abbrev niq(z:Int):Value:=.int .i64 z
theorem meq(h:p:=by simp[intOf];omega):p:=h
theorem oM(h:p:=by omega):p:=h
theorem sI(h:p:=by simp):p:=h
theorem kR(h:p:=by kernel_rfl):p:=h
theorem dE(h:p:=by decide):p:=h
theorem aU(h:p:=by repeat' (first|refine xgm.2 ⟨?_,?_⟩|exact xgn _|(dsimp only;omega))):p:=h
abbrev tU:TypeId:=92
def LIM:Nat:=1099511627776
theorem zAd:LIM=1099511627776:=rfl
def zBC(w w':World):Prop:=∀(b:Nat) (cs:Array Value) (fz:Nat × Nat),w.heap[b]?=some (.cells cs tU fz)->w'.heap[b]?=some (.cells cs tU fz)
theorem zBC.refl(w:World):zBC w w:=fun _ _ _ h=>h
theorem zBC.trans{a b c:World}(h:zBC a b)(k:zBC b c):zBC a c:=fun _ _ _ d=>k _ _ _ (h _ _ _ d)
theorem zBC.I(h:Below B w w')(e:w.heap.size<=B):zBC w w':=fun b c d a=>by
 have f:b<w.heap.size:=by
  rcases zJ b w.heap.size with h1|h1
  exact h1;rw[Array.getElem?_eq_none h1]at a;cases a
 rw[h.block b (by omega)];exact a
def qF(w:World)(ao:Option Addr)(xs:List Nat):Prop:=
 zAV xs/\(xs≠ []->∃b off cs fz,ao=some ⟨b,off,none⟩/\w.heap[b]?=some (.cells cs tU fz)/\∀k x,xs[k]?=some x->cs[off+k]?=some (.int .u32 (x:Nat)))
theorem qF.nil(w:World)(a:Option Addr):qF w a []:=⟨zAV.nil,fun h=>absurd rfl h⟩
theorem qF.ext(h:qF w ao xs)(e:zBC w w'):qF w' ao xs:=
 ⟨h.1,fun i=>by
  obtain⟨b,j,a,c,d,f,g⟩:=h.2 i;exact⟨b,j,a,c,d,e _ _ _ f,g⟩⟩
theorem qF.cell(h:qF w ao xs)(c:k<xs.length):
  ∃b off,ao=some ⟨b,off,none⟩/\b<w.heap.size/\w.cell? ⟨b,off+k,none⟩=some (.int .u32 (xs.getD k 0:Nat)):=by
 obtain⟨b,off,d,e,f,a,g⟩:=h.2 (by rintro rfl;simp at c);refine⟨b,off,f,?_,?_⟩;exact(Array.getElem?_eq_some_iff.1 a).1;rw[cell_of_row w b (off+k) d tU e a,g k (xs.getD k 0) (by simp[xgb,xga c])]
theorem qF.limb(h:qF w ao xs)(e:k<xs.length):
  ∃b off x,ao=some ⟨b,off,none⟩/\b<w.heap.size/\x<4294967296/\Hid (xs.getD k 0=x)/\w.cell? ⟨b,off+k,none⟩=some (.int .u32 (x:Nat)):=by
 obtain⟨b,off,a,c,d⟩:=h.cell e;exact⟨b,off,_,a,c,h.1.get k,rfl,d⟩
theorem qF.cells(h:qF w ao xs)(c:0<xs.length):
  ∃b off,ao=some ⟨b,off,none⟩/\b<w.heap.size/\∀k,k<xs.length->w.cell? ⟨b,off+k,none⟩=some (.int .u32 (xs.getD k 0:Nat)):=by
 obtain⟨b,off,d,i,l⟩:=h.cell c;refine⟨b,off,d,i,fun k c=>?_⟩;obtain⟨j,m,a,_,g⟩:=h.cell c;rw[d]at a;injection a with a
 injection a with e f
 subst e;subst f;exact g
theorem qF.take(h:qF w ao xs)(n:Nat):qF w ao (xs.take n):=
 ⟨h.1.take n,fun i=>by
  obtain⟨b,j,c,d,e,f,g⟩:=h.2 (by rintro rfl;simp at i);refine⟨b,j,c,d,e,f,fun k x a=>g k x ?_⟩;rw[List.getElem?_take]at a;split at a;exact a;cases a⟩
def zBY(xs:List Nat):Array Value:=(xs.map fun n=>Value.int .u32 (n:Nat)).toArray
def zCG(w:World)(b:Nat)(xs:List Nat):Prop:=w.heap[b]?=some (.cells (zBY xs) tU (0,0))
theorem zCG.lt(h:zCG w b xs):b<w.heap.size:=(Array.getElem?_eq_some_iff.1 h).1
theorem zCG.cell(h:zCG w b xs)(a:k<xs.length):w.cell? ⟨b,k,none⟩=some (.int .u32 (xs.getD k 0:Nat)):=by
 rw[cell_of_row w b k _ tU _ h];simp[zBY,xga a,xgb]
theorem zCG.frozen(h:zCG w b xs)(k:Nat):w.frozen? ⟨b,k,none⟩=false:=frozen_of_row w b k _ _ h
theorem zCG.set(h:zCG w b xs)(k n:Nat):zCG (w.setCell ⟨b,k,none⟩ (.int .u32 (n:Nat))) b (xs.set k n):=by
 unfold zCG at h ⊢
 rw[heap_setCell_same w b k _ tU _ h];simp[zBY,List.map_set]
theorem zCG.set'(h:zCG w b xs)(k:Nat)(m:Int)(n:Nat)(a:m=n):zCG (w.setCell ⟨b,k,none⟩ (.int .u32 m)) b (xs.set k n):=by
 subst a;exact h.set k n
theorem zCG.ext(h:zCG w b xs)(e:zBC w w'):zCG w' b xs:=e _ _ _ h
theorem zCG.alloc(h:zCG w b xs)(o:Obj):zCG (w.alloc o) b xs:=(heap_alloc_old w o h.lt).trans h
theorem zCG.at_(h:zCG w b xs)(c:zAV xs):qF w (some ⟨b,0,none⟩) xs:=
 ⟨c,fun _=>⟨b,0,_,_,rfl,h,fun k x a=>by simp[zBY,a]⟩⟩
theorem Tryz.infoU:(Tryz.prog.info? tU).map (fun i=>(i.zero,i.size,i.bytes))=some (some (.int .u32 0),1,4):=by kernel_rfl
theorem zC3{P:Program}(t e:TypeId)(i:TypeInfo)(z:Value)(j:P.underlying t=some (.slice e))(g:P.info? e=some i)(k:i.zero=some z)
  (d b:IntKind) (n c:Nat) (o:n<=c) (m:i.bytes*c<=281474976710656) (l:c<=9223372036854775807) (w:World):
  (Instr.makeSlice t (.int d (n:Int)) (.int b (c:Int))).run P w= .ok (.slice (some ⟨w.heap.size,0,none⟩) n c) (w.alloc (.cells (madeCells z.cells (c*i.size)) e)):=by
 have f:(i.bytes:Int)*(c:Int)<=281474976710656:=by
  have h:((i.bytes*c:Nat):Int)<=281474976710656:=by omega
  rwa[yP]at h
 have a:=run_make (P:=P) w t e i z j g k d b n c (by omega) (by omega) f (by omega);simp only[Int.toNat_natCast]at a;exact a
theorem zWd(n:Nat):madeCells (Value.int .u32 0).cells (n*1)=zBY (List.replicate n 0):=by
 apply zDm;simp[madeCells,zBY];intro i a b;simp[madeCells,zBY,Nat.mod_one,Value.cells]
theorem mkU(m:Int)(n:Nat)(b:m=n)(h:n<=70368744177664)(W:World):
  (Instr.makeSlice 49 (.int .i64 m) (.int .i64 m)).run Tryz.prog W= .ok (.slice (some ⟨W.heap.size,0,none⟩) n n) (W.alloc (.cells (zBY (List.replicate n 0)) tU)):=by
 subst b;obtain⟨f,a,c,d,e⟩:=info_parts Tryz.infoU;have:=zC3 (P:=Tryz.prog) 49 tU f _ Tryz.underlying49 a c .i64 .i64 n n (xgf _) (by rw[e];omega) (by omega) W;rw[this,d,zWd]
theorem zCG.made(w:World)(xs:List Nat):zCG (w.alloc (.cells (zBY xs) tU)) w.heap.size xs:=heap_alloc_new w _
def zHR(w:World)(v:Value)(z:Int):Prop:=
 ∃neg ao n cap xs,v= .agg #[.bool neg,.slice ao n cap]/\xs.length=n/\n<=cap/\cap<=9223372036854775807/\qF w ao xs/\zAL xs/\z=sgn neg (nat xs)
def yA(w:World)(v:Value)(z:Int):Prop:=
 ∃neg ao n cap xs,v= .agg #[.bool neg,.slice ao n cap]/\xs.length=n/\n<=cap/\cap<=9223372036854775807/\qF w ao xs/\zAL xs/\z=sgn neg (nat xs)/\(n=0->neg=false)
theorem yA.J(h:yA w v z):zHR w v z:=by
 obtain⟨neg,ao,n,a,xs,b,c,d,e,f,g,i,_⟩:=h;exact⟨neg,ao,n,a,xs,b,c,d,e,f,g,i⟩
theorem zHR.ext(h:zHR w v z)(e:zBC w w'):zHR w' v z:=by
 obtain⟨neg,ao,n,a,xs,b,c,d,f,g,i⟩:=h;exact⟨neg,ao,n,a,xs,b,c,d,f,g.ext e,i⟩
theorem yA.ext(h:yA w v z)(e:zBC w w'):yA w' v z:=by
 obtain⟨neg,ao,n,a,xs,b,c,d,f,g,i⟩:=h;exact⟨neg,ao,n,a,xs,b,c,d,f,g.ext e,i⟩
theorem yA.I(h:yA w v z)(b:Below B w w')(a:w.heap.size<=B):yA w' v z:=h.ext (zBC.I b a)
def Sm(z:Int):Prop:=z.natAbs<B32^LIM
theorem Sm.len{neg:Bool}(h:Sm (sgn neg (nat xs)))(a:zAL xs):xs.length<=LIM:=by
 unfold Sm at h;rw[jA]at h;cases b:xs.length with
 |zero=>omega
 |succ n=>
  have c:=zGM a b;rcases zJ n LIM with h2|h2
  omega;have:=zC0 h2;omega
theorem Sm.of_pow(h:z.natAbs<B32^k)(a:k<=LIM):Sm z:=zI h (zC0 a)
theorem Sm.mono{y:Int}(h:Sm z)(a:y.natAbs<=z.natAbs):Sm y:=zM a h
def zBk(w:World)(z:Int)(e:Ending)(w':World):Prop:=∃v,e= .returned v/\yA w' v z/\Below w.heap.size w w'
def zHV(w:World)(n:Nat)(e:Ending)(w':World):Prop:=
 ∃ao len cap xs,e= .returned (.slice ao len cap)/\xs.length=len/\len<=cap/\cap<=9223372036854775807/\qF w' ao xs/\nat xs=n/\Below w.heap.size w w'
theorem zE{P:Program}{c:Code}{a:Act}(h:∀W0,Hid (W0=w)->Code.wp P c Q a W0):Code.wp P c Q a w:=h w rfl
theorem zBr{a:Addr}(h:w.cell? a=some v):w.drew.cell? a=some v:=h
theorem qK{a:World}(h:w.cell? ⟨b,o,none⟩=some v)(c:Below w.heap.size w a):a.cell? ⟨b,o,none⟩=some v:=
 (c.cell (p:=⟨b,o,none⟩) (yW w _ h)).trans h
theorem zCf{u:Value}(h:w.cell? ⟨b,o,none⟩=some v)(c:b≠r):(w.setCell ⟨r,i,none⟩ u).cell? ⟨b,o,none⟩=some v:=
 (World.cell?_setCell_other w _ _ u (fun e=>c (by injection e with a;exact a.symm))).trans h
theorem nx{a:World}(h:Below w.heap.size w W)(b:Below W.heap.size W a):Below w.heap.size w a:=h.trans (b.mono h.size)
theorem lx(h:Below w.heap.size w W):zBC w W:=zBC.I h (xgf _)
theorem dr(w:World):Below w.heap.size w w.drew:=(zB _ _).drew
theorem drN(w:World)(n:Nat):Below w.heap.size w (w.drewN n):=⟨rfl,rfl,rfl,xgf _,fun _ _=>rfl⟩
def Blk(w:World)(g:Nat)(t:TypeId)(cs:Array Value):Prop:=w.heap[g]?=some (.cells cs t (0,0))
section
variable {w w':World} {g:Nat} {t:TypeId} {cs:Array Value}
theorem Blk.lt(h:Blk w g t cs):g<w.heap.size:=(Array.getElem?_eq_some_iff.1 h).1
theorem Blk.cell(h:Blk w g t cs)(i:Nat):w.cell? ⟨g,i,none⟩=cs[i]?:=cell_of_row w g i cs t (0,0) h
theorem Blk.frozen(h:Blk w g t cs)(i:Nat):w.frozen? ⟨g,i,none⟩=false:=frozen_of_row w g i cs t h
theorem Blk.new(w:World)(t:TypeId)(cs:Array Value):Blk (w.alloc (.cells cs t)) w.heap.size t cs:=heap_alloc_new w _
abbrev yJ:=@Blk.new
theorem Blk.drew(h:Blk w g t cs):Blk w.drew g t cs:=h
theorem Blk.drewN(h:Blk w g t cs)(n:Nat):Blk (w.drewN n) g t cs:=h
theorem Blk.alloc(h:Blk w g t cs)(o:Obj):Blk (w.alloc o) g t cs:=(Below.heap_alloc w o g h.lt).trans h
theorem Blk.set_(h:Blk w g t cs)(i:Nat)(u:Value):Blk (w.setCell ⟨g,i,none⟩ u) g t (cs.setIfInBounds i u):=by
 unfold Blk at h ⊢
 simp[World.setCell,Array.getElem?_modify,h]
theorem Blk.far(h:Blk w g t cs)(a:g≠r)(i:Nat)(u:Value):Blk (w.setCell ⟨r,i,none⟩ u) g t cs:=(qH w ⟨r,i,none⟩ u g a).trans h
theorem Blk.I(h:Blk w g t cs)(a:Below w.heap.size w w'):Blk w' g t cs:=(a.block g h.lt).trans h
theorem Blk.belowB(h:Blk w g t cs)(a:Below B w w')(b:g<B):Blk w' g t cs:=(a.block g b).trans h
theorem Blk.at_(e:Hid (w'=w))(h:Blk w g t cs):Blk w' g t cs:=by rw[e.out];exact h
abbrev qW:=@Blk.at_
theorem Blk.lext(h:Blk w g t cs)(e:t≠tU)(i:Nat)(u:Value):zBC w (w.setCell ⟨g,i,none⟩ u):=fun b c j a=>by
 have d:b≠g:=by
  rintro rfl;unfold Blk at h;rw[h]at a;injection a with a
  injection a with _ f
  exact e f
 exact(qH w ⟨g,i,none⟩ u b d).trans a
theorem yM{a:World}(h:Below B a w)(b:B<=g)(i:Nat)(u:Value):Below B a (w.setCell ⟨g,i,none⟩ u):=h.setCell (p:=⟨g,i,none⟩) b u
theorem Blk.two(h:Blk w g t #[c0,c1]):w.cell? ⟨g,0,none⟩=some c0/\w.cell? ⟨g,1,none⟩=some c1/\w.frozen? ⟨g,0,none⟩=false/\w.frozen? ⟨g,1,none⟩=false:=
 ⟨h.cell 0,h.cell 1,h.frozen 0,h.frozen 1⟩
theorem Blk.three{a:Value}(h:Blk w g t #[c0,c1,a]):w.cell? ⟨g,0,none⟩=some c0/\w.cell? ⟨g,1,none⟩=some c1/\w.cell? ⟨g,2,none⟩=some a∧
  w.frozen? ⟨g,0,none⟩=false/\w.frozen? ⟨g,1,none⟩=false/\w.frozen? ⟨g,2,none⟩=false:=
 ⟨h.cell 0,h.cell 1,h.cell 2,h.frozen 0,h.frozen 1,h.frozen 2⟩
end
theorem Blk.put2(h:Blk w r T #[c0,c1])(x y:Value):Blk ((w.setCell ⟨r,0,none⟩ x).setCell ⟨r,1,none⟩ y) r T #[x,y]:=by
 simpa using(h.set_ 0 x).set_ 1 y
theorem Blk.lext2{cs:Array Value}(h:Blk w r T cs)(a:T≠tU)(x y:Value):zBC w ((w.setCell ⟨r,0,none⟩ x).setCell ⟨r,1,none⟩ y):=
 (h.lext a 0 _).trans ((h.set_ 0 _).lext a 1 _)
theorem Tryz.sizeI:(Tryz.prog.info? 51).map (·.size)=some 2:=by kernel_rfl
abbrev zEU:=@Tryz.sizeI
theorem yS{fn:Func}{a:Act}{w W:World}{z:Int}{r:Nat}{v:Array Value}{p:Tmp}(h:fn.results=#[.cell p 51])(hd:a.defers= [])
  (f:a.tmps.getD p undef= .pointer (some ⟨r,0,none⟩)) (e:Blk W r 51 v) (hv:yA W (.agg v) z) (hbel:Below w.heap.size w W):bodyPost Tryz.prog fn (zBk w z) .ret a W:=by
 obtain⟨neg,ao,n,c,xs,b,d⟩:=hv;injection b with b
 subst b;exact bodyPost_ret (results_cell_row h _ W r _ _ _ _ f e Tryz.underlying51 rfl (by rw[zEU];rfl)) hd ⟨_,rfl,⟨neg,ao,n,c,xs,rfl,d⟩,hbel⟩
section
variable {w W0:World} {T1 T2 T3 T4 T5:TypeId} {A B C D E:Array Value}
theorem qL(h:Hid (W0=w.alloc (.cells A T1))):Below w.heap.size w W0/\Blk W0 w.heap.size T1 A/\w.heap.size<W0.heap.size:=by
 rw[h.out];exact⟨(zB _ _).alloc (xgf _) _,yJ _ _ _,by simp⟩
theorem jW(h:Hid (W0=(w.alloc (.cells A T1)).alloc (.cells B T2))):Below w.heap.size w W0/\Blk W0 w.heap.size T1 A/\Blk W0 (w.heap.size+1) T2 B/\w.heap.size+1<W0.heap.size:=by
 obtain⟨a,b,c⟩:=qL (w:=w.alloc (.cells A T1)) (W0:=W0) (A:=B) (T1:=T2) h;obtain⟨d,e,f⟩:=qL (w:=w) (W0:=w.alloc (.cells A T1)) (A:=A) (T1:=T1) rfl;simp only[World.size_alloc]at b c;exact⟨nx d a,e.I a,b,c⟩
theorem zBB(h:Hid (W0=((w.alloc (.cells A T1)).alloc (.cells B T2)).alloc (.cells C T3))):
  Below w.heap.size w W0/\Blk W0 w.heap.size T1 A/\Blk W0 (w.heap.size+1) T2 B/\Blk W0 (w.heap.size+1+1) T3 C/\w.heap.size+1+1<W0.heap.size:=by
 obtain⟨a,b,c⟩:=qL (w:=(w.alloc (.cells A T1)).alloc (.cells B T2)) (W0:=W0) h;obtain⟨d,e,f,g⟩:=jW (w:=w) (W0:=(w.alloc (.cells A T1)).alloc (.cells B T2)) rfl;simp only[World.size_alloc]at b c;exact⟨nx d a,e.I a,f.I a,b,c⟩
theorem zLb(h:Hid (W0=(((w.alloc (.cells A T1)).alloc (.cells B T2)).alloc (.cells C T3)).alloc (.cells D T4))):
  Below w.heap.size w W0/\Blk W0 w.heap.size T1 A/\Blk W0 (w.heap.size+1) T2 B/\Blk W0 (w.heap.size+1+1) T3 C/\Blk W0 (w.heap.size+1+1+1) T4 D/\w.heap.size+1+1+1<W0.heap.size:=by
 obtain⟨a,b,c⟩:=qL (w:=((w.alloc (.cells A T1)).alloc (.cells B T2)).alloc (.cells C T3)) (W0:=W0) h;obtain⟨d,e,f,g,i⟩:=zBB (w:=w) (W0:=((w.alloc (.cells A T1)).alloc (.cells B T2)).alloc (.cells C T3)) rfl;simp only[World.size_alloc]at b c;exact⟨nx d a,e.I a,f.I a,g.I a,b,c⟩
theorem zV2(h:Hid (W0=((((w.alloc (.cells A T1)).alloc (.cells B T2)).alloc (.cells C T3)).alloc (.cells D T4)).alloc (.cells E T5))):
  Below w.heap.size w W0/\Blk W0 w.heap.size T1 A/\Blk W0 (w.heap.size+1) T2 B/\Blk W0 (w.heap.size+1+1) T3 C/\Blk W0 (w.heap.size+1+1+1) T4 D/\Blk W0 (w.heap.size+1+1+1+1) T5 E/\w.heap.size+1+1+1+1<W0.heap.size:=by
 obtain⟨a,b,c⟩:=qL (w:=(((w.alloc (.cells A T1)).alloc (.cells B T2)).alloc (.cells C T3)).alloc (.cells D T4)) (W0:=W0) h;obtain⟨d,e,f,g,i,j⟩:=zLb (w:=w) (W0:=(((w.alloc (.cells A T1)).alloc (.cells B T2)).alloc (.cells C T3)).alloc (.cells D T4)) rfl;simp only[World.size_alloc]at b c;exact⟨nx d a,e.I a,f.I a,g.I a,i.I a,b,c⟩
end
theorem zB3(d:Option Addr)(n f:Nat)(xs:List Nat)(w:World)(i:xs.length=n)(q:n<=f)(m:f<=9223372036854775807)(j:qF w d xs):
  CPq 110 #[.slice d n f] w fun e w'=>
   e= .returned (.slice d (zAU xs n) (zAU xs n))/\w=w':=by
 have l:=zH i;have r:=zDR xs n;have s:xs.length<=n:=oM;have t:n<=xs.length:=oM;clear i;go_enter Tryz.func110,Tryz.ntmps110;go_wp2;go_step3;go_wp2;go_step3;go_wp2;go_loop [3] (fun v=>∃k:Nat,k<=n/\v=niq k/\Hid (zAU xs k=zAU xs n)) (fun v=>(intOf v).toNat)
 case atStart=>exact⟨n,xgf _,rfl,rfl⟩
 obtain⟨k,p,rfl,a⟩:=hrel;cases k with
 |zero=>
  have e:zAU xs n=0:=a.out.symm;go_wp2;go_ret;exact⟨by simp[e],rfl⟩
 | succ k=>
  obtain⟨b,z,x,rfl,_,u,h,o⟩:=j.limb (k:=k) oM;by_cases c:x=0
  .have g:Hid (zAU xs k=zAU xs n):=by
    have:=a.out;rw[show zAU xs (k+1)=if xs.getD k 0=0 then zAU xs k else k+1 from rfl,zC (h.out.trans c)]at this;exact this
   subst c;clear a;go_wp2;go_round
   case rel=>exact⟨k,oM,by go_num,g⟩
   case measure=>simp[intOf]
  have g:Hid (zAU xs n=k+1):=by
   have:=a.out;rw[show zAU xs (k+1)=if xs.getD k 0=0 then zAU xs k else k+1 from rfl,zA (by rw[h.out];exact c)]at this;exact this.symm
  have y:((x:Int)==0)=false:=by simpa using c
  clear c a;go_wp2;go_ret;exact⟨by simp[g.out],rfl⟩
theorem zNS(G H:Option Addr)(a s e t:Nat)(xs ys:List Nat)(w:World)(I:xs.length=a)(J:ys.length=e)(a2:a<=s)(a3:e<=t)
  (a0:s<=9223372036854775807) (a1:t<=9223372036854775807) (M:a<=4*LIM) (N:e<=4*LIM) (K:qF w G xs) (L:qF w H ys):
  CPq 112 #[.slice G a s,.slice H e t] w (zHV w (nat xs+nat ys)):=by
 have Y:=zH I;have Z:=zH J;have a4:xs.length<=a:=oM;have a5:a<=xs.length:=oM;have a6:ys.length<=e:=oM;have a7:e<=ys.length:=oM;clear I J;rw[zAd]at M N;by_cases a8:a<e
 case pos=>
  have U:a<=e:=oM;have C:=fun W=>mkU ((e:Int)+1) (e+1) oM oM W
  go_enter Tryz.func112,Tryz.ntmps112;go_wp2;clear C;go_loopw [6,21] (fun c i wr=>∃(k d:Nat) (zs:List Nat),k<=e/\i= .int .i64 k/\c= .int .u64 d/\d<=1/\zCG wr w.heap.size zs/\BWq w wr/\e<zs.length∧
    Hid (zs.length=e+1/\zAV zs/\nat (zs.take k)+d*B32^k=nat (ys.take k)+nat (xs.take k))) (fun _ i _=>e-(intOf i).toNat)
  case atStart=>exact⟨0,0,List.replicate (e+1) 0,oM,rfl,rfl,oM,zCG.made _ _,(zB _ _).alloc (xgf _) _,by simp,⟨by simp,fun x D=>by rw[List.eq_of_mem_replicate D];exact zBj,by simp⟩⟩
  obtain⟨k,d,zs,R,rfl,rfl,hd,g,h,l,f⟩:=hrel;have Q:=g.frozen k;by_cases T:k<e
  .obtain⟨b,E,x,rfl,z,V,m,n⟩:=L.limb (k:=k) oM
   have O:=(h.cell (p:=⟨b,E+k,none⟩) z).trans n;have B:=g.cell (k:=k) oM;clear n;by_cases S:k<a
   .obtain⟨r,F,y,rfl,A,X,j,o⟩:=K.limb (k:=k) oM
    have P:=(h.cell (p:=⟨r,F+k,none⟩) A).trans o;clear o;go_wp2;go_roundw
    case rel=>exact⟨k+1,(d+x+y)/4294967296,zs.set k ((d+x+y)%4294967296),oM,by go_num,by go_num,oM,g.set' _ _ _ oM,h.setCell (xgf _) _,by simpa using l,
      ⟨by simpa using f.out.1,f.out.2.1.set _ _ (yE _ oM),zE3 f.out.2.2 oM m.out j.out⟩⟩
    case measure=>exact meq
   have j:xs.getD k 0=0:=by rw[xgb,List.getElem?_eq_none oM];rfl
   have q:=zH j;clear j;go_wp2;go_roundw
   case rel=>exact⟨k+1,(d+x)/4294967296,zs.set k ((d+x)%4294967296),oM,by go_num,by go_num,oM,g.set' _ _ _ oM,h.setCell (xgf _) _,by simpa using l,
     ⟨by simpa using f.out.1,f.out.2.1.set _ _ (yE _ oM),zE3 f.out.2.2 oM m.out q.out⟩⟩
   case measure=>exact meq
  obtain rfl:e=k:=oM;have B:=g.cell (k:=e) oM;go_wp2;go_ret;refine⟨_,_,_,zs.set e d,rfl,by simpa using f.out.1,oM,oM,(g.set' _ _ d oM).at_ (f.out.2.1.set _ _ (by unfold B32;omega)),?_,h.setCell (xgf _) _⟩;have u:=f.out.2.2;have v:=zBZ zs e d l;rw[qN _ (by simp[f.out.1]),u,qN ys oM,qN xs oM]at v;omega
 have U:e<=a:=oM;have C:=fun W=>mkU ((a:Int)+1) (a+1) oM oM W
 go_enter Tryz.func112,Tryz.ntmps112;go_wp2;clear C;go_loopw [6,21] (fun c i wr=>∃(k d:Nat) (zs:List Nat),k<=a/\i= .int .i64 k/\c= .int .u64 d/\d<=1/\zCG wr w.heap.size zs/\BWq w wr/\a<zs.length∧
   Hid (zs.length=a+1/\zAV zs/\nat (zs.take k)+d*B32^k=nat (xs.take k)+nat (ys.take k))) (fun _ i _=>a-(intOf i).toNat)
 case atStart=>exact⟨0,0,List.replicate (a+1) 0,oM,rfl,rfl,oM,zCG.made _ _,(zB _ _).alloc (xgf _) _,by simp,⟨by simp,fun x D=>by rw[List.eq_of_mem_replicate D];exact zBj,by simp⟩⟩
 obtain⟨k,d,zs,R,rfl,rfl,hd,g,h,l,f⟩:=hrel;have Q:=g.frozen k;by_cases T:k<a
 .obtain⟨b,E,x,rfl,z,V,m,n⟩:=K.limb (k:=k) oM
  have O:=(h.cell (p:=⟨b,E+k,none⟩) z).trans n;have B:=g.cell (k:=k) oM;clear n;by_cases S:k<e
  .obtain⟨r,F,y,rfl,A,X,j,o⟩:=L.limb (k:=k) oM
   have P:=(h.cell (p:=⟨r,F+k,none⟩) A).trans o;clear o;go_wp2;go_roundw
   case rel=>exact⟨k+1,(d+x+y)/4294967296,zs.set k ((d+x+y)%4294967296),oM,by go_num,by go_num,oM,g.set' _ _ _ oM,h.setCell (xgf _) _,by simpa using l,
     ⟨by simpa using f.out.1,f.out.2.1.set _ _ (yE _ oM),zE3 f.out.2.2 oM m.out j.out⟩⟩
   case measure=>exact meq
  have j:ys.getD k 0=0:=by rw[xgb,List.getElem?_eq_none oM];rfl
  have q:=zH j;clear j;go_wp2;go_roundw
  case rel=>exact⟨k+1,(d+x)/4294967296,zs.set k ((d+x)%4294967296),oM,by go_num,by go_num,oM,g.set' _ _ _ oM,h.setCell (xgf _) _,by simpa using l,
    ⟨by simpa using f.out.1,f.out.2.1.set _ _ (yE _ oM),zE3 f.out.2.2 oM m.out q.out⟩⟩
  case measure=>exact meq
 obtain rfl:a=k:=oM;have B:=g.cell (k:=a) oM;go_wp2;go_ret;refine⟨_,_,_,zs.set a d,rfl,by simpa using f.out.1,oM,oM,(g.set' _ _ d oM).at_ (f.out.2.1.set _ _ (by unfold B32;omega)),?_,h.setCell (xgf _) _⟩;have u:=f.out.2.2;have v:=zBZ zs a d l;rw[qN _ (by simp[f.out.1]),u,qN xs oM,qN ys oM]at v;omega
theorem zFH(a b:Int)(w:World):
  CPq 129 #[niq a,niq b] w fun e w'=>e= .returned (niq (zAB a b))/\w=w':=by
 by_cases c:a<b
 .have f:¬ b<a:=oM
  have e:zAB a b=-1:=by unfold zAB;rw[zC c]
  have E:=zH e;clear e;go_enter Tryz.func129,Tryz.ntmps129;go_wp2_with (go_in)
  go_ret;exact⟨by rw[E.out];rfl,rfl⟩
 by_cases d:b<a
 .have e:zAB a b=1:=by unfold zAB;rw[zA c,zC d]
  have E:=zH e;clear e;go_enter Tryz.func129,Tryz.ntmps129;go_wp2_with (go_in)
  go_ret;exact⟨by rw[E.out];rfl,rfl⟩
 have e:zAB a b=0:=by unfold zAB;rw[zA c,zA d]
 have E:=zH e;clear e;go_enter Tryz.func129,Tryz.ntmps129;go_wp2_with (go_in)
 go_ret;exact⟨by rw[E.out];rfl,rfl⟩
theorem zNu(a b:Int)(w:World):
  CPq 142 #[.int .u32 a,.int .u32 b] w fun e w'=>e= .returned (niq (zAB a b))/\w=w':=by
 by_cases c:a<b
 .have f:¬ b<a:=oM
  have e:zAB a b=-1:=by unfold zAB;rw[zC c]
  have E:=zH e;clear e;go_enter Tryz.func142,Tryz.ntmps142;go_wp2_with (go_in)
  go_ret;exact⟨by rw[E.out];rfl,rfl⟩
 by_cases d:b<a
 .have e:zAB a b=1:=by unfold zAB;rw[zA c,zC d]
  have E:=zH e;clear e;go_enter Tryz.func142,Tryz.ntmps142;go_wp2_with (go_in)
  go_ret;exact⟨by rw[E.out];rfl,rfl⟩
 have e:zAB a b=0:=by unfold zAB;rw[zA c,zA d]
 have E:=zH e;clear e;go_enter Tryz.func142,Tryz.ntmps142;go_wp2_with (go_in)
 go_ret;exact⟨by rw[E.out];rfl,rfl⟩
theorem zHw(a b c:Int)(w:World)(h:zAB a b=c):
  CPq 142 #[.int .u32 a,.int .u32 b] w fun e w'=>e= .returned (niq c)/\w'=w:=
 (zNu a b w).mono fun _ _ ⟨d,f⟩=>⟨by rw[d,h],f.symm⟩
theorem zBb{b:Int}(h:a<b):zAB a b=-1:=by unfold zAB;rw[zC h]
theorem zB0{b:Int}(h:b<a):zAB a b=1:=by unfold zAB;rw[zA oM,zC h]
theorem zCZ{b:Int}(h:a=b):zAB a b=0:=by unfold zAB;rw[zA oM,zA oM]
theorem zCk(z A:Option Addr)(a p d r:Nat)(xs ys:List Nat)(w:World)(F:xs.length=a)(G:ys.length=d)(a0:a<=p)(a1:d<=r)
  (U:p<=9223372036854775807) (V:r<=9223372036854775807) (u:qF w z xs) (v:qF w A ys) (L:zAL xs) (M:zAL ys):
  CPq 113 #[.slice z a p,.slice A d r] w fun e w'=>e= .returned (niq (zAB (nat xs) (nat ys)))/\∃q,w'=w.drewN q:=by
 have P:=zH F;have Q:=zH G;by_cases H:a=d
 .subst H
  have K:((zAB (a:Int) (a:Int)) !=0)=false:=by unfold zAB;simp
  have a2:xs.length<=a:=oM;have a3:a<=xs.length:=oM;have a4:ys.length<=a:=oM;have a5:a<=ys.length:=oM;clear F G;go_enter Tryz.func113,Tryz.ntmps113;go_wp2_with (go_at_call 129;refine(zFH _ _ _).mono ?_;rintro e w' ⟨rfl,rfl⟩)
  clear K;go_loopw [6] (fun i wr=>∃k q:Nat,k<=a/\i=niq ((k:Int)-1)/\Hid (xs.drop k=ys.drop k)/\Hid (wr=w.drewN q)) (fun i _=>(intOf i+1).toNat)
  case atStart=>exact⟨a,0,xgf _,rfl,by show _=_;rw[qX oM,qX oM],rfl⟩
  obtain⟨k,q,Z,rfl,g,f⟩:=hrel;cases k with
  | zero=>
   have B:zAB (nat xs:Int) (nat ys:Int)=0:=by
    have:xs=ys:=by simpa using g.out
    subst this;unfold zAB;simp
   have E:=zH B;clear B;go_wp2;go_ret;exact⟨by rw[E.out];rfl,_,f.out⟩
  | succ k=>
   obtain⟨b,N,x,rfl,S,a6,n,C⟩:=u.limb (k:=k) oM;obtain⟨J,O,y,rfl,T,a7,o,D⟩:=v.limb (k:=k) oM;have X:wr.cell? ⟨b,N+k,none⟩=some (.int .u32 (x:Nat)):=by rw[f.out];exact C
   have Y:wr.cell? ⟨J,O+k,none⟩=some (.int .u32 (y:Nat)):=by rw[f.out];exact D
   have R:IntKind.i64.wrap ((k:Int)+1-1)=k:=by rw[yB _ oM];omega
   clear C D;rcases zBg x y with m|m|m
   .have E:Hid (zAB (nat xs) (nat ys)=-1):=zBb (by have:=zM8 u.1 oM oM g.out n.out o.out m;omega)
    have c:=fun W=>zHw x y (-1) W (zBb oM)
    go_wp2;go_quiet ((go_at_call 142;exact yK (c _)));go_wp2;go_ret;exact⟨by rw[E.out];rfl,_,by rw[f.out,jL]⟩
   .subst m
    have I:Hid (xs.drop k=ys.drop k):=by
     show _=_;rw[yX (l:=xs) (i:=k) oM,yX (l:=ys) (i:=k) oM,g.out];have s:=n.out;have t:=o.out;rw[xgb,xga oM]at s t;simp at s t;rw[s,t]
    have c:=fun W=>zHw x x 0 W (zCZ rfl)
    clear g n o;go_wp2;go_quiet ((go_at_call 142;exact yK (c _)));go_wp2;go_roundw
    case rel=>exact⟨k,_,oM,by go_num,I,by show _=_;rw[f.out,jL]⟩
    case measure=>simp[intOf]
   have E:Hid (zAB (nat xs) (nat ys)=1):=zB0 (by have:=zM8 v.1 oM oM g.out.symm o.out n.out m;omega);have c:=fun W=>zHw x y 1 W (zB0 oM)
   go_wp2;go_quiet ((go_at_call 142;exact yK (c _)));go_wp2;go_ret;exact⟨by rw[E.out];rfl,_,by rw[f.out,jL]⟩
 rcases jG H with h|h
 .have j:zAB (a:Int) (d:Int)=-1:=zBb oM
  have E:Hid (zAB (nat xs) (nat ys)=-1):=zBb (by have:=zJd u.1 M oM;omega);have c:=fun W=>(zFH a d W)
  rw[j]at c;clear j;go_enter Tryz.func113,Tryz.ntmps113;go_wp2_with (go_at_call 129;refine(c _).mono ?_;rintro e w' ⟨rfl,rfl⟩)
  go_ret;exact⟨by rw[E.out];rfl,0,rfl⟩
 have j:zAB (a:Int) (d:Int)=1:=zB0 oM;have E:Hid (zAB (nat xs) (nat ys)=1):=zB0 (by have:=zJd v.1 L oM;omega);have c:=fun W=>(zFH a d W)
 rw[j]at c;clear j;go_enter Tryz.func113,Tryz.ntmps113;go_wp2_with (go_at_call 129;refine(c _).mono ?_;rintro e w' ⟨rfl,rfl⟩)
 go_ret;exact⟨by rw[E.out];rfl,0,rfl⟩
theorem zGq{x y v e:Nat}(h:nat (zs.take k)+nat (ys.take k)=nat (xs.take k)+d*B32^k)(b:k<zs.length)
  (c:xs.getD k 0=x) (f:ys.getD k 0=y) (hv:v+y+d=x+e*4294967296):
  nat ((zs.set k v).take (k+1))+nat (ys.take (k+1))=nat (xs.take (k+1))+e*B32^(k+1):=by
 rw[zBZ _ _ _ b,yC,yC,c,f,qE,zBV];rw[zBV]at h;generalize 4294967296^k=p at*;have a:(v+y+d)*p=(x+e*4294967296)*p:=by rw[hv]
 rw[zS,zS,zS,zN,zP 4294967296 p]at a;omega
theorem zOf(x y d:Nat)(a:x<4294967296)(b:y<4294967296)(hd:d<=1):
  ∃v e:Nat,IntKind.u32.wrap (IntKind.u64.wrap (IntKind.u64.wrap ((x:Int)-d)-y))=v/\IntKind.u64.wrap (IntKind.u64.wrap ((x:Int)-d)-y)/9223372036854775808=e/\v<4294967296/\e<=1/\v+y+d=x+e*4294967296:=by
 simp only[IntKind.wrap_u64,IntKind.wrap_u32];by_cases h:y+d<=x
 .exact⟨x-d-y,0,oM,oM,oM,oM,oM⟩
 exact⟨x+4294967296-d-y,1,oM,oM,oM,oM,oM⟩
theorem zMv(x d:Nat)(a:x<4294967296)(hd:d<=1):
  ∃v e:Nat,IntKind.u32.wrap (IntKind.u64.wrap ((x:Int)-d))=v/\IntKind.u64.wrap ((x:Int)-d)/9223372036854775808=e/\v<4294967296/\e<=1/\v+0+d=x+e*4294967296:=by
 simp only[IntKind.wrap_u64,IntKind.wrap_u32];by_cases h:d<=x
 .exact⟨x-d,0,oM,oM,oM,oM,oM⟩
 exact⟨x+4294967296-d,1,oM,oM,oM,oM,oM⟩
theorem zIC(u z:Option Addr)(a m g n:Nat)(xs ys:List Nat)(w:World)(F:xs.length=a)(G:ys.length=g)(b0:a<=m)(b3:g<=n)
  (a2:m<=9223372036854775807) (a3:n<=9223372036854775807) (O:a<=4*LIM) (U:qF w u xs) (V:qF w z ys) (b4:g<=a) (H:nat ys<=nat xs):
  CPq 114 #[.slice u a m,.slice z g n] w (zHV w (nat xs-nat ys)):=by
 have a0:=zH F;have a1:=zH G;have J:=zH H;have R:xs.length<=a:=oM;have b5:a<=xs.length:=oM;have b6:ys.length<=g:=oM;have b7:g<=ys.length:=oM;clear F G H;rw[zAd]at O;have S:=fun W=>mkU (a:Int) a oM oM W
 go_enter Tryz.func114,Tryz.ntmps114;go_wp2;clear S;go_loopw [6,14] (fun c i wr=>∃(k d:Nat) (zs:List Nat),k<=a/\i= .int .i64 k/\c= .int .u64 d/\d<=1/\zCG wr w.heap.size zs/\BWq w wr/\a<=zs.length∧
   Hid (zs.length=a/\zAV zs/\nat (zs.take k)+nat (ys.take k)=nat (xs.take k)+d*B32^k)) (fun _ i _=>a-(intOf i).toNat)
 case atStart=>exact⟨0,0,List.replicate a 0,oM,rfl,rfl,oM,zCG.made _ _,(zB _ _).alloc (xgf _) _,by simp,⟨by simp,fun x T=>by rw[List.eq_of_mem_replicate T];exact zBj,by simp⟩⟩
 obtain⟨k,d,zs,hk,rfl,rfl,hd,j,h,E,f⟩:=hrel;have a7:=j.frozen k;by_cases a9:k<a
 .obtain⟨b,Y,x,rfl,P,I,t,C⟩:=U.limb (k:=k) oM
  have a4:=(h.cell (p:=⟨b,Y+k,none⟩) P).trans C;have a6:=j.cell (k:=k) oM;clear C;by_cases a8:k<g
  .obtain⟨L,Z,y,rfl,Q,X,l,D⟩:=V.limb (k:=k) oM
   have a5:=(h.cell (p:=⟨L,Z+k,none⟩) Q).trans D;clear D;go_wp2;go_roundw;obtain⟨v,e,o,q,r,M,s⟩:=zOf x y d I X hd
   case rel=>exact⟨k+1,e,zs.set k v,oM,by go_num,by rw[q],oM,j.set' _ _ v (by first|exact o|omega),h.setCell (xgf _) _,by simpa using E,
     ⟨by simpa using f.out.1,f.out.2.1.set _ _ r,zGq f.out.2.2 oM t.out l.out s⟩⟩
   case measure=>exact meq
  have l:ys.getD k 0=0:=by rw[xgb,List.getElem?_eq_none oM];rfl
  have K:=zH l;clear l;go_wp2;go_roundw;obtain⟨v,e,o,q,r,M,s⟩:=zMv x d I hd
  case rel=>exact⟨k+1,e,zs.set k v,oM,by go_num,by rw[q],oM,j.set' _ _ v (by first|exact o|omega),h.setCell (xgf _) _,by simpa using E,
    ⟨by simpa using f.out.1,f.out.2.1.set _ _ r,zGq f.out.2.2 oM t.out K.out s⟩⟩
  case measure=>exact meq
 obtain rfl:a=k:=oM;go_wp2;go_ret;have A:=f.out.2.2;rw[qN xs R,qN ys oM,qN zs (by rw[f.out.1];omega)]at A;have B:=zCY f.out.2.1;rw[f.out.1]at B;have h3:=J.out;refine⟨_,_,_,zs,rfl,f.out.1,oM,oM,j.at_ f.out.2.1,?_,h⟩;generalize B32^a=p at A B;have N:d=0∨d=1:=oM;rcases N with rfl|rfl<;>omega
theorem zG5{a:List Nat}{c y z:Nat}(h:nat (zs.take (i+k))+c*B32^(i+k)=nat (a.take (i+k))+x*B32^i*nat (ys.take k))(f:i+k<zs.length)
    (g:ys.getD k 0=y) (l:zs.getD (i+k) 0=z) (j:a.getD (i+k) 0=z):
    nat ((zs.set (i+k) ((c+(x*y+z))%4294967296)).take (i+(k+1)))+(c+(x*y+z))/4294967296*B32^(i+(k+1))=nat (a.take (i+(k+1)))+x*B32^i*nat (ys.take (k+1)):=by
  rw[show i+(k+1)=i+k+1 from rfl,zBZ _ _ _ f,yC a,yC ys,g,j,jT,qE,zBV];rw[zBV]at h;have b:x*4294967296^i*(y*4294967296^k)=x*y*4294967296^(i+k):=by rw[zAS];simp only[Nat.mul_assoc,Nat.mul_comm,Nat.mul_left_comm]
  rw[b];generalize 4294967296^(i+k)=p at*;generalize x*4294967296^i*nat (ys.take k)=t at*;generalize x*y=m at*;have e:=jP (c+(m+z)) 4294967296;generalize (c+(m+z))/4294967296=q at*;generalize (c+(m+z))%4294967296=r at*;have d:r*p+q*(p*4294967296)=(c+(m+z))*p:=by rw[<-e,zS,zP 4294967296 q,zN,zP 4294967296 p,zCJ]
  rw[zS,zS]at d;omega
theorem zGI(b:x<4294967296)(c:y<4294967296):x*y<=18446744065119617025:=by
  have a:x*y<=4294967295*4294967295:=qP oM oM;omega
theorem zGJ(a:x<4294967296)(b:y<4294967296):(x:Int)*(y:Int)<=18446744065119617025/\0<=(x:Int)*(y:Int):=by
  have h:=zGI a b;rw[<-yP];generalize x*y=m at*;omega
theorem zDq(h:xs.drop k=ys.drop k){j:Nat}(a:k<=j):xs.getD j 0=ys.getD j 0:=by
  have:=congrArg (fun l=>l.getD (j-k) 0) h;simp only[xgb,List.getElem?_drop]at this;rw[show k+(j-k)=j by omega]at this;simpa[xgb]using this
theorem zCw(zs:List Nat)(k v:Nat):(zs.set k v).drop (k+1)=zs.drop (k+1):=by
  rw[List.drop_set_of_lt oM]
theorem zEz(h:xs.drop k=ys.drop k):xs.drop (k+1)=ys.drop (k+1):=by
  have:=congrArg List.tail h;simpa using this
theorem zQ4(s t:Option Addr)(d L a M:Nat)(xs ys:List Nat)(w:World)(D:xs.length=d)(E:ys.length=a)
    (Q:d<=4*LIM) (R:a<=4*LIM) (a0:qF w s xs) (a1:qF w t ys):
    CPq 148 #[.slice s d L,.slice t a M] w (zHV w (nat xs*nat ys)):=by
  have a4:=zH D;have a5:=zH E;have V:xs.length<=d:=oM;have b3:d<=xs.length:=oM;have b4:ys.length<=a:=oM;have b5:a<=ys.length:=oM;clear D E;rw[zAd]at Q R;have Y:=fun W=>mkU ((d:Int)+a) (d+a) oM oM W
  go_enter Tryz.func148,Tryz.ntmps148;go_wp2;clear Y;go_loopw [19] (fun i wr=>∃(k:Nat) (zs:List Nat),k<=d/\i= .int .i64 k/\zCG wr w.heap.size zs/\BWq w wr/\d+a<=zs.length∧
      Hid (zs.length=d+a/\zAV zs/\nat (zs.take (k+a))=nat (xs.take k)*nat ys)) (fun i _=>d-(intOf i).toNat)
  case atStart=>exact⟨0,List.replicate (d+a) 0,oM,rfl,zCG.made _ _,(zB _ _).alloc (xgf _) _,by simp,⟨by simp,fun x Z=>by rw[List.eq_of_mem_replicate Z];exact zBj,by
    have:∀m,nat (List.replicate m 0)=0:=fun m=>by induction m with
      |zero=>rfl
      |succ m ih=>rw[List.replicate_succ,zBR,ih];rfl
    rw[List.take_replicate,this];simp⟩⟩
  case round=>
    obtain⟨k,l,hk,rfl,u,q,X,f⟩:=hrel;obtain⟨H,rfl⟩:∃H:World,H=wr:=⟨_,rfl⟩;by_cases b0:k<d
    · obtain ⟨b,a2,x,rfl,S,F,I,v⟩:=a0.limb (k:=k) oM
      have a6:=(q.cell (p:=⟨b,a2+k,none⟩) S).trans v;clear v;go_wp2;go_loopw [8,26] (fun N i wr=>∃(j c:Nat) (zs:List Nat),j<=a/\i= .int .i64 j/\N= .int .u64 c/\c<4294967296/\zCG wr w.heap.size zs/\BWq w wr/\d+a<=zs.length∧
          Hid (zs.length=d+a/\zAV zs/\zs.drop (k+j)=l.drop (k+j)/\nat (zs.take (k+j))+c*B32^(k+j)=nat (l.take (k+j))+x*B32^k*nat (ys.take j))) (fun _ i _=>a-(intOf i).toNat)
      case atStart=>exact⟨0,0,l,oM,rfl,rfl,oM,u,q,X,⟨f.out.1,f.out.2.1,rfl,by simp⟩⟩
      case round=>
        obtain⟨j,c,zs,hj,rfl,rfl,U,h,o,C,e⟩:=hrel;have a8:=h.frozen (k+j);by_cases a9:j<a
        · obtain⟨K,a3,y,rfl,T,G,J,A⟩:=a1.limb (k:=j) oM
          have a7:=(o.cell (p:=⟨K,a3+j,none⟩) T).trans A;clear A;obtain⟨z,n⟩:∃z,zs.getD (k+j) 0=z:=⟨_,rfl⟩;have c0:z<4294967296:=by rw[<-n];exact e.out.2.1.get _
          have B:=h.cell (k:=k+j) oM;rw[n]at B;have r:=zH n;clear n;have b7:=zGI F G;obtain⟨b8,b9⟩:=zGJ F G;go_wp2;go_roundw
          case rel=>
            have O:(((c+(x*y+z))/4294967296:Nat):Int)=((c:Int)+((x:Int)*(y:Int)+(z:Int)))/4294967296:=by simp
            have b6:c+(x*y+z)<18446744073709551616:=by generalize x*y=m at*;omega
            refine⟨j+1,(c+(x*y+z))/4294967296,zs.set (k+j) ((c+(x*y+z))%4294967296),oM,by go_num,by rw[O],by generalize x*y=m at*;omega,h.set' _ _ _ sI,o.setCell (xgf _) _,by simpa using C,
              ⟨by simpa using e.out.1,e.out.2.1.set _ _ (yE _ oM),?_,zG5 e.out.2.2.2 oM J.out r.out ((zDq e.out.2.2.1 (xgf _)).symm.trans r.out)⟩⟩
            rw[show k+(j+1)=k+j+1 from rfl,zCw];exact zEz e.out.2.2.1
          case measure=>exact meq
        · obtain rfl:a=j:=oM
          have B:=h.cell (k:=k+a) oM;go_wp2;go_roundw
          case rel=>
            refine⟨k+1,zs.set (k+a) c,oM,by go_num,h.set' _ _ _ rfl,o.setCell (xgf _) _,by simpa using C,⟨by simpa using e.out.1,e.out.2.1.set _ _ U,?_⟩⟩;have g:=e.out.2.2.2;have P:=f.out.2.2;rw[P,qN ys oM]at g;rw[show k+1+a=k+a+1 by omega,zBZ _ _ _ oM,g,yC xs,I.out,zS]
          case measure=>exact meq
    · obtain rfl:d=k:=oM
      go_wp2;go_ret;have g:=f.out.2.2;rw[qN xs V,qN l (by rw[f.out.1];omega)]at g;exact⟨_,_,_,l,rfl,f.out.1,oM,oM,u.at_ f.out.2.1,g,q⟩
theorem zBG(neg:Bool)(b:Option Addr)(n d:Nat)(xs:List Nat)(w:World)(h:xs.length=n)(p:n<=d)(o:d<=9223372036854775807)(i:qF w b xs):
  CPq 111 #[.bool neg,.slice b n d] w (zBk w (sgn neg (nat xs))):=by
 have f:=zH h;have r:=zDR xs n;obtain⟨t,c⟩:∃t,zAU xs n=t:=⟨_,rfl⟩;rw[c]at r;have g:=fun W s=>zB3 b n d xs W h p o s
 rw[c]at g;have j:=zH c;clear c h;have q:zAL (xs.take t):=by
  have a:=zD5 xs;unfold zDU at a;rw[f.out,j.out]at a;exact a
 have m:Hid (nat (xs.take t)=nat xs):=by
  have a:=zCl xs;unfold zDU at a;rw[f.out,j.out]at a;exact a
 by_cases k:t=0
 .subst k
  go_enter Tryz.func111,Tryz.ntmps111;go_wp2_with (go_at_call 110;refine(g _ ?_).mono ?_;exact i.ext (zBC.I ((zB _ _).alloc (xgf _) _) (xgf _));rintro e w' ⟨rfl,rfl⟩)
  refine bodyPost_ret (v:=.agg #[.bool false,.slice none 0 0]) (by simp[results,Tryz.results111,go_sem]) rfl ?_;refine⟨_,rfl,⟨false,none,0,0,[],rfl,rfl,oM,oM,qF.nil _ _,zAL.nil,?_,by simp⟩,(zB _ _).alloc (xgf _) _⟩;have:=m.out;simp at this;rw[<-this];simp[zHh]
 have u:((t:Int)==0)=false:=by simpa using k
 go_enter Tryz.func111,Tryz.ntmps111;go_wp2_with (go_at_call 110;refine(g _ ?_).mono ?_;exact i.ext (zBC.I ((zB _ _).alloc (xgf _) _) (xgf _));rintro e w' ⟨rfl,rfl⟩)
 refine bodyPost_ret (v:=.agg #[.bool neg,.slice b t t]) (by simp[results,Tryz.results111,go_sem]) rfl ?_;have l:BWq w (w.alloc (.cells #[.bool neg,.slice b t t] 51)):=(zB _ _).alloc (xgf _) _;exact⟨_,rfl,⟨neg,b,t,t,xs.take t,rfl,by rw[qM,f.out];omega,oM,oM,(i.take t).ext (zBC.I l (xgf _)),q,by rw[m.out],oM⟩,l⟩
theorem qF.two(w:World)(a b:Nat)(f:a<4294967296)(g:b<4294967296)(m k:Int)(d:m=a)(c:k=b):
  qF (w.alloc (.cells #[.int .u32 m,.int .u32 k] tU)) (some ⟨w.heap.size,0,none⟩) [a,b]:=by
 subst d;subst c;exact(zCG.made w [a,b]).at_ (fun x e=>by simp at e;unfold B32;omega)
theorem qF.one(w:World)(a:Nat)(d:a<4294967296)(m:Int)(b:m=a):
  qF (w.alloc (.cells #[.int .u32 m] tU)) (some ⟨w.heap.size,0,none⟩) [a]:=by
 subst b;exact(zCG.made w [a]).at_ (fun x c=>by simp at c;unfold B32;omega)
theorem zE2(u:Nat)(w:World)(a:u<18446744073709551616):
  CPq 123 #[.int .u64 (u:Nat)] w (zHV w u):=by
 go_enter Tryz.func123,Tryz.ntmps123;go_wp2;go_ret;exact⟨_,_,_,[u%4294967296,u/4294967296],rfl,rfl,oM,oM,qF.two w _ _ oM oM _ _ (by simp[IntKind.wrap_u32]) (by simp[IntKind.wrap_u32]),by simp[zBR,zBV];omega,(zB _ _).alloc (xgf _) _⟩
theorem zAn(v:Value)(z:Int)(w:World)(h:zHR w v z):
  CPq 76 #[v] w fun e w'=>e= .returned (niq (zAB z 0))/\BWq w w':=by
 obtain⟨neg,ao,n,i,xs,rfl,a,k,j,d,g,b⟩:=h;have c:=fun W l=>zB3 ao n i xs W a k j l
 rw[<-a,zAT g,a]at c;by_cases f:n=0
 .have E:Hid (zAB z 0=0):=by
   have:xs= []:=zY oM;subst this;exact zCZ (by rw[b];simp[zHh])
  clear b a;subst f;go_enter Tryz.func76,Tryz.ntmps76;go_wp2_with (go_at_call 110;refine(c _ ?_).mono ?_;exact d.ext (zBC.I ((zB _ _).alloc (xgf _) _) (xgf _));rintro e w' ⟨rfl,rfl⟩)
  go_ret;exact⟨by rw[E.out];rfl,(zB _ _).alloc (xgf _) _⟩
 have o:0<nat xs:=zMP g (by rintro rfl;simp at a;omega);have m:((n:Int)==0)=false:=by simpa using f
 cases neg with
 |true=>
  have E:Hid (zAB z 0=-1):=zBb (by rw[b];simp;omega);clear b a;go_enter Tryz.func76,Tryz.ntmps76;go_wp2_with (go_at_call 110;refine(c _ ?_).mono ?_;exact d.ext (zBC.I ((zB _ _).alloc (xgf _) _) (xgf _));rintro e w' ⟨rfl,rfl⟩)
  go_ret;exact⟨by rw[E.out];rfl,(zB _ _).alloc (xgf _) _⟩
 |false=>
  have E:Hid (zAB z 0=1):=zB0 (by rw[b];simp;omega);clear b a;go_enter Tryz.func76,Tryz.ntmps76;go_wp2_with (go_at_call 110;refine(c _ ?_).mono ?_;exact d.ext (zBC.I ((zB _ _).alloc (xgf _) _) (xgf _));rintro e w' ⟨rfl,rfl⟩)
  go_ret;exact⟨by rw[E.out];rfl,(zB _ _).alloc (xgf _) _⟩
theorem zDt(n:Int)(w:World)(D:-9223372036854775808<=n)(E:n<=9223372036854775807):
  CPq 82 #[niq n] w (zBk w n):=by
 by_cases F:n<0
 .have e:IntKind.u64.wrap (-IntKind.u64.wrap n)=((n.natAbs:Nat):Int):=by simp only[IntKind.wrap_u64];omega
  go_enter Tryz.func82,Tryz.ntmps82;go_wp2_with fail
  refine(zE2 n.natAbs _ oM).mono ?_;rintro y B ⟨ao,q,f,zs,rfl,j,k,l,o,p,b⟩;have d:=(yJ w 51 #[.bool false,.slice none 0 0]).I b;go_wp2_with fail
  refine(zBG true ao q f zs _ j k l o).mono ?_;rintro z C ⟨v,rfl,h,c⟩;have a:=d.I c;have A:=a.two;obtain⟨u,r,t,s,x,rfl,i⟩:=h;go_wp2_with fail
  refine yS rfl rfl rfl (a.put2 _ _) ?_ (yM (yM (nx (nx ((zB _ _).alloc (xgf _) _) b) c) oM 0 _) oM 1 _);refine yA.ext ?_ (a.lext2 dE _ _);have g:sgn true (nat zs)=n:=by rw[p];simp;omega
  rw[<-g];exact⟨u,r,t,s,x,rfl,i⟩
 obtain⟨m,rfl⟩:=Int.eq_ofNat_of_zero_le (show 0<=n by omega);go_enter Tryz.func82,Tryz.ntmps82;go_wp2_with fail
 refine(zE2 m _ oM).mono ?_;rintro y B ⟨ao,q,f,zs,rfl,j,k,l,o,p,b⟩;have d:=(yJ w 51 #[.bool false,.slice none 0 0]).I b;go_wp2_with fail
 refine(zBG false ao q f zs _ j k l o).mono ?_;rintro z C ⟨v,rfl,h,c⟩;have a:=d.I c;have A:=a.two;obtain⟨u,r,t,s,x,rfl,i⟩:=h;go_wp2_with fail
 refine yS rfl rfl rfl (a.put2 _ _) ?_ (yM (yM (nx (nx ((zB _ _).alloc (xgf _) _) b) c) oM 0 _) oM 1 _);refine yA.ext ?_ (a.lext2 dE _ _);have g:sgn false (nat zs)=m:=by rw[p];simp
 rw[<-g];exact⟨u,r,t,s,x,rfl,i⟩
theorem zEX{b:Int}(h:¬ a<b):0<=zAB a b:=by
 unfold zAB;rw[zA h];split<;>omega
theorem zQo(neg:Bool)(a b:Nat):sgn neg (a+b)=sgn neg a+sgn neg b:=by cases neg<;>simp<;>omega
theorem zNd(h:n1≠n2)(a b:Nat)(c:b<=a):sgn n1 (a-b)=sgn n1 a+sgn n2 b:=by
 cases n1<;>cases n2<;>simp at h ⊢<;>omega
theorem zNe(h:n1≠n2)(a b:Nat)(c:a<=b):sgn n2 (b-a)=sgn n1 a+sgn n2 b:=by
 cases n1<;>cases n2<;>simp at h ⊢<;>omega
theorem zEu(v1 v2:Value)(z1 z2:Int)(w:World)(I:zHR w v1 z1)(J:zHR w v2 z2)(s1:Sm z1)(s2:Sm z2):
  CPq 72 #[v1,v2] w (zBk w (z1+z2)):=by
 obtain⟨z,h,n1,a9,xs,rfl,A,b4,b2,t,K,j⟩:=I;obtain⟨U,i,n2,b0,ys,rfl,B,b5,b3,x,L,k⟩:=J;have a6:n1<=4*LIM:=by
  have:n1<=LIM:=by rw[<-A];exact Sm.len (neg:=z) (by rw[<-j];exact s1) K
  omega
 have a7:n2<=4*LIM:=by
  have:n2<=LIM:=by rw[<-B];exact Sm.len (neg:=U) (by rw[<-k];exact s2) L
  omega
 have N:=fun W hw=>zB3 h n1 a9 xs W A b4 b2 hw
 rw[<-A,zAT K,A]at N;have a0:=fun W hw=>zB3 i n2 b0 ys W B b5 b3 hw
 rw[<-B,zAT L,B]at a0;have r:=zH A;have s:=zH B;have a1:=zH j;have a2:=zH k;clear A B j k s1 s2;have b7:=zH N;by_cases hs:z=U
 .subst hs
  go_enter Tryz.func72,Tryz.ntmps72;go_wp2_with fail
  refine zE ?_;intro W0 M;obtain⟨d,l,m,C,a8⟩:=zBB M;have u:=t.ext (lx d);have y:=x.ext (lx d);have c1:=l.two;have n:=m.two;go_quiet ((first|(go_at_call_of 110 h;exact yK ((N _ (u.ext (lx (drN _ _)))).mono (by rintro e w' ⟨rfl,rfl⟩;exact⟨rfl,rfl⟩)))|(go_at_call_of 110 i;exact yK ((a0 _ (y.ext (lx (drN _ _)))).mono (by rintro e w' ⟨rfl,rfl⟩;exact⟨rfl,rfl⟩)))));go_wp2_with fail
  refine zE ?_;intro b a;have o:BWq w b:=by rw[a.out];exact nx d (drN _ _)
  have F:=qW a l;have G:=qW a m;have D:=qW a C;have q:=lx (nx o (dr b));clear c1 n;obtain⟨c1,c2,c3,c4⟩:=F.two;obtain⟨n,d2,d3,d4⟩:=G.two;go_region_held3 (fun w'=>w'.cell? ⟨w.heap.size,0,none⟩=some (.bool z))
   ((((try go_split_ands);(repeat' apply And.intro))<;>first|exact zBr (by assumption)|exact qK (by assumption) f|exact qK (by assumption) g|exact zCf (zCf (by assumption) oM) oM))
   (first
    |((go_at_call 112;refine(zNS h i n1 n1 n2 n2 xs ys _ r.out s.out (xgf _) (xgf _) oM oM a6 a7 (t.ext q) (x.ext q)).mono ?_;rintro e w1 ⟨ao,T,H,zs,rfl,j,k,Q,R,S,f⟩;have E:=D.drew.I f))
    |((go_at_call 111;refine(zBG z ao T H zs _ j k Q R).mono ?_;rintro e w2 ⟨v,rfl,P,g⟩;have c:=E.I g;obtain⟨e1,e2,e3,e4⟩:=c.two;obtain⟨Z,V,Y,X,vx,rfl,p⟩:=P)))
  go_wp2_with fail
  refine yS rfl rfl rfl (c.put2 _ _) ?_ (yM (yM (nx (nx (nx o (dr b)) f) g) oM 0 _) oM 1 _);refine yA.ext ?_ (c.lext2 dE _ _);rw[S]at p;rw[a1.out,a2.out,<-zQo];exact⟨Z,V,Y,X,vx,rfl,p⟩
 have c0:(z==U)=false:=by simpa using hs
 have Hs:=zH hs;clear hs;by_cases b9:nat xs<nat ys
 .have O:=fun W I J=>zCk h i n1 n1 n2 n2 xs ys W r.out s.out (xgf _) (xgf _) oM oM I J K L
  rw[zBb oM]at O;go_enter Tryz.func72,Tryz.ntmps72;go_wp2_with fail
  refine zE ?_;intro W0 M;obtain⟨d,l,m,C,a8⟩:=zBB M;have u:=t.ext (lx d);have y:=x.ext (lx d);have c1:=l.two;have n:=m.two;go_quiet ((first|(go_at_call_of 110 h;exact yK ((N _ (u.ext (lx (drN _ _)))).mono (by rintro e w' ⟨rfl,rfl⟩;exact⟨rfl,rfl⟩)))|(go_at_call_of 110 i;exact yK ((a0 _ (y.ext (lx (drN _ _)))).mono (by rintro e w' ⟨rfl,rfl⟩;exact⟨rfl,rfl⟩)))));have a3:=u.ext (lx (drN W0 nq));have a4:=y.ext (lx (drN W0 nq));go_wp2_with (go_at_call 113;refine(O _ a3 a4).mono ?_;rintro e w' ⟨rfl,b6,rfl⟩)
  refine zE ?_;intro b a;have o:BWq w b:=by rw[a.out];exact nx d (drN _ _)
  have F:=qW a l;have G:=qW a m;have D:=qW a C;have q:=lx (nx o (dr b));clear c1 n;obtain⟨c1,c2,c3,c4⟩:=F.two;obtain⟨n,d2,d3,d4⟩:=G.two;go_region_held3 (fun w'=>w'.cell? ⟨(w.heap.size+1),0,none⟩=some (.bool U))
   ((((try go_split_ands);(repeat' apply And.intro))<;>first|exact zBr (by assumption)|exact qK (by assumption) f|exact qK (by assumption) g|exact zCf (zCf (by assumption) oM) oM))
   (first
    |((go_at_call 114;refine(zIC i h n2 n2 n1 n1 ys xs _ s.out r.out (xgf _) (xgf _) oM oM a7 (x.ext q) (t.ext q) (by rw[<-r.out,<-s.out];exact zCV x.1 K oM) oM).mono ?_;rintro e w1 ⟨ao,T,H,zs,rfl,j,k,Q,R,S,f⟩;have E:=D.drew.I f))
    |((go_at_call 111;refine(zBG U ao T H zs _ j k Q R).mono ?_;rintro e w2 ⟨v,rfl,P,g⟩;have c:=E.I g;obtain⟨e1,e2,e3,e4⟩:=c.two;obtain⟨Z,V,Y,X,vx,rfl,p⟩:=P)))
  go_wp2_with fail
  refine yS rfl rfl rfl (c.put2 _ _) ?_ (yM (yM (nx (nx (nx o (dr b)) f) g) oM 0 _) oM 1 _);refine yA.ext ?_ (c.lext2 dE _ _);rw[S]at p;rw[a1.out,a2.out,<-zNe Hs.out _ _ oM];exact⟨Z,V,Y,X,vx,rfl,p⟩
 have O:=fun W I J=>zCk h i n1 n1 n2 n2 xs ys W r.out s.out (xgf _) (xgf _) oM oM I J K L
 obtain⟨cc,a5,b8⟩:∃cc:Int,zAB (nat xs) (nat ys)=cc/\0<=cc:=⟨_,rfl,zEX oM⟩;rw[a5]at O;clear a5;go_enter Tryz.func72,Tryz.ntmps72;go_wp2_with fail
 refine zE ?_;intro W0 M;obtain⟨d,l,m,C,a8⟩:=zBB M;have u:=t.ext (lx d);have y:=x.ext (lx d);have c1:=l.two;have n:=m.two;go_quiet ((first|(go_at_call_of 110 h;exact yK ((N _ (u.ext (lx (drN _ _)))).mono (by rintro e w' ⟨rfl,rfl⟩;exact⟨rfl,rfl⟩)))|(go_at_call_of 110 i;exact yK ((a0 _ (y.ext (lx (drN _ _)))).mono (by rintro e w' ⟨rfl,rfl⟩;exact⟨rfl,rfl⟩)))));have a3:=u.ext (lx (drN W0 nq));have a4:=y.ext (lx (drN W0 nq));go_wp2_with (go_at_call 113;refine(O _ a3 a4).mono ?_;rintro e w' ⟨rfl,b6,rfl⟩)
 refine zE ?_;intro b a;have o:BWq w b:=by rw[a.out];exact nx d (drN _ _)
 have F:=qW a l;have G:=qW a m;have D:=qW a C;have q:=lx (nx o (dr b));clear c1 n;obtain⟨c1,c2,c3,c4⟩:=F.two;obtain⟨n,d2,d3,d4⟩:=G.two;go_region_held3 (fun w'=>w'.cell? ⟨w.heap.size,0,none⟩=some (.bool z))
  ((((try go_split_ands);(repeat' apply And.intro))<;>first|exact zBr (by assumption)|exact qK (by assumption) f|exact qK (by assumption) g|exact zCf (zCf (by assumption) oM) oM))
  (first
   |((go_at_call 114;refine(zIC h i n1 n1 n2 n2 xs ys _ r.out s.out (xgf _) (xgf _) oM oM a6 (t.ext q) (x.ext q) (by rw[<-r.out,<-s.out];exact zCV t.1 L oM) oM).mono ?_;rintro e w1 ⟨ao,T,H,zs,rfl,j,k,Q,R,S,f⟩;have E:=D.drew.I f))
   |((go_at_call 111;refine(zBG z ao T H zs _ j k Q R).mono ?_;rintro e w2 ⟨v,rfl,P,g⟩;have c:=E.I g;obtain⟨e1,e2,e3,e4⟩:=c.two;obtain⟨Z,V,Y,X,vx,rfl,p⟩:=P)))
 go_wp2_with fail
 refine yS rfl rfl rfl (c.put2 _ _) ?_ (yM (yM (nx (nx (nx o (dr b)) f) g) oM 0 _) oM 1 _);refine yA.ext ?_ (c.lext2 dE _ _);rw[S]at p;rw[a1.out,a2.out,<-zNd Hs.out _ _ oM];exact⟨Z,V,Y,X,vx,rfl,p⟩
def zHp(w:World)(base:Nat)(v:Value)(xs:List Nat):Prop:=zAV xs/\w.ownsRow base tU 1 v xs.length (xs.map fun n=>Value.int .u32 (n:Nat))
theorem zHp.at_(h:zHp w base v xs):
  ∃ao a,v= .slice ao xs.length a/\xs.length<=a/\a<=9223372036854775807/\qF w ao xs:=by
 obtain⟨l,p,e⟩:=h;rcases e with⟨rfl,d⟩|⟨g,a,c,rfl,q,i,m,f,r,o⟩
 .have:xs= []:=zY d
  subst this;exact⟨none,0,rfl,by simp,oM,qF.nil _ _⟩
 refine⟨some ⟨g,0,none⟩,a,rfl,m,f,l,fun _=>⟨g,0,c,_,rfl,i,fun k x j=>?_⟩⟩;have b:(xs.map fun n=>Value.int .u32 (n:Nat))[k]?=some (.int .u32 (x:Nat)):=by simp[j]
 rw[<-o,List.getElem?_take]at b;split at b;simpa using b;cases b
theorem zHp.empty(w:World)(base:Nat)(h:base<=w.heap.size):zHp (w.alloc (.cells #[] tU)) base (slq w.heap.size 0 0) []:=
 ⟨zAV.nil,by simp,.inr ⟨w.heap.size,0,#[],rfl,h,heap_alloc_new w _,xgf _,by simp[maxLen],rfl,rfl⟩⟩
theorem zHp.alloc(h:zHp w base v xs)(o:Obj):zHp (w.alloc o) base v xs:=⟨h.1,h.2.alloc o⟩
theorem zGU{P:Program}{w:World}(base:Nat)(t h e:TypeId)(i:TypeInfo)(size:Nat)(b:P.underlying t=some (.slice e))(a:P.info? e=some i)
  (v:Value) (n:Nat) (xs:List Value) (f:w.ownsRow base e size v n xs) (c:Nat):(Builtin.append_ #[t,t] h #[v,.slice none 0 c]).run P w= .ok v w:=by
 rcases f.2 with⟨rfl,rfl⟩|⟨g,j,k,rfl,_,_,d,_⟩
 simp[Builtin.append_,run_underlying b,sizeOf,typeInfo,a,Builtin.lenOf,Builtin.firstCells];simp[Builtin.append_,run_underlying b,sizeOf,typeInfo,a,Builtin.lenOf,Builtin.firstCells,d,storeCells]
theorem zM5{w:World}{ops:Array Oper}{rest:List Oper}{o:Oper}{a:Act}{Q:Exit->Act->World->Prop}(r:o.guard=none)(s x:Operand)
  (y:o.op= .call {callee:=.builtin .append,args:=#[s,x],argTypes:=#[49,49]})
  (base:Nat) (v:Value) (xs:List Nat) (z:a.eval s=v) (g:zHp w base v xs) (k:Option Addr) (m c:Nat) (ys:List Nat) (B:a.eval x= .slice k m c) (p:qF w k ys) (f:ys.length=m)
  (R:xs.length+m<=35184372088832) (H:base<=w.heap.size)
  (h:∀i w',zHp w' base i (xs++ys)->w.grownBy w' v.ownBlock->wpList Tryz.prog ops Q rest (a.put o.dst i) w'):wpList Tryz.prog ops Q (o::rest) a w:=by
 obtain⟨C,t,L,M,N⟩:=info_parts Tryz.infoU;cases k with
 | none=>
  have J:ys= []:=by
   by_cases q:ys= []
   .exact q
   obtain⟨_,_,_,_,d,_⟩:=p.2 q;cases d
  subst J;simp at f;subst f;refine wpList_plain r fun K hK=>?_
  have I:=zGU (P:=Tryz.prog) (w:=w) base 49 o.type tU C 1 Tryz.underlying49 t v xs.length _ g.2 c;unfold Oper.wp;simp only[execOp,y,resolve,invoke,builtin,Sem.run_bind,Sem.run_pure,Result.andThen_ok,List.map_toArray,List.map_cons,List.map_nil,z,B,I];exact hK _ _ (h v w (by simpa using g) (World.grownBy.refl w _))
 | some E=>
  refine wpList_append_own w r s x 49 y base tU C _ 1 4 Tryz.underlying49 t L M N rfl oM v xs.length _ z g.2 E m c (ys.map fun n=>Value.int .u32 (n:Nat)) B (by simp[f]) ?_ ?_ (by simp[maxLen];omega) oM H ?_
  .intro j u e
   simp only[List.getElem?_map,Option.map_eq_some_iff]at e;obtain⟨D,e,rfl⟩:=e;obtain⟨b,O,cs,F,d,l,G⟩:=p.2 (by rintro rfl;simp at e);injection d with d
   subst d;rw[jI,cell_of_row w b (O+j) cs tU F l];exact G j D e
  .intro u A
   simp only[List.mem_map]at A;obtain⟨D,_,rfl⟩:=A;rfl
  intro i w' d l _;refine h i w' ⟨g.1.append p.1,?_⟩ l;simpa[f]using d
def zTi(w:World)(xs:List Nat)(e:Ending)(w':World):Prop:=
 ∃ao len cap,e= .returned (.slice ao len cap)/\xs.length=len/\len<=cap/\cap<=9223372036854775807/\qF w' ao xs/\BWq w w'
theorem zD9(a:Option Addr)(n b:Nat)(xs:List Nat)(w:World)(d:xs.length=n)(p:n<=4*LIM)(f:qF w a xs):
  CPq 117 #[.slice a n b] w (zTi w xs):=by
 have v:=fun W=>Lib.run_eql_slice_nil (P:=Tryz.prog) W 49 tU a n b 0 0 Tryz.underlying49
 rw[zAd]at p;cases a with
 | none=>
  have u:xs= []:=by
   by_cases e:xs= []
   .exact e
   obtain⟨_,_,_,_,c,_⟩:=f.2 e;cases c
  subst u;clear d;go_enter Tryz.func117,Tryz.ntmps117;go_wp2;go_ret;exact⟨none,0,0,rfl,rfl,oM,oM,qF.nil _ _,zB _ _⟩
 |some h=>
  have g:=zH d;clear d;go_enter Tryz.func117,Tryz.ntmps117;go_wp2_with (at_builtin;refine zM5 rfl _ _ rfl w.heap.size (slq w.heap.size 0 0) [] rfl (zHp.empty w _ (xgf _)) (some h) n b xs rfl (f.ext (lx ((zB _ _).alloc (xgf _) _))) g.out (by simp;omega) sI ?_;intro x w' s q)
  have o:BWq w w':=((zB _ _).alloc (xgf _) _).grown q sI (fun k r=>by simp[Value.ownBlock]at r;omega);go_ret;obtain⟨i,j,t,c,l,m⟩:=s.at_;exact⟨i,_,j,by rw[t];rfl,rfl,c,l,m,o⟩
theorem zHR.len(h:zHR w v z)(s:Sm z):
  ∃neg ao n a xs,v= .agg #[.bool neg,.slice ao n a]/\xs.length=n/\n<=a/\a<=9223372036854775807/\qF w ao xs/\zAL xs/\z=sgn neg (nat xs)/\n<=LIM:=by
 obtain⟨neg,ao,n,a,xs,e,b,f,g,i,c,d⟩:=h;exact⟨neg,ao,n,a,xs,e,b,f,g,i,c,d,by rw[<-b];exact Sm.len (neg:=neg) (by rw[<-d];exact s) c⟩
theorem zKC(b:Bool)(n:Nat):sgn (!b) n=-sgn b n:=by cases b<;>simp
theorem zCN(l:Value)(z:Int)(w:World)(g:zHR w l z)(k:Sm z):CPq 75 #[l] w (zBk w (-z)):=by
 obtain⟨neg,ao,n,f,xs,rfl,i,T,S,A,R,j,U⟩:=g.len k;have m:=zH i;have o:=zH j;clear i j k g;have u:n<=4*LIM:=oM;go_enter Tryz.func75,Tryz.ntmps75;go_upto_region 1 with(fail)
 refine zE ?_;intro W0 t;obtain⟨h,r,d,V⟩:=jW t;have c1:=r.two;have M:=d.two;have G:=lx (nx h (dr W0));go_region_held3 (fun w'=>w'.cell? ⟨w.heap.size,0,none⟩=some (.bool neg)/\w'.cell? ⟨w.heap.size,1,none⟩=some (.slice ao n f))
  ((((try go_split_ands);(repeat' apply And.intro))<;>first|exact zBr (by assumption)|exact qK (by assumption) b|exact qK (by assumption) c|exact zCf (zCf (by assumption) oM) oM))
  (first
   |((go_at_call 117;refine(zD9 ao n f xs _ m.out u (A.ext G)).mono ?_;rintro e W ⟨p,F,s,rfl,B,C,D,E,b⟩;have q:=d.drew.I b))
   |((go_at_call 111;refine(zBG (!neg) p F s xs _ B C D E).mono ?_;rintro e X ⟨v,rfl,x,c⟩;have a:=q.I c;obtain⟨N,O,P,Q⟩:=a.two;obtain⟨K,H,J,I,L,rfl,y⟩:=x)))
 go_wp2_with fail
 refine yS rfl rfl rfl (a.put2 _ _) ?_ (yM (yM (nx (nx (nx h (dr W0)) b) c) oM 0 _) oM 1 _);refine yA.ext ?_ (a.lext2 dE _ _);rw[o.out,<-zKC];exact⟨K,H,J,I,L,rfl,y⟩
theorem zPA(k:Value)(z:Int)(w:World)(c:zHR w k z)(j:Sm z):CPq 175 #[k] w (zBk w (z.natAbs:Nat)):=by
 obtain⟨neg,ao,n,r,xs,rfl,h,Q,P,A,O,i,R⟩:=c.len j;have l:=zH h;have m:=zH i;clear h i j c;have u:n<=4*LIM:=oM;go_enter Tryz.func175,Tryz.ntmps175;go_upto_region 1 with(fail)
 refine zE ?_;intro W0 t;obtain⟨d,q,b,S⟩:=jW t;have c1:=q.two;have M:=b.two;have G:=lx d;go_wp2_with fail
 refine(zD9 ao n r xs _ l.out u (A.ext G)).mono ?_;rintro e T ⟨o,F,s,rfl,B,C,D,E,f⟩;have p:=b.I f;go_wp2_with fail
 refine(zBG false o F s xs _ B C D E).mono ?_;rintro e U ⟨v,rfl,x,g⟩;have a:=p.I g;have N:=a.two;obtain⟨K,H,J,I,L,rfl,y⟩:=x;go_wp2_with fail
 refine yS rfl rfl rfl (a.put2 _ _) ?_ (yM (yM (nx (nx d f) g) oM 0 _) oM 1 _);refine yA.ext ?_ (a.lext2 dE _ _);rw[show((z.natAbs:Nat):Int)=sgn false (nat xs) by rw[m.out,jA];rfl];exact⟨K,H,J,I,L,rfl,y⟩
theorem zMu(q r:Value)(a b:Int)(w:World)(h:zHR w q a)(i:zHR w r b)(o:Sm a)(p:Sm b):CPq 176 #[q,r] w (zBk w (a-b)):=by
 have z:=h;have s:=zH i;obtain⟨I,t,n1,y,xs,rfl,_⟩:=h;obtain⟨n,d,n2,g,ys,rfl,l,E,C,H,A,m⟩:=i;have D:∀W,zBC w W->CPq 72 #[.agg #[.bool I,.slice t n1 y],.agg #[.bool (!n),.slice d n2 g]] W (zBk W (a+-b)):=fun W e=>
  zEu _ _ _ _ W (z.ext e) ⟨!n,d,n2,g,ys,rfl,l,E,C,H.ext e,A,by rw[m,zKC]⟩ o (by unfold Sm at p ⊢;rwa[qO])
 clear l m o p s;go_enter Tryz.func176,Tryz.ntmps176;go_upto_region 1 with(fail)
 refine zE ?_;intro W0 B;obtain⟨j,u,x,f,Q⟩:=zBB B;have c1:=u.two;have O:=x.two;have R:=f.two;go_wp2_with fail
 refine(D _ (lx j)).mono ?_;rintro e S ⟨v,rfl,F,k⟩;have c:=f.I k;have P:=c.two;obtain⟨M,J,L,K,N,rfl,G⟩:=F;go_wp2_with fail
 refine yS rfl rfl rfl (c.put2 _ _) ?_ (yM (yM (nx j k) oM 0 _) oM 1 _);refine yA.ext ?_ (c.lext2 dE _ _);rw[show a-b=a+-b from Int.sub_eq_add_neg];exact⟨M,J,L,K,N,rfl,G⟩
theorem zQp(a b:Bool)(m n:Nat):sgn (a !=b) (m*n)=sgn a m*sgn b n:=by
 cases a<;>cases b<;>simp[Int.neg_mul,Int.mul_neg]
theorem zCD(D E:Value)(m n:Int)(w:World)(r:zHR w D m)(s:zHR w E n)(B:Sm m)(C:Sm n):CPq 116 #[D,E] w (zBk w (m*n)):=by
 obtain⟨z,c,n1,p,xs,rfl,a,T,R,Y,O,f,a4⟩:=r.len B;obtain⟨A,d,n2,q,ys,rfl,b,U,S,Z,P,g,a5⟩:=s.len C;have t:=fun W l=>zB3 c n1 p xs W a T R l
 rw[<-a,zAT O,a]at t;have u:=fun W l=>zB3 d n2 q ys W b U S l
 rw[<-b,zAT P,b]at u;have F:=zH a;have G:=zH b;have H:=zH f;have I:=zH g;clear a b f g B C r s;go_enter Tryz.func116,Tryz.ntmps116;go_upto_region 1 with(fail)
 refine zE ?_;intro W0 Q;obtain⟨i,L,M,o,a6⟩:=zBB Q;have c1:=L.two;have d1:=M.two;have r1:=o.two;have x:=Y.ext (lx (nx i (dr W0)));have y:=Z.ext (lx (nx i (dr W0)));go_region_held3 (fun w'=>w'.cell? ⟨w.heap.size,0,none⟩=some (.bool z)/\w'.cell? ⟨w.heap.size,1,none⟩=some (.slice c n1 p)/\w'.cell? ⟨w.heap.size+1,0,none⟩=some (.bool A)/\w'.cell? ⟨w.heap.size+1,1,none⟩=some (.slice d n2 q))
  ((((try go_split_ands);(repeat' apply And.intro))<;>first|exact zBr (by assumption)|exact qK (by assumption) j|exact qK (by assumption) k|assumption|exact zCf (zCf (by assumption) oM) oM))
  (first
   |(go_at_call_of 110 c;refine(t _ x).mono ?_;rintro e w' ⟨rfl,rfl⟩)
   |(go_at_call_of 110 d;refine(u _ y).mono ?_;rintro e w' ⟨rfl,rfl⟩)
   |(go_at_call 148;refine(zQ4 c d n1 n1 n2 n2 xs ys _ F.out G.out oM oM x y).mono ?_;rintro e w1 ⟨J,a3,N,zs,rfl,f,g,a0,a1,a2,j⟩;have K:=o.drew.I j)
   |(go_at_call 111;refine(zBG (z !=A) J a3 N zs _ f g a0 a1).mono ?_;rintro e w2 ⟨v,rfl,V,k⟩;have h:=K.I k;obtain⟨e1,e2,e3,e4⟩:=h.two;obtain⟨vn,va,vl,vc,vx,rfl,X⟩:=V))
 go_wp2_with fail
 refine yS rfl rfl rfl (h.put2 _ _) ?_ (yM (yM (nx (nx (nx i (dr W0)) j) k) oM 0 _) oM 1 _);refine yA.ext ?_ (h.lext2 dE _ _);rw[H.out,I.out,<-zQp,<-a2];exact⟨vn,va,vl,vc,vx,rfl,X⟩
end Go.Proofs.YtniiekppgdkknaaGreat
