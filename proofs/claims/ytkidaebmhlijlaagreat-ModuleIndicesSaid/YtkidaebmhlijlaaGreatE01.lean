/- Joined. -/
import Derived.Test.YtkidaebmhlijlaaGreatRows
import Derived.WalkKit
import Derived.WalkSpells
import Derived.WalkLawsBesides
import Derived.Lib.Hide
import Derived.Deep.Draws
import Derived.Deep.QuietTactic
import Derived.BigQuiet
import Derived.Laws.ResultCell
import Derived.Deep.RegionHeld3
import Derived.Laws.AppendOwnNone
import Derived.Deep.DeepCutAuto
import Derived.Deep.CutBlock
import Derived.Deep.Cut
set_option linter.unusedVariables false
set_option linter.unusedSimpArgs false
set_option linter.unusedSectionVars false
set_option maxHeartbeats 16000000
set_option maxRecDepth 100000
variable{n1 n2:Bool}{Q:Go.Exit->Go.Act->Go.World->Prop}{a z:Int}{xs ys zs:List Nat}{B b base d i k n o r x y:Nat}{ao:Option Go.Addr}{p:Prop}{T:Go.TypeId}{c0 c1 v:Go.Value}{W w w':Go.World}
namespace Go.Proofs.YtkidaebmhlijlaaGreat
def B32:Nat:=4294967296
theorem zB5:B32=4294967296:=rfl
theorem zCU:0<B32:=by decide
def nat:List Nat->Nat
 | []=>0
 |x::xs=>x+B32*nat xs
@[simp] theorem nat_nil:nat []=0:=rfl
theorem zBp(x:Nat)(xs:List Nat):nat (x::xs)=x+B32*nat xs:=rfl
theorem zFM(xs ys:List Nat):nat (xs++ys)=nat xs+B32^xs.length*nat ys:=by
 induction xs with
 |nil=>simp
 |cons x xs a=>
  simp only[List.cons_append,zBp,a,List.length_cons,Nat.pow_succ,Nat.mul_add];rw[Nat.add_assoc,<-Nat.mul_assoc,Nat.mul_comm B32 (B32^xs.length)]
theorem zEY(xs:List Nat)(y:Nat):nat (xs++ [y])=nat xs+B32^xs.length*y:=by
 rw[zFM];simp[zBp]
def zA3(xs:List Nat):Prop:=∀x∈xs,x<B32
theorem zA3.cons(h:zA3 (x::xs)):x<B32/\zA3 xs:=
 ⟨h x (by simp),fun y a=>h y (by simp[a])⟩
theorem zA3.nil:zA3 []:=by intro x a;cases a
theorem zA3.take(h:zA3 xs)(k:Nat):zA3 (xs.take k):=fun x a=>h x (List.mem_of_mem_take a)
theorem zA3.append(h:zA3 xs)(k:zA3 ys):zA3 (xs++ys):=fun x a=>by
 rcases List.mem_append.1 a with h1|h1
 exact h x h1;exact k x h1
theorem zA3.get(h:zA3 xs)(k:Nat):xs.getD k 0<B32:=by
 rw[List.getD_eq_getElem?_getD];rcases Nat.lt_or_ge k xs.length with hk|hk
 rw[List.getElem?_eq_getElem hk];exact h _ (List.getElem_mem hk);rw[List.getElem?_eq_none hk];exact zCU
theorem zDO(h:zA3 xs):nat xs<B32^xs.length:=by
 induction xs with
 |nil=>simp
 |cons x xs c=>
  obtain⟨d,b⟩:=h.cons;have:=c b;simp only[zBp,List.length_cons,Nat.pow_succ];have a:B32*(nat xs+1)<=B32*B32^xs.length:=Nat.mul_le_mul_left _ this;rw[Nat.mul_add]at a;rw[Nat.mul_comm (B32^xs.length)];omega
def zA1(xs:List Nat):Prop:=∀n,xs.length=n+1->xs.getD n 0≠0
theorem zA1.nil:zA1 []:=by intro n h;simp at h
theorem zA1.tail(h:zA1 (x::xs)):zA1 xs:=by
 intro n a;have:=h (n+1) (by simp[a]);simpa using this
theorem zIp(h:zA1 xs)(a:xs.length=n+1):B32^n<=nat xs:=by
 induction xs generalizing n with
 |nil=>simp at a
 | cons x xs c=>
  simp at a;rw[zBp];cases n with
  |zero=>
   have b:=h 0 (by simp[a]);have:xs= []:=List.eq_nil_of_length_eq_zero a;subst this;simp at b ⊢
   omega
  |succ n=>
   have:=c h.tail (n:=n) (by omega);have d:=Nat.mul_le_mul_left B32 this;rw[Nat.pow_succ,Nat.mul_comm];omega
theorem zMa(h:zA1 xs)(b:xs≠ []):0<nat xs:=by
 cases a:xs.length with
 |zero=>exact absurd (List.eq_nil_of_length_eq_zero a) b
 |succ n=>exact Nat.lt_of_lt_of_le (Nat.pow_pos zCU) (zIp h a)
theorem zHK(h:zA1 xs):nat xs=0↔xs= []:=by
 constructor
 .intro b
  by_cases a:xs= []
  .exact a
  have:=zMa h a;omega
 rintro rfl;rfl
theorem zEb{a:Nat}(h:a<=b):B32^a<=B32^b:=Nat.pow_le_pow_right zCU h
theorem zDg(c:zA3 xs)(b:zA1 ys)(h:nat ys<=nat xs):ys.length<=xs.length:=by
 rcases Nat.lt_or_ge xs.length ys.length with i|a
 .cases d:ys.length with
  |zero=>omega
  |succ n=>
   have e:=zIp b d;have f:=zDO c;have g:=zEb (show xs.length<=n by omega);omega
 exact a
theorem zE9(xs:List Nat)(n:Nat)(h:n<xs.length):xs.take (n+1)=xs.take n++ [xs.getD n 0]:=by
 rw[List.take_succ_eq_append_getElem h];simp[List.getD_eq_getElem?_getD,List.getElem?_eq_getElem h]
theorem yR(xs:List Nat)(k:Nat):nat (xs.take (k+1))=nat (xs.take k)+xs.getD k 0*B32^k:=by
 rcases Nat.lt_or_ge k xs.length with h|h
 rw[zE9 xs k h,zEY,List.length_take,Nat.min_eq_left (by omega),Nat.mul_comm];rw[List.take_of_length_le (by omega),List.take_of_length_le h,List.getD_eq_getElem?_getD,List.getElem?_eq_none h];simp
theorem zCG(zs:List Nat)(k v:Nat)(h:k<zs.length):nat ((zs.set k v).take (k+1))=nat (zs.take k)+v*B32^k:=by
 rw[yR,List.take_set_of_le (by omega),List.getD_eq_getElem?_getD,List.getElem?_set_self h];rfl
theorem zA3.set(h:zA3 zs)(k v:Nat)(hv:v<B32):zA3 (zs.set k v):=fun x a=>by
 rcases List.mem_or_eq_of_mem_set a with h1|h1
 exact h x h1;subst h1;exact hv
theorem qY(xs:List Nat)(h:xs.length<=n):nat (xs.take n)=nat xs:=by rw[List.take_of_length_le h]
theorem zGF{x y:Nat}(h:nat (zs.take k)+d*B32^k=nat (xs.take k)+nat (ys.take k))(g:k<zs.length)
  (i:xs.getD k 0=x) (j:ys.getD k 0=y):
  nat ((zs.set k ((d+x+y)%4294967296)).take (k+1))+(d+x+y)/4294967296*B32^(k+1)=nat (xs.take (k+1))+nat (ys.take (k+1)):=by
 rw[zCG _ _ _ g,yR,yR,i,j,Nat.pow_succ,zB5];rw[zB5]at h;generalize 4294967296^k=p at*;generalize nat (List.take k zs)=a at*;generalize nat (List.take k xs)=b at*;generalize nat (List.take k ys)=c at*;have e:=Nat.div_add_mod (d+x+y) 4294967296;generalize (d+x+y)/4294967296=q at*;generalize (d+x+y)%4294967296=r at*;have f:r*p+q*(p*4294967296)=(d+x+y)*p:=by rw[<-e,Nat.add_mul,Nat.mul_comm 4294967296 q,Nat.mul_assoc,Nat.mul_comm 4294967296 p,Nat.add_comm]
 rw[Nat.add_mul,Nat.add_mul]at f;omega
def zBM(xs:List Nat):Nat->Nat
 |0=>0
 |n+1=>if xs.getD n 0=0 then zBM xs n else n+1
theorem zEq(xs:List Nat):∀n,zBM xs n<=n
 |0=>Nat.le_refl _
 |n+1=>by
  unfold zBM;split;have:=zEq xs n;omega;omega
theorem zLs(xs:List Nat):∀n,n<=xs.length->nat (xs.take (zBM xs n))=nat (xs.take n)
 |0,_=>rfl
 | n+1,h=>by
  unfold zBM;split
  .rename_i a
   rw[zLs xs n (by omega),zE9 xs n (by omega),zEY,a];simp
  rfl
theorem zDy(xs:List Nat):∀n,n<=xs.length->zA1 (xs.take (zBM xs n))
 |0,_=>by simpa[zBM]using zA1.nil
 |n+1,h=>by
  unfold zBM;split;exact zDy xs n (by omega);rename_i a;intro k b;rw[List.length_take,Nat.min_eq_left h]at b;have:k=n:=by omega
  subst this;rw[List.getD_eq_getElem?_getD,List.getElem?_take,if_pos (by omega),<-List.getD_eq_getElem?_getD];exact a
def zEr(xs:List Nat):List Nat:=xs.take (zBM xs xs.length)
theorem zKv(xs:List Nat):(zEr xs).length=zBM xs xs.length:=by
 unfold zEr;rw[List.length_take,Nat.min_eq_left (zEq _ _)]
theorem zEA(xs:List Nat):nat (zEr xs)=nat xs:=by
 unfold zEr;rw[zLs xs _ (Nat.le_refl _),List.take_of_length_le (Nat.le_refl _)]
theorem zFA(xs:List Nat):zA1 (zEr xs):=zDy xs _ (Nat.le_refl _)
theorem zBB(h:zA1 xs):zBM xs xs.length=xs.length:=by
 cases a:xs.length with
 |zero=>rfl
 |succ n=>unfold zBM;rw[if_neg (h n a)]
theorem zHu(xs:List Nat)(k:Nat)(h:k<xs.length):nat xs=nat (xs.take k)+B32^k*(xs.getD k 0+B32*nat (xs.drop (k+1))):=by
 have e:xs=xs.take k++xs.getD k 0::xs.drop (k+1):=by
  rw[List.getD_eq_getElem?_getD,List.getElem?_eq_getElem h];simp
 have a:(xs.take k).length=k:=by rw[List.length_take,Nat.min_eq_left (by omega)]
 have:=congrArg nat e;rw[zFM,a,zBp]at this;exact this
theorem zP2{x y:Nat}(f:zA3 xs)(d:k<xs.length)(e:k<ys.length)(hd:xs.drop (k+1)=ys.drop (k+1))
  (ex:xs.getD k 0=x) (a:ys.getD k 0=y) (h:x<y):nat xs<nat ys:=by
 rw[zHu xs k d,zHu ys k e,hd,ex,a];have b:=zDO (f.take k);rw[List.length_take,Nat.min_eq_left (by omega)]at b;have c:B32^k*(x+B32*nat (List.drop (k+1) ys)+1)<=B32^k*(y+B32*nat (List.drop (k+1) ys)):=Nat.mul_le_mul_left _ (by omega);rw[Nat.mul_add _ _ 1]at c;omega
theorem zL4(b:zA3 xs)(c:zA1 ys)(h:xs.length<ys.length):nat xs<nat ys:=by
 cases a:ys.length with
 |zero=>omega
 |succ n=>
  have d:=zIp c a;have e:=zDO b;have f:=zEb (show xs.length<=n by omega);omega
def zAv(a b:Int):Int:=if a<b then-1 else if b<a then 1 else 0
def sgn(neg:Bool)(n:Nat):Int:=if neg then-(n:Int)else(n:Int)
@[simp] theorem sgn_true (n:Nat):sgn true n=-(n:Int):=rfl
@[simp] theorem sgn_false (n:Nat):sgn false n=(n:Int):=rfl
theorem zJN(b:Bool):sgn b 0=0:=by cases b<;>rfl
theorem zAF(b:Bool)(n:Nat):(sgn b n).natAbs=n:=by cases b<;>simp[sgn]
abbrev LL:=List (List Int)
abbrev qE:=@Nat.pow_succ
abbrev zAH:=@Nat.mul_add
abbrev zER:=@Nat.add_assoc
abbrev zE:=@Nat.mul_assoc
abbrev zN:=@Nat.mul_comm
abbrev zCj:=@List.mem_of_mem_take
abbrev zK:=@Nat.lt_or_ge
abbrev zAq:=@List.getElem_mem
abbrev zG:=@Nat.mul_le_mul_left
abbrev qL:=@List.eq_nil_of_length_eq_zero
abbrev zM:=@Nat.lt_of_lt_of_le
abbrev qG:=@Nat.pow_pos
abbrev zX:=@Nat.pow_le_pow_right
abbrev qR:=@List.length_take
abbrev zA6:=@Nat.min_eq_left
abbrev jM:=@List.take_of_length_le
abbrev zAI:=@Nat.div_add_mod
abbrev zW:=@Nat.add_mul
abbrev zDn:=@Nat.add_comm
abbrev yJ:=@Int.natCast_mul
abbrev zBr:=@Int.toNat_natCast
abbrev zCd:=@Array.ext
abbrev zCO:=@Go.Proofs.Tryz.underlying41
abbrev zI:=@Nat.lt_of_le_of_lt
abbrev jU:=@Go.World.block_lt_of_cell?
abbrev zC:=@Go.RowKit.Below.refl
abbrev yX:=@Go.RowKit.Below.heap_setCell
abbrev zCP:=@Go.Proofs.Tryz.underlying43
abbrev zJ:=@Go.Lib.hid
abbrev yQ:=@Nat.mod_lt
abbrev qP:=@List.drop_eq_nil_of_le
abbrev yC:=@Go.IntWalk.i64_in
abbrev yS:=@Nat.lt_trichotomy
abbrev jA:=@Go.Calls.quiet_of_same
abbrev zAS:=@Go.World.drewN_drewN
abbrev jV:=@List.drop_eq_getElem_cons
abbrev zAb:=@Nat.lt_or_gt_of_ne
abbrev zAp:=@Go.IntKind.wrap_u64
abbrev zBD:=@Go.IntKind.wrap_u32
abbrev yM:=@Nat.pow_add
abbrev zDE:=@Nat.mul_left_comm
abbrev qO:=@Nat.mul_le_mul
abbrev zBZ:=@Int.eq_ofNat_of_zero_le
abbrev zC5:=@Go.Sem.run_bind
abbrev zAg:=@Go.Addr.add_lit
abbrev zY:=@Int.natAbs_neg
abbrev yE:=@Int.neg_mul
abbrev zEC:=@Int.mul_neg
abbrev zAt:=@Int.lt_trichotomy
abbrev yK:=@Int.zero_mul
abbrev zAG:=@Int.one_mul
abbrev zBn:=@Nat.div_lt_iff_lt_mul
abbrev zP:=@Nat.mul_le_mul_right
abbrev zDY:=@Go.Proofs.Tryz.underlying3
abbrev zDZ:=@Go.Proofs.Tryz.underlying5
abbrev zCl:=@Nat.mul_lt_mul_right
abbrev zBI:=@List.set_append_right
abbrev zAL:=@Nat.sub_self
abbrev zAo:=@Nat.add_sub_cancel_left
abbrev zDX:=@Nat.le_add_right
abbrev zAi:=@Nat.le_of_lt
abbrev zD:=@Nat.le_trans
abbrev zAK:=@Nat.add_zero
abbrev zAR:=@Nat.one_mul
abbrev qV:=@Nat.eq_zero_or_pos
abbrev qQ:=@Nat.le_mul_of_pos_left
abbrev zAX:=@Int.natCast_add
abbrev zBT:=@Nat.le_of_eq
abbrev zA8:=@Nat.zero_mul
abbrev zAY:=@List.length_append
abbrev zBe:=@List.length_drop
abbrev zAf:=@List.take_append_of_le_length
abbrev zCZ:=@Nat.mul_zero
abbrev zBS:=@List.append_nil
abbrev zAu:=@List.append_assoc
abbrev zD2:=@List.take_take
abbrev zO:=@Nat.le_mul_of_pos_right
abbrev zBm:=@Nat.div_le_self
abbrev zAr:=@Int.tmod_eq_emod_of_nonneg
abbrev zAM:=@Nat.zero_add
abbrev zB1:=@Nat.pow_zero
abbrev jS:=@Nat.mul_one
abbrev jW:=@List.take_zero
abbrev zZ:=@Int.mul_comm
abbrev zBx:=@Int.add_mul
abbrev zCD:=@List.nil_append
abbrev zA9:=@Array.toList_setIfInBounds
abbrev qD:=@Option.some.inj
abbrev zBC:=@Array.any_toList
abbrev zAz:=@List.any_eq_true
abbrev zDU:=@Bool.and_eq_true
abbrev zCi:=@List.count_replicate
abbrev qX:=@List.ext_getElem
abbrev zR:=@Classical.byContradiction
abbrev zBh:=@Array.ext_getElem?
abbrev qT:=@List.mem_cons_of_mem
abbrev zH:=@Nat.zero_le
abbrev zAB:=@List.all_eq_true
abbrev jG:=@List.nodup_append
abbrev zAZ:=@List.mem_append_left
abbrev zBH:=@List.mem_append_right
abbrev qF:=@Ne.symm
abbrev zCV:=@Bool.not_not
abbrev zED:=@Int.sub_mul
abbrev zDK:=@Int.mul_add
abbrev qA:=@Int.mul_assoc
abbrev yT:=@Int.natAbs_natCast
abbrev qU:=@Int.natAbs_mul
abbrev zAk:=@Int.emod_nonneg
abbrev jH:=@List.take_add_one
abbrev jO:=@List.take_length
abbrev zCR:=@Go.World.ownsRow_nil
abbrev zCQ:=@Go.Proofs.Tryz.underlying46
abbrev zCy:=@List.range_succ
abbrev zBl:=@List.map_append
abbrev qZ:=@List.getElem_of_mem
abbrev zDF:=@Go.Proofs.Tryz.underlying32
abbrev zA5:=@Go.Proofs.Tryz.underlying30
abbrev zA7:=@List.map_congr_left
abbrev zBG:=@List.getElem_set_self
abbrev zBb:=@List.getElem_set_ne
abbrev jN:=@List.getElem_inj
abbrev zAl:=@Int.mul_one
abbrev qB:=@Int.mul_zero
abbrev zAJ:=@Int.add_zero
abbrev zBK:=@Go.Proofs.Tryz.underlying210
abbrev yF:=@Iff.rfl
abbrev zA0:=@Nat.lt_succ_self
abbrev zAW:=@Option.bind_eq_some_iff
abbrev jF:=@Int.mul_left_comm
abbrev zAy:=@Int.zero_add
abbrev zEQ:=@Int.dvd_trans
abbrev zCW:=@Int.dvd_zero
abbrev zAh:=@Int.dvd_refl
abbrev qM:=@Nat.mul_pos
abbrev zAa:=@List.mem_cons_self
abbrev zDm:=@Int.neg_one_mul
abbrev zDa:=@Go.World.ownsRow.lt
abbrev zCJ:=@Int.neg_neg
abbrev zCA:=@Nat.le_of_dvd
abbrev zBJ:=@Go.Proofs.Tryz.underlying193
abbrev zBN:=@Int.natAbs_ediv_le_natAbs
abbrev zBd:=@Int.gcd_dvd_left
abbrev zCv:=@List.take_succ_cons
abbrev zBi:=@Go.Proofs.Tryz.underlying163
abbrev zDA:=@List.take_left
abbrev zDD:=@List.getElem_take
abbrev zAV:=@Nat.exists_eq_add_of_le
abbrev zAP:=@Int.mul_ediv_add_emod
abbrev zAx:=@Int.emod_lt_of_pos
abbrev zCC:=@Int.ediv_nonneg
abbrev zBU:=@Nat.le_self_pow
abbrev zCX:=@Int.le_total
abbrev zDW:=@Int.ediv_le_self
abbrev zBE:=@Int.ediv_nonpos_of_nonpos_of_neg
abbrev zCI:=@Int.le_ediv_iff_mul_le
abbrev zBY:=@Int.mul_le_mul_of_nonpos_left
abbrev jT:=@Nat.pow_mul
abbrev yU:=@Nat.pow_le_pow_left
abbrev zBQ:=@Int.le_of_lt
abbrev zAN:=@Option.bind_some
abbrev zD3:=@Nat.add_le_add
abbrev zDo:=@Nat.min_le_left
abbrev zB2:=@Int.gcd_eq_zero_iff
abbrev zCN:=@Int.gcd_dvd_right
abbrev zAd:=@Int.eq_of_mul_eq_mul_left
abbrev zAC:=@Nat.le_of_not_lt
abbrev yP:=@List.mem_range
abbrev zAn:=@Array.getD_eq_getD_getElem?
abbrev zCk:=@Nat.lt_of_not_le
abbrev zCY:=@List.length_filter_le
abbrev zDV:=@Int.dvd_antisymm
abbrev yY:=@Int.mul_le_mul_of_nonneg_right
abbrev zAe:=@Int.mul_le_mul_of_nonneg_left
abbrev zDR:=@Int.le_of_dvd
abbrev zC4:=@Int.lt_or_le
abbrev zA4:=@Int.mul_nonpos_of_nonneg_of_nonpos
abbrev zEB:=@Int.le_refl
abbrev zCx:=@Int.natCast_pow
abbrev zBR:=@Int.mul_ediv_cancel_left
abbrev zCz:=@Nat.le_antisymm
abbrev zA:=@if_neg
abbrev zB:=@if_pos
abbrev zQ:=@decide_eq_true
abbrev zT:=@decide_eq_false
abbrev yW:=@of_decide_eq_true
abbrev xga:=@List.getElem?_eq_getElem
abbrev xgb:=@List.getD_eq_getElem?_getD
abbrev xgc:=@Array.getElem?_setIfInBounds_ne
abbrev xgd:=@List.mem_of_getElem?
abbrev xge:=@List.getElem?_eq_some_iff
abbrev xgf:=@Nat.le_refl
abbrev xgg:=@exists_eq_left
abbrev xgh:=@List.setIfInBounds_toArray
abbrev xgi:=@List.set_cons_zero
abbrev xgj:=@List.set_cons_succ
abbrev xgk:=@List.drop_zero
abbrev xgl:=@List.drop_succ_cons
abbrev xgm:=@List.forall_mem_cons
abbrev xgn:=@List.forall_mem_nil
theorem mm0{a:Type _}{x:a}{l:List a}:x∈x::l:=.head _
theorem mm1{a:Type _}{b x:a}{l:List a}:x∈b::x::l:=.tail _ mm0
abbrev mm2:=fun{α:Type}{a b x:α}{l:List α}=>List.Mem.tail a (@mm1 α b x l)
abbrev mm3:=fun{α:Type}{a b c x:α}{l:List α}=>List.Mem.tail a (@mm2 α b c x l)
abbrev mm4:=fun{α:Type}{a b c d x:α}{l:List α}=>List.Mem.tail a (@mm3 α b c d x l)
abbrev mm5:=fun{α:Type}{a b c d e x:α}{l:List α}=>List.Mem.tail a (@mm4 α b c d e x l)
abbrev mm6:=fun{α:Type}{a b c d e f x:α}{l:List α}=>List.Mem.tail a (@mm5 α b c d e f x l)
abbrev mm7:=fun{α:Type}{a b c d e f g x:α}{l:List α}=>List.Mem.tail a (@mm6 α b c d e f g x l)
abbrev mm8:=fun{α:Type}{a b c d e f g h x:α}{l:List α}=>List.Mem.tail a (@mm7 α b c d e f g h x l)
abbrev mm9:=fun{α:Type}{a b c d e f g h i x:α}{l:List α}=>List.Mem.tail a (@mm8 α b c d e f g h i x l)
abbrev zMT:=fun{α:Type}{a b c d e f g h i j x:α}{l:List α}=>List.Mem.tail a (@mm9 α b c d e f g h i j x l)
abbrev zLW:=fun{α:Type}{a b c d e f g h i j k x:α}{l:List α}=>List.Mem.tail a (@zMT α b c d e f g h i j k x l)
abbrev zMt:=fun{α:Type}{a b c d e f g h i j k L x:α}{l:List α}=>List.Mem.tail a (@zLW α b c d e f g h i j k L x l)
abbrev zPC:=fun{α:Type}{a b c d e f g h i j k L m x:α}{l:List α}=>List.Mem.tail a (@zMt α b c d e f g h i j k L m x l)
abbrev zPD:=fun{α:Type}{a b c d e f g h i j k L m n x:α}{l:List α}=>List.Mem.tail a (@zPC α b c d e f g h i j k L m n x l)
abbrev zOO:=fun{α:Type}{a b c d e f g h i j k L m n o x:α}{l:List α}=>List.Mem.tail a (@zPD α b c d e f g h i j k L m n o x l)
abbrev zRd:=fun{α:Type}{a b c d e f g h i j k L m n o p x:α}{l:List α}=>List.Mem.tail a (@zOO α b c d e f g h i j k L m n o p x l)
abbrev zRe:=fun{α:Type}{a b c d e f g h i j k L m n o p q x:α}{l:List α}=>List.Mem.tail a (@zRd α b c d e f g h i j k L m n o p q x l)
abbrev zRf:=fun{α:Type}{a b c d e f g h i j k L m n o p q r x:α}{l:List α}=>List.Mem.tail a (@zRe α b c d e f g h i j k L m n o p q r x l)
abbrev zRg:=fun{α:Type}{a b c d e f g h i j k L m n o p q r s x:α}{l:List α}=>List.Mem.tail a (@zRf α b c d e f g h i j k L m n o p q r s x l)
abbrev zRh:=fun{α:Type}{a b c d e f g h i j k L m n o p q r s t x:α}{l:List α}=>List.Mem.tail a (@zRg α b c d e f g h i j k L m n o p q r s t x l)
abbrev zRi:=fun{α:Type}{a b c d e f g h i j k L m n o p q r s t u x:α}{l:List α}=>List.Mem.tail a (@zRh α b c d e f g h i j k L m n o p q r s t u x l)
abbrev zRj:=fun{α:Type}{a b c d e f g h i j k L m n o p q r s t u v x:α}{l:List α}=>List.Mem.tail a (@zRi α b c d e f g h i j k L m n o p q r s t u v x l)
abbrev zRk:=fun{α:Type}{a b c d e f g h i j k L m n o p q r s t u v w x:α}{l:List α}=>List.Mem.tail a (@zRj α b c d e f g h i j k L m n o p q r s t u v w x l)
abbrev zRl:=fun{α:Type}{a b c d e f g h i j k L m n o p q r s t u v w X x:α}{l:List α}=>List.Mem.tail a (@zRk α b c d e f g h i j k L m n o p q r s t u v w X x l)
abbrev zSZ:=fun{α:Type}{a b c d e f g h i j k L m n o p q r s t u v w X y x:α}{l:List α}=>List.Mem.tail a (@zRl α b c d e f g h i j k L m n o p q r s t u v w X y x l)
open Go.RowKit
abbrev CPq:=Calls Tryz.prog
abbrev BWq(w w':World):Prop:=Below w.heap.size w w'
abbrev slq(b n k:Nat):Value:=.slice (some ⟨b,0,none⟩) n k
abbrev ptq(b o:Nat):Value:=.pointer (some ⟨b,o,none⟩)
abbrev niq(z:Int):Value:=.int .i64 z
theorem meq(h:p:=by simp[intOf];omega):p:=h
theorem oM(h:p:=by omega):p:=h
theorem sI(h:p:=by simp):p:=h
theorem kR(h:p:=by kernel_rfl):p:=h
theorem dE(h:p:=by decide):p:=h
theorem aU(h:p:=by repeat' (first|refine xgm.2 ⟨?_,?_⟩|exact xgn _|(dsimp only;omega))):p:=h
abbrev tU:TypeId:=113
def LIM:Nat:=1099511627776
theorem zBf:LIM=1099511627776:=rfl
def zBq(w w':World):Prop:=∀(b:Nat) (cs:Array Value) (fz:Nat × Nat),w.heap[b]?=some (.cells cs tU fz)->w'.heap[b]?=some (.cells cs tU fz)
theorem zBq.refl(w:World):zBq w w:=fun _ _ _ h=>h
theorem zBq.trans{a b c:World}(h:zBq a b)(k:zBq b c):zBq a c:=fun _ _ _ d=>k _ _ _ (h _ _ _ d)
theorem zBq.I(h:Below B w w')(e:w.heap.size<=B):zBq w w':=fun b c d a=>by
 have f:b<w.heap.size:=by
  rcases zK b w.heap.size with h1|h1
  exact h1;rw[Array.getElem?_eq_none h1]at a;cases a
 rw[h.block b (by omega)];exact a
def qW(w:World)(ao:Option Addr)(xs:List Nat):Prop:=
 zA3 xs/\(xs≠ []->∃b off cs fz,ao=some ⟨b,off,none⟩/\w.heap[b]?=some (.cells cs tU fz)/\∀k x,xs[k]?=some x->cs[off+k]?=some (.int .u32 (x:Nat)))
theorem qW.nil(w:World)(a:Option Addr):qW w a []:=⟨zA3.nil,fun h=>absurd rfl h⟩
theorem qW.ext(h:qW w ao xs)(e:zBq w w'):qW w' ao xs:=
 ⟨h.1,fun i=>by
  obtain⟨b,j,a,c,d,f,g⟩:=h.2 i;exact⟨b,j,a,c,d,e _ _ _ f,g⟩⟩
theorem qW.cell(h:qW w ao xs)(c:k<xs.length):
  ∃b off,ao=some ⟨b,off,none⟩/\b<w.heap.size/\w.cell? ⟨b,off+k,none⟩=some (.int .u32 (xs.getD k 0:Nat)):=by
 obtain⟨b,off,d,e,f,a,g⟩:=h.2 (by rintro rfl;simp at c);refine⟨b,off,f,?_,?_⟩;exact(Array.getElem?_eq_some_iff.1 a).1;rw[cell_of_row w b (off+k) d tU e a,g k (xs.getD k 0) (by simp[xgb,xga c])]
theorem qW.limb(h:qW w ao xs)(e:k<xs.length):
  ∃b off x,ao=some ⟨b,off,none⟩/\b<w.heap.size/\x<4294967296/\Hid (xs.getD k 0=x)/\w.cell? ⟨b,off+k,none⟩=some (.int .u32 (x:Nat)):=by
 obtain⟨b,off,a,c,d⟩:=h.cell e;exact⟨b,off,_,a,c,h.1.get k,rfl,d⟩
theorem qW.cells(h:qW w ao xs)(c:0<xs.length):
  ∃b off,ao=some ⟨b,off,none⟩/\b<w.heap.size/\∀k,k<xs.length->w.cell? ⟨b,off+k,none⟩=some (.int .u32 (xs.getD k 0:Nat)):=by
 obtain⟨b,off,d,i,l⟩:=h.cell c;refine⟨b,off,d,i,fun k c=>?_⟩;obtain⟨j,m,a,_,g⟩:=h.cell c;rw[d]at a;injection a with a
 injection a with e f
 subst e;subst f;exact g
theorem qW.take(h:qW w ao xs)(n:Nat):qW w ao (xs.take n):=
 ⟨h.1.take n,fun i=>by
  obtain⟨b,j,c,d,e,f,g⟩:=h.2 (by rintro rfl;simp at i);refine⟨b,j,c,d,e,f,fun k x a=>g k x ?_⟩;rw[List.getElem?_take]at a;split at a;exact a;cases a⟩
def zCF(xs:List Nat):Array Value:=(xs.map fun n=>Value.int .u32 (n:Nat)).toArray
def zC1(w:World)(b:Nat)(xs:List Nat):Prop:=w.heap[b]?=some (.cells (zCF xs) tU (0,0))
theorem zC1.lt(h:zC1 w b xs):b<w.heap.size:=(Array.getElem?_eq_some_iff.1 h).1
theorem zC1.cell(h:zC1 w b xs)(a:k<xs.length):w.cell? ⟨b,k,none⟩=some (.int .u32 (xs.getD k 0:Nat)):=by
 rw[cell_of_row w b k _ tU _ h];simp[zCF,xga a,xgb]
theorem zC1.frozen(h:zC1 w b xs)(k:Nat):w.frozen? ⟨b,k,none⟩=false:=frozen_of_row w b k _ _ h
theorem zC1.set(h:zC1 w b xs)(k n:Nat):zC1 (w.setCell ⟨b,k,none⟩ (.int .u32 (n:Nat))) b (xs.set k n):=by
 unfold zC1 at h ⊢
 rw[heap_setCell_same w b k _ tU _ h];simp[zCF,List.map_set]
theorem zC1.set'(h:zC1 w b xs)(k:Nat)(m:Int)(n:Nat)(a:m=n):zC1 (w.setCell ⟨b,k,none⟩ (.int .u32 m)) b (xs.set k n):=by
 subst a;exact h.set k n
theorem zC1.ext(h:zC1 w b xs)(e:zBq w w'):zC1 w' b xs:=e _ _ _ h
theorem zC1.alloc(h:zC1 w b xs)(o:Obj):zC1 (w.alloc o) b xs:=(heap_alloc_old w o h.lt).trans h
theorem zC1.at_(h:zC1 w b xs)(c:zA3 xs):qW w (some ⟨b,0,none⟩) xs:=
 ⟨c,fun _=>⟨b,0,_,_,rfl,h,fun k x a=>by simp[zCF,a]⟩⟩
theorem Tryz.infoU:(Tryz.prog.info? tU).map (fun i=>(i.zero,i.size,i.bytes))=some (some (.int .u32 0),1,4):=by kernel_rfl
theorem zCn{P:Program}(t e:TypeId)(i:TypeInfo)(z:Value)(j:P.underlying t=some (.slice e))(g:P.info? e=some i)(k:i.zero=some z)
  (d b:IntKind) (n c:Nat) (o:n<=c) (m:i.bytes*c<=281474976710656) (l:c<=9223372036854775807) (w:World):
  (Instr.makeSlice t (.int d (n:Int)) (.int b (c:Int))).run P w= .ok (.slice (some ⟨w.heap.size,0,none⟩) n c) (w.alloc (.cells (madeCells z.cells (c*i.size)) e)):=by
 have f:(i.bytes:Int)*(c:Int)<=281474976710656:=by
  have h:((i.bytes*c:Nat):Int)<=281474976710656:=by omega
  rwa[yJ]at h
 have a:=run_make (P:=P) w t e i z j g k d b n c (by omega) (by omega) f (by omega);simp only[Int.toNat_natCast]at a;exact a
theorem qAk(n:Nat):madeCells (Value.int .u32 0).cells (n*1)=zCF (List.replicate n 0):=by
 apply zCd;simp[madeCells,zCF];intro i a b;simp[madeCells,zCF,Nat.mod_one,Value.cells]
theorem mkU(m:Int)(n:Nat)(b:m=n)(h:n<=70368744177664)(W:World):
  (Instr.makeSlice 41 (.int .i64 m) (.int .i64 m)).run Tryz.prog W= .ok (.slice (some ⟨W.heap.size,0,none⟩) n n) (W.alloc (.cells (zCF (List.replicate n 0)) tU)):=by
 subst b;obtain⟨f,a,c,d,e⟩:=info_parts Tryz.infoU;have:=zCn (P:=Tryz.prog) 41 tU f _ zCO a c .i64 .i64 n n (xgf _) (by rw[e];omega) (by omega) W;rw[this,d,qAk]
theorem zC1.made(w:World)(xs:List Nat):zC1 (w.alloc (.cells (zCF xs) tU)) w.heap.size xs:=heap_alloc_new w _
def zIh(w:World)(v:Value)(z:Int):Prop:=
 ∃neg ao n cap xs,v= .agg #[.bool neg,.slice ao n cap]/\xs.length=n/\n<=cap/\cap<=9223372036854775807/\qW w ao xs/\zA1 xs/\z=sgn neg (nat xs)
def jE(w:World)(v:Value)(z:Int):Prop:=
 ∃neg ao n cap xs,v= .agg #[.bool neg,.slice ao n cap]/\xs.length=n/\n<=cap/\cap<=9223372036854775807/\qW w ao xs/\zA1 xs/\z=sgn neg (nat xs)/\(n=0->neg=false)
theorem jE.J(h:jE w v z):zIh w v z:=by
 obtain⟨neg,ao,n,a,xs,b,c,d,e,f,g,i,_⟩:=h;exact⟨neg,ao,n,a,xs,b,c,d,e,f,g,i⟩
theorem zIh.ext(h:zIh w v z)(e:zBq w w'):zIh w' v z:=by
 obtain⟨neg,ao,n,a,xs,b,c,d,f,g,i⟩:=h;exact⟨neg,ao,n,a,xs,b,c,d,f,g.ext e,i⟩
theorem jE.ext(h:jE w v z)(e:zBq w w'):jE w' v z:=by
 obtain⟨neg,ao,n,a,xs,b,c,d,f,g,i⟩:=h;exact⟨neg,ao,n,a,xs,b,c,d,f,g.ext e,i⟩
theorem jE.I(h:jE w v z)(b:Below B w w')(a:w.heap.size<=B):jE w' v z:=h.ext (zBq.I b a)
def Sm(z:Int):Prop:=z.natAbs<B32^LIM
theorem Sm.len{neg:Bool}(h:Sm (sgn neg (nat xs)))(a:zA1 xs):xs.length<=LIM:=by
 unfold Sm at h;rw[zAF]at h;cases b:xs.length with
 |zero=>omega
 |succ n=>
  have c:=zIp a b;rcases zK n LIM with h2|h2
  omega;have:=zEb h2;omega
theorem Sm.of_pow(h:z.natAbs<B32^k)(a:k<=LIM):Sm z:=zM h (zEb a)
theorem Sm.mono{y:Int}(h:Sm z)(a:y.natAbs<=z.natAbs):Sm y:=zI a h
def zDJ(w:World)(z:Int)(e:Ending)(w':World):Prop:=∃v,e= .returned v/\jE w' v z/\Below w.heap.size w w'
def zJB(w:World)(n:Nat)(e:Ending)(w':World):Prop:=
 ∃ao len cap xs,e= .returned (.slice ao len cap)/\xs.length=len/\len<=cap/\cap<=9223372036854775807/\qW w' ao xs/\nat xs=n/\Below w.heap.size w w'
theorem zF{P:Program}{c:Code}{a:Act}(h:∀W0,Hid (W0=w)->Code.wp P c Q a W0):Code.wp P c Q a w:=h w rfl
theorem zBu{a:Addr}(h:w.cell? a=some v):w.drew.cell? a=some v:=h
theorem jP{a:World}(h:w.cell? ⟨b,o,none⟩=some v)(c:Below w.heap.size w a):a.cell? ⟨b,o,none⟩=some v:=
 (c.cell (p:=⟨b,o,none⟩) (jU w _ h)).trans h
theorem zDN{u:Value}(h:w.cell? ⟨b,o,none⟩=some v)(c:b≠r):(w.setCell ⟨r,i,none⟩ u).cell? ⟨b,o,none⟩=some v:=
 (World.cell?_setCell_other w _ _ u (fun e=>c (by injection e with a;exact a.symm))).trans h
theorem nx{a:World}(h:Below w.heap.size w W)(b:Below W.heap.size W a):Below w.heap.size w a:=h.trans (b.mono h.size)
theorem lx(h:Below w.heap.size w W):zBq w W:=zBq.I h (xgf _)
theorem dr(w:World):Below w.heap.size w w.drew:=(zC _ _).drew
theorem drN(w:World)(n:Nat):Below w.heap.size w (w.drewN n):=⟨rfl,rfl,rfl,xgf _,fun _ _=>rfl⟩
def Blk(w:World)(g:Nat)(t:TypeId)(cs:Array Value):Prop:=w.heap[g]?=some (.cells cs t (0,0))
section
variable {w w':World} {g:Nat} {t:TypeId} {cs:Array Value}
theorem Blk.lt(h:Blk w g t cs):g<w.heap.size:=(Array.getElem?_eq_some_iff.1 h).1
theorem Blk.cell(h:Blk w g t cs)(i:Nat):w.cell? ⟨g,i,none⟩=cs[i]?:=cell_of_row w g i cs t (0,0) h
theorem Blk.frozen(h:Blk w g t cs)(i:Nat):w.frozen? ⟨g,i,none⟩=false:=frozen_of_row w g i cs t h
theorem Blk.new(w:World)(t:TypeId)(cs:Array Value):Blk (w.alloc (.cells cs t)) w.heap.size t cs:=heap_alloc_new w _
abbrev yG:=@Blk.new
theorem Blk.drew(h:Blk w g t cs):Blk w.drew g t cs:=h
theorem Blk.drewN(h:Blk w g t cs)(n:Nat):Blk (w.drewN n) g t cs:=h
theorem Blk.alloc(h:Blk w g t cs)(o:Obj):Blk (w.alloc o) g t cs:=(Below.heap_alloc w o g h.lt).trans h
theorem Blk.set_(h:Blk w g t cs)(i:Nat)(u:Value):Blk (w.setCell ⟨g,i,none⟩ u) g t (cs.setIfInBounds i u):=by
 unfold Blk at h ⊢
 simp[World.setCell,Array.getElem?_modify,h]
theorem Blk.far(h:Blk w g t cs)(a:g≠r)(i:Nat)(u:Value):Blk (w.setCell ⟨r,i,none⟩ u) g t cs:=(yX w ⟨r,i,none⟩ u g a).trans h
theorem Blk.I(h:Blk w g t cs)(a:Below w.heap.size w w'):Blk w' g t cs:=(a.block g h.lt).trans h
theorem Blk.belowB(h:Blk w g t cs)(a:Below B w w')(b:g<B):Blk w' g t cs:=(a.block g b).trans h
theorem Blk.at_(e:Hid (w'=w))(h:Blk w g t cs):Blk w' g t cs:=by rw[e.out];exact h
abbrev yI:=@Blk.at_
theorem Blk.lext(h:Blk w g t cs)(e:t≠tU)(i:Nat)(u:Value):zBq w (w.setCell ⟨g,i,none⟩ u):=fun b c j a=>by
 have d:b≠g:=by
  rintro rfl;unfold Blk at h;rw[h]at a;injection a with a
  injection a with _ f
  exact e f
 exact(yX w ⟨g,i,none⟩ u b d).trans a
theorem yB{a:World}(h:Below B a w)(b:B<=g)(i:Nat)(u:Value):Below B a (w.setCell ⟨g,i,none⟩ u):=h.setCell (p:=⟨g,i,none⟩) b u
theorem Blk.two(h:Blk w g t #[c0,c1]):w.cell? ⟨g,0,none⟩=some c0/\w.cell? ⟨g,1,none⟩=some c1/\w.frozen? ⟨g,0,none⟩=false/\w.frozen? ⟨g,1,none⟩=false:=
 ⟨h.cell 0,h.cell 1,h.frozen 0,h.frozen 1⟩
theorem Blk.three{a:Value}(h:Blk w g t #[c0,c1,a]):w.cell? ⟨g,0,none⟩=some c0/\w.cell? ⟨g,1,none⟩=some c1/\w.cell? ⟨g,2,none⟩=some a∧
  w.frozen? ⟨g,0,none⟩=false/\w.frozen? ⟨g,1,none⟩=false/\w.frozen? ⟨g,2,none⟩=false:=
 ⟨h.cell 0,h.cell 1,h.cell 2,h.frozen 0,h.frozen 1,h.frozen 2⟩
end
theorem Blk.put2(h:Blk w r T #[c0,c1])(x y:Value):Blk ((w.setCell ⟨r,0,none⟩ x).setCell ⟨r,1,none⟩ y) r T #[x,y]:=by
 simpa using(h.set_ 0 x).set_ 1 y
theorem Blk.lext2{cs:Array Value}(h:Blk w r T cs)(a:T≠tU)(x y:Value):zBq w ((w.setCell ⟨r,0,none⟩ x).setCell ⟨r,1,none⟩ y):=
 (h.lext a 0 _).trans ((h.set_ 0 _).lext a 1 _)
theorem Tryz.sizeI:(Tryz.prog.info? 43).map (·.size)=some 2:=by kernel_rfl
abbrev zEX:=@Tryz.sizeI
theorem jL{fn:Func}{a:Act}{w W:World}{z:Int}{r:Nat}{v:Array Value}{p:Tmp}(h:fn.results=#[.cell p 43])(hd:a.defers= [])
  (f:a.tmps.getD p undef= .pointer (some ⟨r,0,none⟩)) (e:Blk W r 43 v) (hv:jE W (.agg v) z) (hbel:Below w.heap.size w W):bodyPost Tryz.prog fn (zDJ w z) .ret a W:=by
 obtain⟨neg,ao,n,c,xs,b,d⟩:=hv;injection b with b
 subst b;exact bodyPost_ret (results_cell_row h _ W r _ _ _ _ f e zCP rfl (by rw[zEX];rfl)) hd ⟨_,rfl,⟨neg,ao,n,c,xs,rfl,d⟩,hbel⟩
section
variable {w W0:World} {T1 T2 T3 T4 T5:TypeId} {A B C D E:Array Value}
theorem qJ(h:Hid (W0=w.alloc (.cells A T1))):Below w.heap.size w W0/\Blk W0 w.heap.size T1 A/\w.heap.size<W0.heap.size:=by
 rw[h.out];exact⟨(zC _ _).alloc (xgf _) _,yG _ _ _,by simp⟩
theorem zAU(h:Hid (W0=(w.alloc (.cells A T1)).alloc (.cells B T2))):Below w.heap.size w W0/\Blk W0 w.heap.size T1 A/\Blk W0 (w.heap.size+1) T2 B/\w.heap.size+1<W0.heap.size:=by
 obtain⟨a,b,c⟩:=qJ (w:=w.alloc (.cells A T1)) (W0:=W0) (A:=B) (T1:=T2) h;obtain⟨d,e,f⟩:=qJ (w:=w) (W0:=w.alloc (.cells A T1)) (A:=A) (T1:=T1) rfl;simp only[World.size_alloc]at b c;exact⟨nx d a,e.I a,b,c⟩
theorem zBc(h:Hid (W0=((w.alloc (.cells A T1)).alloc (.cells B T2)).alloc (.cells C T3))):
  Below w.heap.size w W0/\Blk W0 w.heap.size T1 A/\Blk W0 (w.heap.size+1) T2 B/\Blk W0 (w.heap.size+1+1) T3 C/\w.heap.size+1+1<W0.heap.size:=by
 obtain⟨a,b,c⟩:=qJ (w:=(w.alloc (.cells A T1)).alloc (.cells B T2)) (W0:=W0) h;obtain⟨d,e,f,g⟩:=zAU (w:=w) (W0:=(w.alloc (.cells A T1)).alloc (.cells B T2)) rfl;simp only[World.size_alloc]at b c;exact⟨nx d a,e.I a,f.I a,b,c⟩
theorem zLy(h:Hid (W0=(((w.alloc (.cells A T1)).alloc (.cells B T2)).alloc (.cells C T3)).alloc (.cells D T4))):
  Below w.heap.size w W0/\Blk W0 w.heap.size T1 A/\Blk W0 (w.heap.size+1) T2 B/\Blk W0 (w.heap.size+1+1) T3 C/\Blk W0 (w.heap.size+1+1+1) T4 D/\w.heap.size+1+1+1<W0.heap.size:=by
 obtain⟨a,b,c⟩:=qJ (w:=((w.alloc (.cells A T1)).alloc (.cells B T2)).alloc (.cells C T3)) (W0:=W0) h;obtain⟨d,e,f,g,i⟩:=zBc (w:=w) (W0:=((w.alloc (.cells A T1)).alloc (.cells B T2)).alloc (.cells C T3)) rfl;simp only[World.size_alloc]at b c;exact⟨nx d a,e.I a,f.I a,g.I a,b,c⟩
theorem qAB(h:Hid (W0=((((w.alloc (.cells A T1)).alloc (.cells B T2)).alloc (.cells C T3)).alloc (.cells D T4)).alloc (.cells E T5))):
  Below w.heap.size w W0/\Blk W0 w.heap.size T1 A/\Blk W0 (w.heap.size+1) T2 B/\Blk W0 (w.heap.size+1+1) T3 C/\Blk W0 (w.heap.size+1+1+1) T4 D/\Blk W0 (w.heap.size+1+1+1+1) T5 E/\w.heap.size+1+1+1+1<W0.heap.size:=by
 obtain⟨a,b,c⟩:=qJ (w:=(((w.alloc (.cells A T1)).alloc (.cells B T2)).alloc (.cells C T3)).alloc (.cells D T4)) (W0:=W0) h;obtain⟨d,e,f,g,i,j⟩:=zLy (w:=w) (W0:=(((w.alloc (.cells A T1)).alloc (.cells B T2)).alloc (.cells C T3)).alloc (.cells D T4)) rfl;simp only[World.size_alloc]at b c;exact⟨nx d a,e.I a,f.I a,g.I a,i.I a,b,c⟩
end
theorem zDC(d:Option Addr)(n f:Nat)(xs:List Nat)(w:World)(i:xs.length=n)(q:n<=f)(m:f<=9223372036854775807)(j:qW w d xs):
  CPq 120 #[.slice d n f] w fun e w'=>
   e= .returned (.slice d (zBM xs n) (zBM xs n))/\w=w':=by
 have l:=zJ i;have r:=zEq xs n;have s:xs.length<=n:=oM;have t:n<=xs.length:=oM;clear i;go_enter Tryz.func120,Tryz.ntmps120;go_wp2;go_step3;go_wp2;go_step3;go_wp2;go_loop [3] (fun v=>∃k:Nat,k<=n/\v=niq k/\Hid (zBM xs k=zBM xs n)) (fun v=>(intOf v).toNat)
 case atStart=>exact⟨n,xgf _,rfl,rfl⟩
 obtain⟨k,p,rfl,a⟩:=hrel;cases k with
 |zero=>
  have e:zBM xs n=0:=a.out.symm;go_wp2;go_ret;exact⟨by simp[e],rfl⟩
 | succ k=>
  obtain⟨b,z,x,rfl,_,u,h,o⟩:=j.limb (k:=k) oM;by_cases c:x=0
  .have g:Hid (zBM xs k=zBM xs n):=by
    have:=a.out;rw[show zBM xs (k+1)=if xs.getD k 0=0 then zBM xs k else k+1 from rfl,zB (h.out.trans c)]at this;exact this
   subst c;clear a;go_wp2;go_round
   case rel=>exact⟨k,oM,by go_num,g⟩
   case measure=>simp[intOf]
  have g:Hid (zBM xs n=k+1):=by
   have:=a.out;rw[show zBM xs (k+1)=if xs.getD k 0=0 then zBM xs k else k+1 from rfl,zA (by rw[h.out];exact c)]at this;exact this.symm
  have y:((x:Int)==0)=false:=by simpa using c
  clear c a;go_wp2;go_ret;exact⟨by simp[g.out],rfl⟩
theorem zQW(G H:Option Addr)(a s e t:Nat)(xs ys:List Nat)(w:World)(I:xs.length=a)(J:ys.length=e)(a2:a<=s)(a3:e<=t)
  (a0:s<=9223372036854775807) (a1:t<=9223372036854775807) (M:a<=4*LIM) (N:e<=4*LIM) (K:qW w G xs) (L:qW w H ys):
  CPq 180 #[.slice G a s,.slice H e t] w (zJB w (nat xs+nat ys)):=by
 have Y:=zJ I;have Z:=zJ J;have a4:xs.length<=a:=oM;have a5:a<=xs.length:=oM;have a6:ys.length<=e:=oM;have a7:e<=ys.length:=oM;clear I J;rw[zBf]at M N;by_cases a8:a<e
 case pos=>
  have U:a<=e:=oM;have C:=fun W=>mkU ((e:Int)+1) (e+1) oM oM W
  go_enter Tryz.func180,Tryz.ntmps180;go_wp2;clear C;go_loopw [6,21] (fun c i wr=>∃(k d:Nat) (zs:List Nat),k<=e/\i= .int .i64 k/\c= .int .u64 d/\d<=1/\zC1 wr w.heap.size zs/\BWq w wr/\e<zs.length∧
    Hid (zs.length=e+1/\zA3 zs/\nat (zs.take k)+d*B32^k=nat (ys.take k)+nat (xs.take k))) (fun _ i _=>e-(intOf i).toNat)
  case atStart=>exact⟨0,0,List.replicate (e+1) 0,oM,rfl,rfl,oM,zC1.made _ _,(zC _ _).alloc (xgf _) _,by simp,⟨by simp,fun x D=>by rw[List.eq_of_mem_replicate D];exact zCU,by simp⟩⟩
  obtain⟨k,d,zs,R,rfl,rfl,hd,g,h,l,f⟩:=hrel;have Q:=g.frozen k;by_cases T:k<e
  .obtain⟨b,E,x,rfl,z,V,m,n⟩:=L.limb (k:=k) oM
   have O:=(h.cell (p:=⟨b,E+k,none⟩) z).trans n;have B:=g.cell (k:=k) oM;clear n;by_cases S:k<a
   .obtain⟨r,F,y,rfl,A,X,j,o⟩:=K.limb (k:=k) oM
    have P:=(h.cell (p:=⟨r,F+k,none⟩) A).trans o;clear o;go_wp2;go_roundw
    case rel=>exact⟨k+1,(d+x+y)/4294967296,zs.set k ((d+x+y)%4294967296),oM,by go_num,by go_num,oM,g.set' _ _ _ oM,h.setCell (xgf _) _,by simpa using l,
      ⟨by simpa using f.out.1,f.out.2.1.set _ _ (yQ _ oM),zGF f.out.2.2 oM m.out j.out⟩⟩
    case measure=>exact meq
   have j:xs.getD k 0=0:=by rw[xgb,List.getElem?_eq_none oM];rfl
   have q:=zJ j;clear j;go_wp2;go_roundw
   case rel=>exact⟨k+1,(d+x)/4294967296,zs.set k ((d+x)%4294967296),oM,by go_num,by go_num,oM,g.set' _ _ _ oM,h.setCell (xgf _) _,by simpa using l,
     ⟨by simpa using f.out.1,f.out.2.1.set _ _ (yQ _ oM),zGF f.out.2.2 oM m.out q.out⟩⟩
   case measure=>exact meq
  obtain rfl:e=k:=oM;have B:=g.cell (k:=e) oM;go_wp2;go_ret;refine⟨_,_,_,zs.set e d,rfl,by simpa using f.out.1,oM,oM,(g.set' _ _ d oM).at_ (f.out.2.1.set _ _ (by unfold B32;omega)),?_,h.setCell (xgf _) _⟩;have u:=f.out.2.2;have v:=zCG zs e d l;rw[qY _ (by simp[f.out.1]),u,qY ys oM,qY xs oM]at v;omega
 have U:e<=a:=oM;have C:=fun W=>mkU ((a:Int)+1) (a+1) oM oM W
 go_enter Tryz.func180,Tryz.ntmps180;go_wp2;clear C;go_loopw [6,21] (fun c i wr=>∃(k d:Nat) (zs:List Nat),k<=a/\i= .int .i64 k/\c= .int .u64 d/\d<=1/\zC1 wr w.heap.size zs/\BWq w wr/\a<zs.length∧
   Hid (zs.length=a+1/\zA3 zs/\nat (zs.take k)+d*B32^k=nat (xs.take k)+nat (ys.take k))) (fun _ i _=>a-(intOf i).toNat)
 case atStart=>exact⟨0,0,List.replicate (a+1) 0,oM,rfl,rfl,oM,zC1.made _ _,(zC _ _).alloc (xgf _) _,by simp,⟨by simp,fun x D=>by rw[List.eq_of_mem_replicate D];exact zCU,by simp⟩⟩
 obtain⟨k,d,zs,R,rfl,rfl,hd,g,h,l,f⟩:=hrel;have Q:=g.frozen k;by_cases T:k<a
 .obtain⟨b,E,x,rfl,z,V,m,n⟩:=K.limb (k:=k) oM
  have O:=(h.cell (p:=⟨b,E+k,none⟩) z).trans n;have B:=g.cell (k:=k) oM;clear n;by_cases S:k<e
  .obtain⟨r,F,y,rfl,A,X,j,o⟩:=L.limb (k:=k) oM
   have P:=(h.cell (p:=⟨r,F+k,none⟩) A).trans o;clear o;go_wp2;go_roundw
   case rel=>exact⟨k+1,(d+x+y)/4294967296,zs.set k ((d+x+y)%4294967296),oM,by go_num,by go_num,oM,g.set' _ _ _ oM,h.setCell (xgf _) _,by simpa using l,
     ⟨by simpa using f.out.1,f.out.2.1.set _ _ (yQ _ oM),zGF f.out.2.2 oM m.out j.out⟩⟩
   case measure=>exact meq
  have j:ys.getD k 0=0:=by rw[xgb,List.getElem?_eq_none oM];rfl
  have q:=zJ j;clear j;go_wp2;go_roundw
  case rel=>exact⟨k+1,(d+x)/4294967296,zs.set k ((d+x)%4294967296),oM,by go_num,by go_num,oM,g.set' _ _ _ oM,h.setCell (xgf _) _,by simpa using l,
    ⟨by simpa using f.out.1,f.out.2.1.set _ _ (yQ _ oM),zGF f.out.2.2 oM m.out q.out⟩⟩
  case measure=>exact meq
 obtain rfl:a=k:=oM;have B:=g.cell (k:=a) oM;go_wp2;go_ret;refine⟨_,_,_,zs.set a d,rfl,by simpa using f.out.1,oM,oM,(g.set' _ _ d oM).at_ (f.out.2.1.set _ _ (by unfold B32;omega)),?_,h.setCell (xgf _) _⟩;have u:=f.out.2.2;have v:=zCG zs a d l;rw[qY _ (by simp[f.out.1]),u,qY xs oM,qY ys oM]at v;omega
theorem zGP(a b:Int)(w:World):
  CPq 123 #[niq a,niq b] w fun e w'=>e= .returned (niq (zAv a b))/\w=w':=by
 by_cases c:a<b
 .have f:¬ b<a:=oM
  have e:zAv a b=-1:=by unfold zAv;rw[zB c]
  have E:=zJ e;clear e;go_enter Tryz.func123,Tryz.ntmps123;go_wp2_with (go_in)
  go_ret;exact⟨by rw[E.out];rfl,rfl⟩
 by_cases d:b<a
 .have e:zAv a b=1:=by unfold zAv;rw[zA c,zB d]
  have E:=zJ e;clear e;go_enter Tryz.func123,Tryz.ntmps123;go_wp2_with (go_in)
  go_ret;exact⟨by rw[E.out];rfl,rfl⟩
 have e:zAv a b=0:=by unfold zAv;rw[zA c,zA d]
 have E:=zJ e;clear e;go_enter Tryz.func123,Tryz.ntmps123;go_wp2_with (go_in)
 go_ret;exact⟨by rw[E.out];rfl,rfl⟩
theorem zQ3(a b:Int)(w:World):
  CPq 173 #[.int .u32 a,.int .u32 b] w fun e w'=>e= .returned (niq (zAv a b))/\w=w':=by
 by_cases c:a<b
 .have f:¬ b<a:=oM
  have e:zAv a b=-1:=by unfold zAv;rw[zB c]
  have E:=zJ e;clear e;go_enter Tryz.func173,Tryz.ntmps173;go_wp2_with (go_in)
  go_ret;exact⟨by rw[E.out];rfl,rfl⟩
 by_cases d:b<a
 .have e:zAv a b=1:=by unfold zAv;rw[zA c,zB d]
  have E:=zJ e;clear e;go_enter Tryz.func173,Tryz.ntmps173;go_wp2_with (go_in)
  go_ret;exact⟨by rw[E.out];rfl,rfl⟩
 have e:zAv a b=0:=by unfold zAv;rw[zA c,zA d]
 have E:=zJ e;clear e;go_enter Tryz.func173,Tryz.ntmps173;go_wp2_with (go_in)
 go_ret;exact⟨by rw[E.out];rfl,rfl⟩
theorem zJh(a b c:Int)(w:World)(h:zAv a b=c):
  CPq 173 #[.int .u32 a,.int .u32 b] w fun e w'=>e= .returned (niq c)/\w'=w:=
 (zQ3 a b w).mono fun _ _ ⟨d,f⟩=>⟨by rw[d,h],f.symm⟩
theorem zBj{b:Int}(h:a<b):zAv a b=-1:=by unfold zAv;rw[zB h]
theorem zCb{b:Int}(h:b<a):zAv a b=1:=by unfold zAv;rw[zA oM,zB h]
theorem zCw{b:Int}(h:a=b):zAv a b=0:=by unfold zAv;rw[zA oM,zA oM]
theorem zDb(z A:Option Addr)(a p d r:Nat)(xs ys:List Nat)(w:World)(F:xs.length=a)(G:ys.length=d)(a0:a<=p)(a1:d<=r)
  (U:p<=9223372036854775807) (V:r<=9223372036854775807) (u:qW w z xs) (v:qW w A ys) (L:zA1 xs) (M:zA1 ys):
  CPq 124 #[.slice z a p,.slice A d r] w fun e w'=>e= .returned (niq (zAv (nat xs) (nat ys)))/\∃q,w'=w.drewN q:=by
 have P:=zJ F;have Q:=zJ G;by_cases H:a=d
 .subst H
  have K:((zAv (a:Int) (a:Int)) !=0)=false:=by unfold zAv;simp
  have a2:xs.length<=a:=oM;have a3:a<=xs.length:=oM;have a4:ys.length<=a:=oM;have a5:a<=ys.length:=oM;clear F G;go_enter Tryz.func124,Tryz.ntmps124;go_wp2_with (go_at_call 123;refine(zGP _ _ _).mono ?_;rintro e w' ⟨rfl,rfl⟩)
  clear K;go_loopw [6] (fun i wr=>∃k q:Nat,k<=a/\i=niq ((k:Int)-1)/\Hid (xs.drop k=ys.drop k)/\Hid (wr=w.drewN q)) (fun i _=>(intOf i+1).toNat)
  case atStart=>exact⟨a,0,xgf _,rfl,by show _=_;rw[qP oM,qP oM],rfl⟩
  obtain⟨k,q,Z,rfl,g,f⟩:=hrel;cases k with
  | zero=>
   have B:zAv (nat xs:Int) (nat ys:Int)=0:=by
    have:xs=ys:=by simpa using g.out
    subst this;unfold zAv;simp
   have E:=zJ B;clear B;go_wp2;go_ret;exact⟨by rw[E.out];rfl,_,f.out⟩
  | succ k=>
   obtain⟨b,N,x,rfl,S,a6,n,C⟩:=u.limb (k:=k) oM;obtain⟨J,O,y,rfl,T,a7,o,D⟩:=v.limb (k:=k) oM;have X:wr.cell? ⟨b,N+k,none⟩=some (.int .u32 (x:Nat)):=by rw[f.out];exact C
   have Y:wr.cell? ⟨J,O+k,none⟩=some (.int .u32 (y:Nat)):=by rw[f.out];exact D
   have R:IntKind.i64.wrap ((k:Int)+1-1)=k:=by rw[yC _ oM];omega
   clear C D;rcases yS x y with m|m|m
   .have E:Hid (zAv (nat xs) (nat ys)=-1):=zBj (by have:=zP2 u.1 oM oM g.out n.out o.out m;omega)
    have c:=fun W=>zJh x y (-1) W (zBj oM)
    go_wp2;go_quiet ((go_at_call 173;exact jA (c _)));go_wp2;go_ret;exact⟨by rw[E.out];rfl,_,by rw[f.out,zAS]⟩
   .subst m
    have I:Hid (xs.drop k=ys.drop k):=by
     show _=_;rw[jV (l:=xs) (i:=k) oM,jV (l:=ys) (i:=k) oM,g.out];have s:=n.out;have t:=o.out;rw[xgb,xga oM]at s t;simp at s t;rw[s,t]
    have c:=fun W=>zJh x x 0 W (zCw rfl)
    clear g n o;go_wp2;go_quiet ((go_at_call 173;exact jA (c _)));go_wp2;go_roundw
    case rel=>exact⟨k,_,oM,by go_num,I,by show _=_;rw[f.out,zAS]⟩
    case measure=>simp[intOf]
   have E:Hid (zAv (nat xs) (nat ys)=1):=zCb (by have:=zP2 v.1 oM oM g.out.symm o.out n.out m;omega);have c:=fun W=>zJh x y 1 W (zCb oM)
   go_wp2;go_quiet ((go_at_call 173;exact jA (c _)));go_wp2;go_ret;exact⟨by rw[E.out];rfl,_,by rw[f.out,zAS]⟩
 rcases zAb H with h|h
 .have j:zAv (a:Int) (d:Int)=-1:=zBj oM
  have E:Hid (zAv (nat xs) (nat ys)=-1):=zBj (by have:=zL4 u.1 M oM;omega);have c:=fun W=>(zGP a d W)
  rw[j]at c;clear j;go_enter Tryz.func124,Tryz.ntmps124;go_wp2_with (go_at_call 123;refine(c _).mono ?_;rintro e w' ⟨rfl,rfl⟩)
  go_ret;exact⟨by rw[E.out];rfl,0,rfl⟩
 have j:zAv (a:Int) (d:Int)=1:=zCb oM;have E:Hid (zAv (nat xs) (nat ys)=1):=zCb (by have:=zL4 v.1 L oM;omega);have c:=fun W=>(zGP a d W)
 rw[j]at c;clear j;go_enter Tryz.func124,Tryz.ntmps124;go_wp2_with (go_at_call 123;refine(c _).mono ?_;rintro e w' ⟨rfl,rfl⟩)
 go_ret;exact⟨by rw[E.out];rfl,0,rfl⟩
theorem zIL{x y v e:Nat}(h:nat (zs.take k)+nat (ys.take k)=nat (xs.take k)+d*B32^k)(b:k<zs.length)
  (c:xs.getD k 0=x) (f:ys.getD k 0=y) (hv:v+y+d=x+e*4294967296):
  nat ((zs.set k v).take (k+1))+nat (ys.take (k+1))=nat (xs.take (k+1))+e*B32^(k+1):=by
 rw[zCG _ _ _ b,yR,yR,c,f,qE,zB5];rw[zB5]at h;generalize 4294967296^k=p at*;have a:(v+y+d)*p=(x+e*4294967296)*p:=by rw[hv]
 rw[zW,zW,zW,zE,zN 4294967296 p]at a;omega
theorem zSE(x y d:Nat)(a:x<4294967296)(b:y<4294967296)(hd:d<=1):
  ∃v e:Nat,IntKind.u32.wrap (IntKind.u64.wrap (IntKind.u64.wrap ((x:Int)-d)-y))=v/\IntKind.u64.wrap (IntKind.u64.wrap ((x:Int)-d)-y)/9223372036854775808=e/\v<4294967296/\e<=1/\v+y+d=x+e*4294967296:=by
 simp only[IntKind.wrap_u64,IntKind.wrap_u32];by_cases h:y+d<=x
 .exact⟨x-d-y,0,oM,oM,oM,oM,oM⟩
 exact⟨x+4294967296-d-y,1,oM,oM,oM,oM,oM⟩
theorem zPi(x d:Nat)(a:x<4294967296)(hd:d<=1):
  ∃v e:Nat,IntKind.u32.wrap (IntKind.u64.wrap ((x:Int)-d))=v/\IntKind.u64.wrap ((x:Int)-d)/9223372036854775808=e/\v<4294967296/\e<=1/\v+0+d=x+e*4294967296:=by
 simp only[IntKind.wrap_u64,IntKind.wrap_u32];by_cases h:d<=x
 .exact⟨x-d,0,oM,oM,oM,oM,oM⟩
 exact⟨x+4294967296-d,1,oM,oM,oM,oM,oM⟩
theorem zKA(u z:Option Addr)(a m g n:Nat)(xs ys:List Nat)(w:World)(F:xs.length=a)(G:ys.length=g)(b0:a<=m)(b3:g<=n)
  (a2:m<=9223372036854775807) (a3:n<=9223372036854775807) (O:a<=4*LIM) (U:qW w u xs) (V:qW w z ys) (b4:g<=a) (H:nat ys<=nat xs):
  CPq 181 #[.slice u a m,.slice z g n] w (zJB w (nat xs-nat ys)):=by
 have a0:=zJ F;have a1:=zJ G;have J:=zJ H;have R:xs.length<=a:=oM;have b5:a<=xs.length:=oM;have b6:ys.length<=g:=oM;have b7:g<=ys.length:=oM;clear F G H;rw[zBf]at O;have S:=fun W=>mkU (a:Int) a oM oM W
 go_enter Tryz.func181,Tryz.ntmps181;go_wp2;clear S;go_loopw [6,14] (fun c i wr=>∃(k d:Nat) (zs:List Nat),k<=a/\i= .int .i64 k/\c= .int .u64 d/\d<=1/\zC1 wr w.heap.size zs/\BWq w wr/\a<=zs.length∧
   Hid (zs.length=a/\zA3 zs/\nat (zs.take k)+nat (ys.take k)=nat (xs.take k)+d*B32^k)) (fun _ i _=>a-(intOf i).toNat)
 case atStart=>exact⟨0,0,List.replicate a 0,oM,rfl,rfl,oM,zC1.made _ _,(zC _ _).alloc (xgf _) _,by simp,⟨by simp,fun x T=>by rw[List.eq_of_mem_replicate T];exact zCU,by simp⟩⟩
 obtain⟨k,d,zs,hk,rfl,rfl,hd,j,h,E,f⟩:=hrel;have a7:=j.frozen k;by_cases a9:k<a
 .obtain⟨b,Y,x,rfl,P,I,t,C⟩:=U.limb (k:=k) oM
  have a4:=(h.cell (p:=⟨b,Y+k,none⟩) P).trans C;have a6:=j.cell (k:=k) oM;clear C;by_cases a8:k<g
  .obtain⟨L,Z,y,rfl,Q,X,l,D⟩:=V.limb (k:=k) oM
   have a5:=(h.cell (p:=⟨L,Z+k,none⟩) Q).trans D;clear D;go_wp2;go_roundw;obtain⟨v,e,o,q,r,M,s⟩:=zSE x y d I X hd
   case rel=>exact⟨k+1,e,zs.set k v,oM,by go_num,by rw[q],oM,j.set' _ _ v (by first|exact o|omega),h.setCell (xgf _) _,by simpa using E,
     ⟨by simpa using f.out.1,f.out.2.1.set _ _ r,zIL f.out.2.2 oM t.out l.out s⟩⟩
   case measure=>exact meq
  have l:ys.getD k 0=0:=by rw[xgb,List.getElem?_eq_none oM];rfl
  have K:=zJ l;clear l;go_wp2;go_roundw;obtain⟨v,e,o,q,r,M,s⟩:=zPi x d I hd
  case rel=>exact⟨k+1,e,zs.set k v,oM,by go_num,by rw[q],oM,j.set' _ _ v (by first|exact o|omega),h.setCell (xgf _) _,by simpa using E,
    ⟨by simpa using f.out.1,f.out.2.1.set _ _ r,zIL f.out.2.2 oM t.out K.out s⟩⟩
  case measure=>exact meq
 obtain rfl:a=k:=oM;go_wp2;go_ret;have A:=f.out.2.2;rw[qY xs R,qY ys oM,qY zs (by rw[f.out.1];omega)]at A;have B:=zDO f.out.2.1;rw[f.out.1]at B;have h3:=J.out;refine⟨_,_,_,zs,rfl,f.out.1,oM,oM,j.at_ f.out.2.1,?_,h⟩;generalize B32^a=p at A B;have N:d=0∨d=1:=oM;rcases N with rfl|rfl<;>omega
theorem zIb{a:List Nat}{c y z:Nat}(h:nat (zs.take (i+k))+c*B32^(i+k)=nat (a.take (i+k))+x*B32^i*nat (ys.take k))(f:i+k<zs.length)
    (g:ys.getD k 0=y) (l:zs.getD (i+k) 0=z) (j:a.getD (i+k) 0=z):
    nat ((zs.set (i+k) ((c+(x*y+z))%4294967296)).take (i+(k+1)))+(c+(x*y+z))/4294967296*B32^(i+(k+1))=nat (a.take (i+(k+1)))+x*B32^i*nat (ys.take (k+1)):=by
  rw[show i+(k+1)=i+k+1 from rfl,zCG _ _ _ f,yR a,yR ys,g,j,zAH,qE,zB5];rw[zB5]at h;have b:x*4294967296^i*(y*4294967296^k)=x*y*4294967296^(i+k):=by rw[yM];simp only[Nat.mul_assoc,Nat.mul_comm,Nat.mul_left_comm]
  rw[b];generalize 4294967296^(i+k)=p at*;generalize x*4294967296^i*nat (ys.take k)=t at*;generalize x*y=m at*;have e:=zAI (c+(m+z)) 4294967296;generalize (c+(m+z))/4294967296=q at*;generalize (c+(m+z))%4294967296=r at*;have d:r*p+q*(p*4294967296)=(c+(m+z))*p:=by rw[<-e,zW,zN 4294967296 q,zE,zN 4294967296 p,zDn]
  rw[zW,zW]at d;omega
theorem zHs(b:x<4294967296)(c:y<4294967296):x*y<=18446744065119617025:=by
  have a:x*y<=4294967295*4294967295:=qO oM oM;omega
theorem zHt(a:x<4294967296)(b:y<4294967296):(x:Int)*(y:Int)<=18446744065119617025/\0<=(x:Int)*(y:Int):=by
  have h:=zHs a b;rw[<-yJ];generalize x*y=m at*;omega
theorem zEy(h:xs.drop k=ys.drop k){j:Nat}(a:k<=j):xs.getD j 0=ys.getD j 0:=by
  have:=congrArg (fun l=>l.getD (j-k) 0) h;simp only[xgb,List.getElem?_drop]at this;rw[show k+(j-k)=j by omega]at this;simpa[xgb]using this
theorem zDr(zs:List Nat)(k v:Nat):(zs.set k v).drop (k+1)=zs.drop (k+1):=by
  rw[List.drop_set_of_lt oM]
theorem zF9(h:xs.drop k=ys.drop k):xs.drop (k+1)=ys.drop (k+1):=by
  have:=congrArg List.tail h;simpa using this
theorem zVA(s t:Option Addr)(d L a M:Nat)(xs ys:List Nat)(w:World)(D:xs.length=d)(E:ys.length=a)
    (Q:d<=4*LIM) (R:a<=4*LIM) (a0:qW w s xs) (a1:qW w t ys):
    CPq 119 #[.slice s d L,.slice t a M] w (zJB w (nat xs*nat ys)):=by
  have a4:=zJ D;have a5:=zJ E;have V:xs.length<=d:=oM;have b3:d<=xs.length:=oM;have b4:ys.length<=a:=oM;have b5:a<=ys.length:=oM;clear D E;rw[zBf]at Q R;have Y:=fun W=>mkU ((d:Int)+a) (d+a) oM oM W
  go_enter Tryz.func119,Tryz.ntmps119;go_wp2;clear Y;go_loopw [19] (fun i wr=>∃(k:Nat) (zs:List Nat),k<=d/\i= .int .i64 k/\zC1 wr w.heap.size zs/\BWq w wr/\d+a<=zs.length∧
      Hid (zs.length=d+a/\zA3 zs/\nat (zs.take (k+a))=nat (xs.take k)*nat ys)) (fun i _=>d-(intOf i).toNat)
  case atStart=>exact⟨0,List.replicate (d+a) 0,oM,rfl,zC1.made _ _,(zC _ _).alloc (xgf _) _,by simp,⟨by simp,fun x Z=>by rw[List.eq_of_mem_replicate Z];exact zCU,by
    have:∀m,nat (List.replicate m 0)=0:=fun m=>by induction m with
      |zero=>rfl
      |succ m ih=>rw[List.replicate_succ,zBp,ih];rfl
    rw[List.take_replicate,this];simp⟩⟩
  case round=>
    obtain⟨k,l,hk,rfl,u,q,X,f⟩:=hrel;obtain⟨H,rfl⟩:∃H:World,H=wr:=⟨_,rfl⟩;by_cases b0:k<d
    · obtain ⟨b,a2,x,rfl,S,F,I,v⟩:=a0.limb (k:=k) oM
      have a6:=(q.cell (p:=⟨b,a2+k,none⟩) S).trans v;clear v;go_wp2;go_loopw [8,26] (fun N i wr=>∃(j c:Nat) (zs:List Nat),j<=a/\i= .int .i64 j/\N= .int .u64 c/\c<4294967296/\zC1 wr w.heap.size zs/\BWq w wr/\d+a<=zs.length∧
          Hid (zs.length=d+a/\zA3 zs/\zs.drop (k+j)=l.drop (k+j)/\nat (zs.take (k+j))+c*B32^(k+j)=nat (l.take (k+j))+x*B32^k*nat (ys.take j))) (fun _ i _=>a-(intOf i).toNat)
      case atStart=>exact⟨0,0,l,oM,rfl,rfl,oM,u,q,X,⟨f.out.1,f.out.2.1,rfl,by simp⟩⟩
      case round=>
        obtain⟨j,c,zs,hj,rfl,rfl,U,h,o,C,e⟩:=hrel;have a8:=h.frozen (k+j);by_cases a9:j<a
        · obtain⟨K,a3,y,rfl,T,G,J,A⟩:=a1.limb (k:=j) oM
          have a7:=(o.cell (p:=⟨K,a3+j,none⟩) T).trans A;clear A;obtain⟨z,n⟩:∃z,zs.getD (k+j) 0=z:=⟨_,rfl⟩;have c0:z<4294967296:=by rw[<-n];exact e.out.2.1.get _
          have B:=h.cell (k:=k+j) oM;rw[n]at B;have r:=zJ n;clear n;have b7:=zHs F G;obtain⟨b8,b9⟩:=zHt F G;go_wp2;go_roundw
          case rel=>
            have O:(((c+(x*y+z))/4294967296:Nat):Int)=((c:Int)+((x:Int)*(y:Int)+(z:Int)))/4294967296:=by simp
            have b6:c+(x*y+z)<18446744073709551616:=by generalize x*y=m at*;omega
            refine⟨j+1,(c+(x*y+z))/4294967296,zs.set (k+j) ((c+(x*y+z))%4294967296),oM,by go_num,by rw[O],by generalize x*y=m at*;omega,h.set' _ _ _ sI,o.setCell (xgf _) _,by simpa using C,
              ⟨by simpa using e.out.1,e.out.2.1.set _ _ (yQ _ oM),?_,zIb e.out.2.2.2 oM J.out r.out ((zEy e.out.2.2.1 (xgf _)).symm.trans r.out)⟩⟩
            rw[show k+(j+1)=k+j+1 from rfl,zDr];exact zF9 e.out.2.2.1
          case measure=>exact meq
        · obtain rfl:a=j:=oM
          have B:=h.cell (k:=k+a) oM;go_wp2;go_roundw
          case rel=>
            refine⟨k+1,zs.set (k+a) c,oM,by go_num,h.set' _ _ _ rfl,o.setCell (xgf _) _,by simpa using C,⟨by simpa using e.out.1,e.out.2.1.set _ _ U,?_⟩⟩;have g:=e.out.2.2.2;have P:=f.out.2.2;rw[P,qY ys oM]at g;rw[show k+1+a=k+a+1 by omega,zCG _ _ _ oM,g,yR xs,I.out,zW]
          case measure=>exact meq
    · obtain rfl:d=k:=oM
      go_wp2;go_ret;have g:=f.out.2.2;rw[qY xs V,qY l (by rw[f.out.1];omega)]at g;exact⟨_,_,_,l,rfl,f.out.1,oM,oM,u.at_ f.out.2.1,g,q⟩
theorem zCH(neg:Bool)(b:Option Addr)(n d:Nat)(xs:List Nat)(w:World)(h:xs.length=n)(p:n<=d)(o:d<=9223372036854775807)(i:qW w b xs):
  CPq 112 #[.bool neg,.slice b n d] w (zDJ w (sgn neg (nat xs))):=by
 have f:=zJ h;have r:=zEq xs n;obtain⟨t,c⟩:∃t,zBM xs n=t:=⟨_,rfl⟩;rw[c]at r;have g:=fun W s=>zDC b n d xs W h p o s
 rw[c]at g;have j:=zJ c;clear c h;have q:zA1 (xs.take t):=by
  have a:=zFA xs;unfold zEr at a;rw[f.out,j.out]at a;exact a
 have m:Hid (nat (xs.take t)=nat xs):=by
  have a:=zEA xs;unfold zEr at a;rw[f.out,j.out]at a;exact a
 by_cases k:t=0
 .subst k
  go_enter Tryz.func112,Tryz.ntmps112;go_wp2_with (go_at_call 120;refine(g _ ?_).mono ?_;exact i.ext (zBq.I ((zC _ _).alloc (xgf _) _) (xgf _));rintro e w' ⟨rfl,rfl⟩)
  refine bodyPost_ret (v:=.agg #[.bool false,.slice none 0 0]) (by simp[results,Tryz.results112,go_sem]) rfl ?_;refine⟨_,rfl,⟨false,none,0,0,[],rfl,rfl,oM,oM,qW.nil _ _,zA1.nil,?_,by simp⟩,(zC _ _).alloc (xgf _) _⟩;have:=m.out;simp at this;rw[<-this];simp[zJN]
 have u:((t:Int)==0)=false:=by simpa using k
 go_enter Tryz.func112,Tryz.ntmps112;go_wp2_with (go_at_call 120;refine(g _ ?_).mono ?_;exact i.ext (zBq.I ((zC _ _).alloc (xgf _) _) (xgf _));rintro e w' ⟨rfl,rfl⟩)
 refine bodyPost_ret (v:=.agg #[.bool neg,.slice b t t]) (by simp[results,Tryz.results112,go_sem]) rfl ?_;have l:BWq w (w.alloc (.cells #[.bool neg,.slice b t t] 43)):=(zC _ _).alloc (xgf _) _;exact⟨_,rfl,⟨neg,b,t,t,xs.take t,rfl,by rw[qR,f.out];omega,oM,oM,(i.take t).ext (zBq.I l (xgf _)),q,by rw[m.out],oM⟩,l⟩
theorem qW.two(w:World)(a b:Nat)(f:a<4294967296)(g:b<4294967296)(m k:Int)(d:m=a)(c:k=b):
  qW (w.alloc (.cells #[.int .u32 m,.int .u32 k] tU)) (some ⟨w.heap.size,0,none⟩) [a,b]:=by
 subst d;subst c;exact(zC1.made w [a,b]).at_ (fun x e=>by simp at e;unfold B32;omega)
theorem qW.one(w:World)(a:Nat)(d:a<4294967296)(m:Int)(b:m=a):
  qW (w.alloc (.cells #[.int .u32 m] tU)) (some ⟨w.heap.size,0,none⟩) [a]:=by
 subst b;exact(zC1.made w [a]).at_ (fun x c=>by simp at c;unfold B32;omega)
theorem zHm(u:Nat)(w:World)(a:u<18446744073709551616):
  CPq 113 #[.int .u64 (u:Nat)] w (zJB w u):=by
 go_enter Tryz.func113,Tryz.ntmps113;go_wp2;go_ret;exact⟨_,_,_,[u%4294967296,u/4294967296],rfl,rfl,oM,oM,qW.two w _ _ oM oM _ _ (by simp[IntKind.wrap_u32]) (by simp[IntKind.wrap_u32]),by simp[zBp,zB5];omega,(zC _ _).alloc (xgf _) _⟩
theorem zAw(v:Value)(z:Int)(w:World)(h:zIh w v z):
  CPq 117 #[v] w fun e w'=>e= .returned (niq (zAv z 0))/\BWq w w':=by
 obtain⟨neg,ao,n,i,xs,rfl,a,k,j,d,g,b⟩:=h;have c:=fun W l=>zDC ao n i xs W a k j l
 rw[<-a,zBB g,a]at c;by_cases f:n=0
 .have E:Hid (zAv z 0=0):=by
   have:xs= []:=qL oM;subst this;exact zCw (by rw[b];simp[zJN])
  clear b a;subst f;go_enter Tryz.func117,Tryz.ntmps117;go_wp2_with (go_at_call 120;refine(c _ ?_).mono ?_;exact d.ext (zBq.I ((zC _ _).alloc (xgf _) _) (xgf _));rintro e w' ⟨rfl,rfl⟩)
  go_ret;exact⟨by rw[E.out];rfl,(zC _ _).alloc (xgf _) _⟩
 have o:0<nat xs:=zMa g (by rintro rfl;simp at a;omega);have m:((n:Int)==0)=false:=by simpa using f
 cases neg with
 |true=>
  have E:Hid (zAv z 0=-1):=zBj (by rw[b];simp;omega);clear b a;go_enter Tryz.func117,Tryz.ntmps117;go_wp2_with (go_at_call 120;refine(c _ ?_).mono ?_;exact d.ext (zBq.I ((zC _ _).alloc (xgf _) _) (xgf _));rintro e w' ⟨rfl,rfl⟩)
  go_ret;exact⟨by rw[E.out];rfl,(zC _ _).alloc (xgf _) _⟩
 |false=>
  have E:Hid (zAv z 0=1):=zCb (by rw[b];simp;omega);clear b a;go_enter Tryz.func117,Tryz.ntmps117;go_wp2_with (go_at_call 120;refine(c _ ?_).mono ?_;exact d.ext (zBq.I ((zC _ _).alloc (xgf _) _) (xgf _));rintro e w' ⟨rfl,rfl⟩)
  go_ret;exact⟨by rw[E.out];rfl,(zC _ _).alloc (xgf _) _⟩
theorem zGt(n:Int)(w:World)(h1:-9223372036854775808<=n)(h2:n<=9223372036854775807):
  CPq 71 #[niq n] w (zDJ w n):=by
 by_cases D:n<0
 .have e:IntKind.u64.wrap (-IntKind.u64.wrap n)=((n.natAbs:Nat):Int):=by simp only[IntKind.wrap_u64];omega
  go_enter Tryz.func71,Tryz.ntmps71;go_wp2_with fail
  refine(zHm n.natAbs _ oM).mono ?_;rintro y B ⟨ao,q,f,zs,rfl,j,k,l,o,p,b⟩;have d:=(yG w 43 #[.bool false,.slice none 0 0]).I b;go_wp2_with fail
  refine(zCH true ao q f zs _ j k l o).mono ?_;rintro z C ⟨v,rfl,h,c⟩;have a:=d.I c;have A:=a.two;obtain⟨u,r,t,s,x,rfl,i⟩:=h;go_wp2_with fail
  refine jL rfl rfl rfl (a.put2 _ _) ?_ (yB (yB (nx (nx ((zC _ _).alloc (xgf _) _) b) c) oM 0 _) oM 1 _);refine jE.ext ?_ (a.lext2 dE _ _);have g:sgn true (nat zs)=n:=by rw[p];simp;omega
  rw[<-g];exact⟨u,r,t,s,x,rfl,i⟩
 obtain⟨m,rfl⟩:=zBZ (show 0<=n by omega);go_enter Tryz.func71,Tryz.ntmps71;go_wp2_with fail
 refine(zHm m _ oM).mono ?_;rintro y B ⟨ao,q,f,zs,rfl,j,k,l,o,p,b⟩;have d:=(yG w 43 #[.bool false,.slice none 0 0]).I b;go_wp2_with fail
 refine(zCH false ao q f zs _ j k l o).mono ?_;rintro z C ⟨v,rfl,h,c⟩;have a:=d.I c;have A:=a.two;obtain⟨u,r,t,s,x,rfl,i⟩:=h;go_wp2_with fail
 refine jL rfl rfl rfl (a.put2 _ _) ?_ (yB (yB (nx (nx ((zC _ _).alloc (xgf _) _) b) c) oM 0 _) oM 1 _);refine jE.ext ?_ (a.lext2 dE _ _);have g:sgn false (nat zs)=m:=by rw[p];simp
 rw[<-g];exact⟨u,r,t,s,x,rfl,i⟩
theorem zD5{b:Int}(h:¬ a<b):0<=zAv a b:=by
 unfold zAv;rw[zA h];split<;>omega
theorem zUm(neg:Bool)(a b:Nat):sgn neg (a+b)=sgn neg a+sgn neg b:=by cases neg<;>simp<;>omega
theorem zQh(h:n1≠n2)(a b:Nat)(c:b<=a):sgn n1 (a-b)=sgn n1 a+sgn n2 b:=by
 cases n1<;>cases n2<;>simp at h ⊢<;>omega
theorem zQi(h:n1≠n2)(a b:Nat)(c:a<=b):sgn n2 (b-a)=sgn n1 a+sgn n2 b:=by
 cases n1<;>cases n2<;>simp at h ⊢<;>omega
theorem zIE(v1 v2:Value)(z1 z2:Int)(w:World)(h1:zIh w v1 z1)(h2:zIh w v2 z2)(s1:Sm z1)(s2:Sm z2):
  CPq 155 #[v1,v2] w (zDJ w (z1+z2)):=by
 obtain⟨z,h,n1,a8,xs,rfl,A,b3,b0,t,I,j⟩:=h1;obtain⟨S,i,n2,a9,ys,rfl,B,b4,b2,x,J,k⟩:=h2;have a5:n1<=4*LIM:=by
  have:n1<=LIM:=by rw[<-A];exact Sm.len (neg:=z) (by rw[<-j];exact s1) I
  omega
 have a6:n2<=4*LIM:=by
  have:n2<=LIM:=by rw[<-B];exact Sm.len (neg:=S) (by rw[<-k];exact s2) J
  omega
 have L:=fun W hw=>zDC h n1 a8 xs W A b3 b0 hw
 rw[<-A,zBB I,A]at L;have Z:=fun W hw=>zDC i n2 a9 ys W B b4 b2 hw
 rw[<-B,zBB J,B]at Z;have r:=zJ A;have s:=zJ B;have a0:=zJ j;have a1:=zJ k;clear A B j k s1 s2;have b6:=zJ L;by_cases hs:z=S
 .subst hs
  go_enter Tryz.func155,Tryz.ntmps155;go_wp2_with fail
  refine zF ?_;intro W0 K;obtain⟨d,l,m,C,a7⟩:=zBc K;have u:=t.ext (lx d);have y:=x.ext (lx d);have c1:=l.two;have n:=m.two;go_quiet ((first|(go_at_call_of 120 h;exact jA ((L _ (u.ext (lx (drN _ _)))).mono (by rintro e w' ⟨rfl,rfl⟩;exact⟨rfl,rfl⟩)))|(go_at_call_of 120 i;exact jA ((Z _ (y.ext (lx (drN _ _)))).mono (by rintro e w' ⟨rfl,rfl⟩;exact⟨rfl,rfl⟩)))));go_wp2_with fail
  refine zF ?_;intro b a;have o:BWq w b:=by rw[a.out];exact nx d (drN _ _)
  have F:=yI a l;have G:=yI a m;have D:=yI a C;have q:=lx (nx o (dr b));clear c1 n;obtain⟨c1,c2,c3,c4⟩:=F.two;obtain⟨n,d2,d3,d4⟩:=G.two;go_region_held3 (fun w'=>w'.cell? ⟨w.heap.size,0,none⟩=some (.bool z))
   ((((try go_split_ands);(repeat' apply And.intro))<;>first|exact zBu (by assumption)|exact jP (by assumption) f|exact jP (by assumption) g|exact zDN (zDN (by assumption) oM) oM))
   (first
    |((go_at_call 180;refine(zQW h i n1 n1 n2 n2 xs ys _ r.out s.out (xgf _) (xgf _) oM oM a5 a6 (t.ext q) (x.ext q)).mono ?_;rintro e w1 ⟨ao,R,H,zs,rfl,j,k,O,P,Q,f⟩;have E:=D.drew.I f))
    |((go_at_call 112;refine(zCH z ao R H zs _ j k O P).mono ?_;rintro e w2 ⟨v,rfl,N,g⟩;have c:=E.I g;obtain⟨e1,e2,e3,e4⟩:=c.two;obtain⟨X,T,V,U,Y,rfl,p⟩:=N)))
  go_wp2_with fail
  refine jL rfl rfl rfl (c.put2 _ _) ?_ (yB (yB (nx (nx (nx o (dr b)) f) g) oM 0 _) oM 1 _);refine jE.ext ?_ (c.lext2 dE _ _);rw[Q]at p;rw[a0.out,a1.out,<-zUm];exact⟨X,T,V,U,Y,rfl,p⟩
 have b9:(z==S)=false:=by simpa using hs
 have Hs:=zJ hs;clear hs;by_cases b8:nat xs<nat ys
 .have M:=fun W h1 h2=>zDb h i n1 n1 n2 n2 xs ys W r.out s.out (xgf _) (xgf _) oM oM h1 h2 I J
  rw[zBj oM]at M;go_enter Tryz.func155,Tryz.ntmps155;go_wp2_with fail
  refine zF ?_;intro W0 K;obtain⟨d,l,m,C,a7⟩:=zBc K;have u:=t.ext (lx d);have y:=x.ext (lx d);have c1:=l.two;have n:=m.two;go_quiet ((first|(go_at_call_of 120 h;exact jA ((L _ (u.ext (lx (drN _ _)))).mono (by rintro e w' ⟨rfl,rfl⟩;exact⟨rfl,rfl⟩)))|(go_at_call_of 120 i;exact jA ((Z _ (y.ext (lx (drN _ _)))).mono (by rintro e w' ⟨rfl,rfl⟩;exact⟨rfl,rfl⟩)))));have a2:=u.ext (lx (drN W0 nq));have a3:=y.ext (lx (drN W0 nq));go_wp2_with (go_at_call 124;refine(M _ a2 a3).mono ?_;rintro e w' ⟨rfl,b5,rfl⟩)
  refine zF ?_;intro b a;have o:BWq w b:=by rw[a.out];exact nx d (drN _ _)
  have F:=yI a l;have G:=yI a m;have D:=yI a C;have q:=lx (nx o (dr b));clear c1 n;obtain⟨c1,c2,c3,c4⟩:=F.two;obtain⟨n,d2,d3,d4⟩:=G.two;go_region_held3 (fun w'=>w'.cell? ⟨(w.heap.size+1),0,none⟩=some (.bool S))
   ((((try go_split_ands);(repeat' apply And.intro))<;>first|exact zBu (by assumption)|exact jP (by assumption) f|exact jP (by assumption) g|exact zDN (zDN (by assumption) oM) oM))
   (first
    |((go_at_call 181;refine(zKA i h n2 n2 n1 n1 ys xs _ s.out r.out (xgf _) (xgf _) oM oM a6 (x.ext q) (t.ext q) (by rw[<-r.out,<-s.out];exact zDg x.1 I oM) oM).mono ?_;rintro e w1 ⟨ao,R,H,zs,rfl,j,k,O,P,Q,f⟩;have E:=D.drew.I f))
    |((go_at_call 112;refine(zCH S ao R H zs _ j k O P).mono ?_;rintro e w2 ⟨v,rfl,N,g⟩;have c:=E.I g;obtain⟨e1,e2,e3,e4⟩:=c.two;obtain⟨X,T,V,U,Y,rfl,p⟩:=N)))
  go_wp2_with fail
  refine jL rfl rfl rfl (c.put2 _ _) ?_ (yB (yB (nx (nx (nx o (dr b)) f) g) oM 0 _) oM 1 _);refine jE.ext ?_ (c.lext2 dE _ _);rw[Q]at p;rw[a0.out,a1.out,<-zQi Hs.out _ _ oM];exact⟨X,T,V,U,Y,rfl,p⟩
 have M:=fun W h1 h2=>zDb h i n1 n1 n2 n2 xs ys W r.out s.out (xgf _) (xgf _) oM oM h1 h2 I J
 obtain⟨cc,a4,b7⟩:∃cc:Int,zAv (nat xs) (nat ys)=cc/\0<=cc:=⟨_,rfl,zD5 oM⟩;rw[a4]at M;clear a4;go_enter Tryz.func155,Tryz.ntmps155;go_wp2_with fail
 refine zF ?_;intro W0 K;obtain⟨d,l,m,C,a7⟩:=zBc K;have u:=t.ext (lx d);have y:=x.ext (lx d);have c1:=l.two;have n:=m.two;go_quiet ((first|(go_at_call_of 120 h;exact jA ((L _ (u.ext (lx (drN _ _)))).mono (by rintro e w' ⟨rfl,rfl⟩;exact⟨rfl,rfl⟩)))|(go_at_call_of 120 i;exact jA ((Z _ (y.ext (lx (drN _ _)))).mono (by rintro e w' ⟨rfl,rfl⟩;exact⟨rfl,rfl⟩)))));have a2:=u.ext (lx (drN W0 nq));have a3:=y.ext (lx (drN W0 nq));go_wp2_with (go_at_call 124;refine(M _ a2 a3).mono ?_;rintro e w' ⟨rfl,b5,rfl⟩)
 refine zF ?_;intro b a;have o:BWq w b:=by rw[a.out];exact nx d (drN _ _)
 have F:=yI a l;have G:=yI a m;have D:=yI a C;have q:=lx (nx o (dr b));clear c1 n;obtain⟨c1,c2,c3,c4⟩:=F.two;obtain⟨n,d2,d3,d4⟩:=G.two;go_region_held3 (fun w'=>w'.cell? ⟨w.heap.size,0,none⟩=some (.bool z))
  ((((try go_split_ands);(repeat' apply And.intro))<;>first|exact zBu (by assumption)|exact jP (by assumption) f|exact jP (by assumption) g|exact zDN (zDN (by assumption) oM) oM))
  (first
   |((go_at_call 181;refine(zKA h i n1 n1 n2 n2 xs ys _ r.out s.out (xgf _) (xgf _) oM oM a5 (t.ext q) (x.ext q) (by rw[<-r.out,<-s.out];exact zDg t.1 J oM) oM).mono ?_;rintro e w1 ⟨ao,R,H,zs,rfl,j,k,O,P,Q,f⟩;have E:=D.drew.I f))
   |((go_at_call 112;refine(zCH z ao R H zs _ j k O P).mono ?_;rintro e w2 ⟨v,rfl,N,g⟩;have c:=E.I g;obtain⟨e1,e2,e3,e4⟩:=c.two;obtain⟨X,T,V,U,Y,rfl,p⟩:=N)))
 go_wp2_with fail
 refine jL rfl rfl rfl (c.put2 _ _) ?_ (yB (yB (nx (nx (nx o (dr b)) f) g) oM 0 _) oM 1 _);refine jE.ext ?_ (c.lext2 dE _ _);rw[Q]at p;rw[a0.out,a1.out,<-zQh Hs.out _ _ oM];exact⟨X,T,V,U,Y,rfl,p⟩
def zJa(w:World)(base:Nat)(v:Value)(xs:List Nat):Prop:=zA3 xs/\w.ownsRow base tU 1 v xs.length (xs.map fun n=>Value.int .u32 (n:Nat))
theorem zJa.at_(h:zJa w base v xs):
  ∃ao a,v= .slice ao xs.length a/\xs.length<=a/\a<=9223372036854775807/\qW w ao xs:=by
 obtain⟨l,p,e⟩:=h;rcases e with⟨rfl,d⟩|⟨g,a,c,rfl,q,i,m,f,r,o⟩
 .have:xs= []:=qL d
  subst this;exact⟨none,0,rfl,by simp,oM,qW.nil _ _⟩
 refine⟨some ⟨g,0,none⟩,a,rfl,m,f,l,fun _=>⟨g,0,c,_,rfl,i,fun k x j=>?_⟩⟩;have b:(xs.map fun n=>Value.int .u32 (n:Nat))[k]?=some (.int .u32 (x:Nat)):=by simp[j]
 rw[<-o,List.getElem?_take]at b;split at b;simpa using b;cases b
theorem zJa.empty(w:World)(base:Nat)(h:base<=w.heap.size):zJa (w.alloc (.cells #[] tU)) base (slq w.heap.size 0 0) []:=
 ⟨zA3.nil,by simp,.inr ⟨w.heap.size,0,#[],rfl,h,heap_alloc_new w _,xgf _,by simp[maxLen],rfl,rfl⟩⟩
theorem zJa.alloc(h:zJa w base v xs)(o:Obj):zJa (w.alloc o) base v xs:=⟨h.1,h.2.alloc o⟩
theorem zH3{P:Program}{w:World}(base:Nat)(t h e:TypeId)(i:TypeInfo)(size:Nat)(b:P.underlying t=some (.slice e))(a:P.info? e=some i)
  (v:Value) (n:Nat) (xs:List Value) (f:w.ownsRow base e size v n xs) (c:Nat):(Builtin.append_ #[t,t] h #[v,.slice none 0 c]).run P w= .ok v w:=by
 rcases f.2 with⟨rfl,rfl⟩|⟨g,j,k,rfl,_,_,d,_⟩
 simp[Builtin.append_,run_underlying b,sizeOf,typeInfo,a,Builtin.lenOf,Builtin.firstCells];simp[Builtin.append_,run_underlying b,sizeOf,typeInfo,a,Builtin.lenOf,Builtin.firstCells,d,storeCells]
theorem zPw{w:World}{ops:Array Oper}{rest:List Oper}{o:Oper}{a:Act}{Q:Exit->Act->World->Prop}(r:o.guard=none)(s x:Operand)
  (y:o.op= .call {callee:=.builtin .append,args:=#[s,x],argTypes:=#[41,41]})
  (base:Nat) (v:Value) (xs:List Nat) (z:a.eval s=v) (g:zJa w base v xs) (k:Option Addr) (m c:Nat) (ys:List Nat) (B:a.eval x= .slice k m c) (p:qW w k ys) (f:ys.length=m)
  (R:xs.length+m<=35184372088832) (H:base<=w.heap.size)
  (h:∀i w',zJa w' base i (xs++ys)->w.grownBy w' v.ownBlock->wpList Tryz.prog ops Q rest (a.put o.dst i) w'):wpList Tryz.prog ops Q (o::rest) a w:=by
 obtain⟨C,t,L,M,N⟩:=info_parts Tryz.infoU;cases k with
 | none=>
  have J:ys= []:=by
   by_cases q:ys= []
   .exact q
   obtain⟨_,_,_,_,d,_⟩:=p.2 q;cases d
  subst J;simp at f;subst f;refine wpList_plain r fun K hK=>?_
  have I:=zH3 (P:=Tryz.prog) (w:=w) base 41 o.type tU C 1 zCO t v xs.length _ g.2 c;unfold Oper.wp;simp only[execOp,y,resolve,invoke,builtin,Sem.run_bind,Sem.run_pure,Result.andThen_ok,List.map_toArray,List.map_cons,List.map_nil,z,B,I];exact hK _ _ (h v w (by simpa using g) (World.grownBy.refl w _))
 | some E=>
  refine wpList_append_own w r s x 41 y base tU C _ 1 4 zCO t L M N rfl oM v xs.length _ z g.2 E m c (ys.map fun n=>Value.int .u32 (n:Nat)) B (by simp[f]) ?_ ?_ (by simp[maxLen];omega) oM H ?_
  .intro j u e
   simp only[List.getElem?_map,Option.map_eq_some_iff]at e;obtain⟨D,e,rfl⟩:=e;obtain⟨b,O,cs,F,d,l,G⟩:=p.2 (by rintro rfl;simp at e);injection d with d
   subst d;rw[zAg,cell_of_row w b (O+j) cs tU F l];exact G j D e
  .intro u A
   simp only[List.mem_map]at A;obtain⟨D,_,rfl⟩:=A;rfl
  intro i w' d l _;refine h i w' ⟨g.1.append p.1,?_⟩ l;simpa[f]using d
def zXs(w:World)(xs:List Nat)(e:Ending)(w':World):Prop:=
 ∃ao len cap,e= .returned (.slice ao len cap)/\xs.length=len/\len<=cap/\cap<=9223372036854775807/\qW w' ao xs/\BWq w w'
theorem zGO(a:Option Addr)(n b:Nat)(xs:List Nat)(w:World)(d:xs.length=n)(p:n<=4*LIM)(f:qW w a xs):
  CPq 154 #[.slice a n b] w (zXs w xs):=by
 have v:=fun W=>Lib.run_eql_slice_nil (P:=Tryz.prog) W 41 tU a n b 0 0 zCO
 rw[zBf]at p;cases a with
 | none=>
  have u:xs= []:=by
   by_cases e:xs= []
   .exact e
   obtain⟨_,_,_,_,c,_⟩:=f.2 e;cases c
  subst u;clear d;go_enter Tryz.func154,Tryz.ntmps154;go_wp2;go_ret;exact⟨none,0,0,rfl,rfl,oM,oM,qW.nil _ _,zC _ _⟩
 |some h=>
  have g:=zJ d;clear d;go_enter Tryz.func154,Tryz.ntmps154;go_wp2_with (at_builtin;refine zPw rfl _ _ rfl w.heap.size (slq w.heap.size 0 0) [] rfl (zJa.empty w _ (xgf _)) (some h) n b xs rfl (f.ext (lx ((zC _ _).alloc (xgf _) _))) g.out (by simp;omega) sI ?_;intro x w' s q)
  have o:BWq w w':=((zC _ _).alloc (xgf _) _).grown q sI (fun k r=>by simp[Value.ownBlock]at r;omega);go_ret;obtain⟨i,j,t,c,l,m⟩:=s.at_;exact⟨i,_,j,by rw[t];rfl,rfl,c,l,m,o⟩
theorem zIh.len(h:zIh w v z)(s:Sm z):
  ∃neg ao n a xs,v= .agg #[.bool neg,.slice ao n a]/\xs.length=n/\n<=a/\a<=9223372036854775807/\qW w ao xs/\zA1 xs/\z=sgn neg (nat xs)/\n<=LIM:=by
 obtain⟨neg,ao,n,a,xs,e,b,f,g,i,c,d⟩:=h;exact⟨neg,ao,n,a,xs,e,b,f,g,i,c,d,by rw[<-b];exact Sm.len (neg:=neg) (by rw[<-d];exact s) c⟩
theorem zMn(b:Bool)(n:Nat):sgn (!b) n=-sgn b n:=by cases b<;>simp
theorem zBk(k:Value)(z:Int)(w:World)(h1:zIh w k z)(j:Sm z):CPq 164 #[k] w (zDJ w (-z)):=by
 obtain⟨neg,ao,n,f,xs,rfl,h,S,R,y,Q,i,T⟩:=h1.len j;have l:=zJ h;have m:=zJ i;clear h i j h1;have t:n<=4*LIM:=oM;go_enter Tryz.func164,Tryz.ntmps164;go_upto_region 1 with(fail)
 refine zF ?_;intro W0 s;obtain⟨g,q,d,U⟩:=zAU s;have c1:=q.two;have L:=d.two;have F:=lx (nx g (dr W0));go_region_held3 (fun w'=>w'.cell? ⟨w.heap.size,0,none⟩=some (.bool neg)/\w'.cell? ⟨w.heap.size,1,none⟩=some (.slice ao n f))
  ((((try go_split_ands);(repeat' apply And.intro))<;>first|exact zBu (by assumption)|exact jP (by assumption) b|exact jP (by assumption) c|exact zDN (zDN (by assumption) oM) oM))
  (first
   |((go_at_call 154;refine(zGO ao n f xs _ l.out t (y.ext F)).mono ?_;rintro e V ⟨o,E,r,rfl,A,B,C,D,b⟩;have p:=d.drew.I b))
   |((go_at_call 112;refine(zCH (!neg) o E r xs _ A B C D).mono ?_;rintro e W ⟨v,rfl,u,c⟩;have a:=p.I c;obtain⟨M,N,O,P⟩:=a.two;obtain⟨J,G,I,H,K,rfl,x⟩:=u)))
 go_wp2_with fail
 refine jL rfl rfl rfl (a.put2 _ _) ?_ (yB (yB (nx (nx (nx g (dr W0)) b) c) oM 0 _) oM 1 _);refine jE.ext ?_ (a.lext2 dE _ _);rw[m.out,<-zMn];exact⟨J,G,I,H,K,rfl,x⟩
theorem zSk(j:Value)(z:Int)(w:World)(h1:zIh w j z)(i:Sm z):CPq 203 #[j] w (zDJ w (z.natAbs:Nat)):=by
 obtain⟨neg,ao,n,q,xs,rfl,g,P,O,y,N,h,Q⟩:=h1.len i;have k:=zJ g;have l:=zJ h;clear g h i h1;have t:n<=4*LIM:=oM;go_enter Tryz.func203,Tryz.ntmps203;go_upto_region 1 with(fail)
 refine zF ?_;intro W0 s;obtain⟨c,p,b,R⟩:=zAU s;have c1:=p.two;have L:=b.two;have F:=lx c;go_wp2_with fail
 refine(zGO ao n q xs _ k.out t (y.ext F)).mono ?_;rintro e S ⟨m,E,r,rfl,A,B,C,D,d⟩;have o:=b.I d;go_wp2_with fail
 refine(zCH false m E r xs _ A B C D).mono ?_;rintro e T ⟨v,rfl,u,f⟩;have a:=o.I f;have M:=a.two;obtain⟨J,G,I,H,K,rfl,x⟩:=u;go_wp2_with fail
 refine jL rfl rfl rfl (a.put2 _ _) ?_ (yB (yB (nx (nx c d) f) oM 0 _) oM 1 _);refine jE.ext ?_ (a.lext2 dE _ _);rw[show((z.natAbs:Nat):Int)=sgn false (nat xs) by rw[l.out,zAF];rfl];exact⟨J,G,I,H,K,rfl,x⟩
theorem zPh(o p:Value)(a b:Int)(w:World)(h1:zIh w o a)(h2:zIh w p b)(m:Sm a)(n:Sm b):CPq 190 #[o,p] w (zDJ w (a-b)):=by
 have x:=h1;have q:=zJ h2;obtain⟨G,r,n1,u,xs,rfl,_⟩:=h1;obtain⟨l,d,n2,g,ys,rfl,j,C,A,F,y,k⟩:=h2;have B:∀W,zBq w W->CPq 155 #[.agg #[.bool G,.slice r n1 u],.agg #[.bool (!l),.slice d n2 g]] W (zDJ W (a+-b)):=fun W e=>
  zIE _ _ _ _ W (x.ext e) ⟨!l,d,n2,g,ys,rfl,j,C,A,F.ext e,y,by rw[k,zMn]⟩ m (by unfold Sm at n ⊢;rwa[zY])
 clear j k m n q;go_enter Tryz.func190,Tryz.ntmps190;go_upto_region 1 with(fail)
 refine zF ?_;intro W0 z;obtain⟨h,s,t,f,O⟩:=zBc z;have c1:=s.two;have M:=t.two;have P:=f.two;go_wp2_with fail
 refine(B _ (lx h)).mono ?_;rintro e Q ⟨v,rfl,D,i⟩;have c:=f.I i;have N:=c.two;obtain⟨K,H,J,I,L,rfl,E⟩:=D;go_wp2_with fail
 refine jL rfl rfl rfl (c.put2 _ _) ?_ (yB (yB (nx h i) oM 0 _) oM 1 _);refine jE.ext ?_ (c.lext2 dE _ _);rw[show a-b=a+-b from Int.sub_eq_add_neg];exact⟨K,H,J,I,L,rfl,E⟩
theorem zUn(a b:Bool)(m n:Nat):sgn (a !=b) (m*n)=sgn a m*sgn b n:=by
 cases a<;>cases b<;>simp[Int.neg_mul,Int.mul_neg]
theorem zES(B C:Value)(m n:Int)(w:World)(h1:zIh w B m)(h2:zIh w C n)(z:Sm m)(A:Sm n):CPq 74 #[B,C] w (zDJ w (m*n)):=by
 obtain⟨x,c,n1,p,xs,rfl,a,R,P,V,M,f,a2⟩:=h1.len z;obtain⟨y,d,n2,q,ys,rfl,b,S,Q,X,N,g,a3⟩:=h2.len A;have r:=fun W l=>zDC c n1 p xs W a R P l
 rw[<-a,zBB M,a]at r;have s:=fun W l=>zDC d n2 q ys W b S Q l
 rw[<-b,zBB N,b]at s;have D:=zJ a;have E:=zJ b;have F:=zJ f;have G:=zJ g;clear a b f g z A h1 h2;go_enter Tryz.func74,Tryz.ntmps74;go_upto_region 1 with(fail)
 refine zF ?_;intro W0 O;obtain⟨i,J,K,o,a4⟩:=zBc O;have c1:=J.two;have d1:=K.two;have r1:=o.two;have t:=V.ext (lx (nx i (dr W0)));have u:=X.ext (lx (nx i (dr W0)));go_region_held3 (fun w'=>w'.cell? ⟨w.heap.size,0,none⟩=some (.bool x)/\w'.cell? ⟨w.heap.size,1,none⟩=some (.slice c n1 p)/\w'.cell? ⟨w.heap.size+1,0,none⟩=some (.bool y)/\w'.cell? ⟨w.heap.size+1,1,none⟩=some (.slice d n2 q))
  ((((try go_split_ands);(repeat' apply And.intro))<;>first|exact zBu (by assumption)|exact jP (by assumption) j|exact jP (by assumption) k|assumption|exact zDN (zDN (by assumption) oM) oM))
  (first
   |(go_at_call_of 120 c;refine(r _ t).mono ?_;rintro e w' ⟨rfl,rfl⟩)
   |(go_at_call_of 120 d;refine(s _ u).mono ?_;rintro e w' ⟨rfl,rfl⟩)
   |(go_at_call 119;refine(zVA c d n1 n1 n2 n2 xs ys _ D.out E.out oM oM t u).mono ?_;rintro e w1 ⟨H,a1,L,zs,rfl,f,g,Y,Z,a0,j⟩;have I:=o.drew.I j)
   |(go_at_call 112;refine(zCH (x !=y) H a1 L zs _ f g Y Z).mono ?_;rintro e w2 ⟨v,rfl,T,k⟩;have h:=I.I k;obtain⟨e1,e2,e3,e4⟩:=h.two;obtain⟨vn,va,vl,vc,vx,rfl,U⟩:=T))
 go_wp2_with fail
 refine jL rfl rfl rfl (h.put2 _ _) ?_ (yB (yB (nx (nx (nx i (dr W0)) j) k) oM 0 _) oM 1 _);refine jE.ext ?_ (h.lext2 dE _ _);rw[F.out,G.out,<-zUn,<-a0];exact⟨vn,va,vl,vc,vx,rfl,U⟩
theorem zPK(p:Value)(z:Int)(w:World)(h1:jE w p z)(o:Sm z):CPq 109 #[p] w (zDJ w z):=by
  obtain⟨neg,ao,n,i,xs,rfl,c,L,K,y,k,d,l⟩:=h1;have M:n<=LIM:=by rw[<-c];exact Sm.len (neg:=neg) (by rw[<-d];exact o) k
  have f:=zJ c;have r:=zJ d;have q:=zJ l;clear c d o l;have x:n<=4*LIM:=oM;go_enter Tryz.func109,Tryz.ntmps109;go_upto_region 1 with(fail)
  refine zF ?_;intro W0 v;obtain⟨j,t,g,N⟩:=zAU v;have c1:=t.two;have F:=g.two;have E:=lx (nx j (dr W0));go_region_held3 (fun w'=>w'.cell? ⟨w.heap.size,0,none⟩=some (.bool neg)/\w'.cell? ⟨w.heap.size,1,none⟩=some (.slice ao n i))
    ((((try go_split_ands);(repeat' apply And.intro))<;>first|exact zBu (by assumption)|exact jP (by assumption) a|exact jP (by assumption) a|exact zDN (zDN (by assumption) oM) oM))
    (first
      |((go_at_call 154;refine(zGO ao n i xs _ f.out x (y.ext E)).mono ?_;rintro e O ⟨s,D,u,rfl,m,A,B,C,a⟩;have b:=g.drew.I a;obtain⟨G,H,I,J⟩:=b.two))
      |(fail))
  go_wp2_with fail
  refine jL rfl rfl rfl (b.put2 _ _) ?_ (yB (yB (nx (nx j (dr W0)) a) oM 0 _) oM 1 _);refine jE.ext ?_ (b.lext2 dE _ _);exact⟨neg,s,D,u,xs,rfl,m,A,B,C,k,r.out,fun h=>q.out (by rw[<-f.out,m,h])⟩
theorem zOL(d:Value)(z:Int)(w:World)(h1:jE w d z):CPq 132 #[d] w fun e w'=>e= .returned (.bool true)/\BWq w w':=by
  obtain⟨neg,ao,n,l,xs,rfl,a,q,o,h,g,i,c⟩:=h1;have j:=zJ a;clear i;cases n with
  | zero=>
    obtain rfl:=c rfl;clear a;go_enter Tryz.func132,Tryz.ntmps132;go_wp2;go_ret;exact⟨rfl,(zC _ _).alloc (xgf _) _⟩
  | succ n=>
    obtain⟨b,t,x,rfl,m,s,f,p⟩:=h.limb (k:=n) oM;have r:((x:Int) !=0)=true:=by
      have:=g n a;rw[f.out]at this;simpa using this
    clear a c;go_enter Tryz.func132,Tryz.ntmps132;go_wp2;go_ret;exact⟨rfl,(zC _ _).alloc (xgf _) _⟩
theorem zL3(a b:Int):-1<=zAv a b/\zAv a b<=1:=by
  unfold zAv;by_cases c:a<b
  · rw[zB c];omega
  · rw[zA c];by_cases d:b<a
    · rw[zB d];omega
    · rw[zA d];omega
theorem zJE{b:Int}:(zAv a b=-1->a<b)/\(zAv a b=0->a=b)/\(zAv a b=1->b<a):=by
  rcases zAt a b with h|h|h
  · rw[zBj h];omega
  · rw[zCw h];omega
  · rw[zCb h];omega
theorem zNC{b:Int}(h:zAv a 0≠zAv b 0):zAv (zAv a 0) (zAv b 0)=zAv a b:=by
  rcases zAt a 0 with c|c|c<;>rcases zAt b 0 with hb|hb|hb
  all_goals first
    |(exfalso;apply h;first|rw[zBj c,zBj hb]|rw[zCw c,zCw hb]|rw[zCb c,zCb hb];done)
    | (first|rw[zBj c]|rw[zCw c]|rw[zCb c]
       first|rw[zBj hb]|rw[zCw hb]|rw[zCb hb]
       first|(rw[zBj (show a<b by omega)];rfl)|(rw[zCb (show b<a by omega)];rfl))
theorem zNB{b:Int}(h:zAv a 0=zAv b 0):zAv a 0*zAv (a.natAbs:Nat) (b.natAbs:Nat)=zAv a b:=by
  rcases zAt a 0 with d|d|d
  · rw[zBj d]at h ⊢
    have e:b<0:=zJE.1 h.symm;rcases zAt a b with c|c|c
    · rw[zBj c,zCb oM];rfl
    · rw[zCw c,zCw oM];rfl
    · rw[zCb c,zBj oM];rfl
  · rw[zCw d]at h ⊢
    have e:b=0:=zJE.2.1 h.symm;rw[yK,zCw (show a=b by omega)]
  · rw[zCb d]at h ⊢
    have e:0<b:=zJE.2.2 h.symm;rw[zAG];rcases zAt a b with c|c|c
    · rw[zBj c,zBj oM]
    · rw[zCw c,zCw oM]
    · rw[zCb c,zCb oM]
theorem zTX(n:Int)(h1:-1<=n)(h2:n<=1):IntKind.i64.wrap n=n:=yC n ⟨oM,oM⟩
theorem zSx(R S:Value)(a b:Int)(w:World)(h1:zIh w R a)(h2:zIh w S b):CPq 78 #[R,S] w fun e w'=>e= .returned (niq (zAv a b))/\BWq w w':=by
  have U:=zJ h1;have V:=zJ h2;obtain⟨P,d,n1,l,xs,rfl,j,a4,a1,a8,G,A⟩:=h1;obtain⟨Q,f,n2,m,ys,rfl,k,a5,a2,a9,H,B⟩:=h2;have I:=fun W g=>zDC d n1 l xs W j a4 a1 g
  rw[<-j,zBB G,j]at I;have J:=fun W g=>zDC f n2 m ys W k a5 a2 g
  rw[<-k,zBB H,k]at J;obtain⟨s,y⟩:∃s,zAv a 0=s:=⟨_,rfl⟩;obtain⟨t,z⟩:∃t,zAv b 0=t:=⟨_,rfl⟩;obtain⟨c,u⟩:∃c,zAv (nat xs) (nat ys)=c:=⟨_,rfl⟩;have a6:=zL3 a 0;have a7:=zL3 b 0;have a3:=zL3 (nat xs) (nat ys);have L:=fun W g=>zAw (.agg #[.bool P,.slice d n1 l]) a W g
  have M:=fun W g=>zAw (.agg #[.bool Q,.slice f n2 m]) b W g
  have v:=fun W h1 h2=>zDb d f n1 n1 n2 n2 xs ys W j k (xgf _) (xgf _) oM oM h1 h2 G H
  rw[y]at L a6;rw[z]at M a7;rw[u]at v a3;have x:Hid ((s≠t->zAv s t=zAv a b)/\(s=t->s*c=zAv a b)):=by
    subst y;subst z;subst u;refine⟨fun h=>zNC h,fun h=>?_⟩;have:=zNB h;rw[A,B,zAF,zAF]at this;rw[A,B];exact this
  clear j k A B y z u;go_enter Tryz.func78,Tryz.ntmps78;go_upto_region 1 with(fail)
  refine zF ?_;intro W0 a0;obtain⟨q,C,D,b2⟩:=zAU a0;have c1:=C.two;have F:=D.two;have b0:=lx (nx q (dr W0));go_region_held3 (fun w'=>w'.cell? ⟨w.heap.size,0,none⟩=some (.bool P)/\w'.cell? ⟨w.heap.size,1,none⟩=some (.slice d n1 l)/\w'.cell? ⟨w.heap.size+1,0,none⟩=some (.bool Q)/\w'.cell? ⟨w.heap.size+1,1,none⟩=some (.slice f n2 m))
    ((((try go_split_ands);(repeat' apply And.intro))<;>first|exact zBu (by assumption)|exact jP (by assumption) i|exact jP (by assumption) o|assumption))
    (first
      |(go_at_call_of 117 d;refine(L _ (U.out.ext b0)).mono ?_;rintro e w1 ⟨rfl,i⟩)
      |(go_at_call_of 117 f;refine(M _ (V.out.ext (lx (nx (nx q (dr W0)) i)))).mono ?_;rintro e T ⟨rfl,o⟩))
  have n:=nx (nx (nx q (dr W0)) i) o;by_cases p:s=t
  · subst p
    have e0:((s:Int) !=s)=false:=by simp
    have X:Hid (s*c=zAv a b):=x.out.2 rfl;clear x;have hq:=fun W=>v W
    have Y:=(C.drew.I i).I o;have Z:=(D.drew.I i).I o;clear c1 F;go_wp2_with fail
    obtain⟨c1,c2,c3,c4⟩:=Y.two;obtain⟨F,d2,d3,d4⟩:=Z.two;have N:=a8.ext (lx (nx n (dr T)));have O:=a9.ext (lx (nx n (dr T)));go_region_held3 (fun w'=>w'.cell? ⟨w.heap.size,1,none⟩=some (.slice d n1 l)/\w'.cell? ⟨w.heap.size+1,1,none⟩=some (.slice f n2 m))
      ((((try go_split_ands);(repeat' apply And.intro))<;>first|exact zBu (by assumption)|exact jP (by assumption) (drN _ _)|assumption))
      (first
        |(go_at_call_of 120 d;refine(I _ N).mono ?_;rintro e w' ⟨rfl,rfl⟩)
        |(go_at_call_of 120 f;refine(J _ O).mono ?_;rintro e w' ⟨rfl,rfl⟩)
        |(go_at_call 124;refine(v _ N O).mono ?_;rintro e w' ⟨rfl,b3,rfl⟩))
    go_wp2_with fail
    go_ret;have hr:=X.out;have r:=zL3 a b;refine⟨?_,nx n (drN _ _)⟩;rw[<-hr]at r ⊢
    first|rfl|(show _=Ending.returned (niq _);simp[IntWalk.wrap64_in _ ⟨show-9223372036854775808<=s*c by omega,oM⟩,zTX _ r.1 r.2])
  · have e0:((s:Int) !=t)=true:=by simpa using p
    have E:=x.out.1 p;have K:=fun W=>zGP s t W
    rw[E]at K;clear E p;go_wp2_with (go_at_call 123;refine(K _).mono ?_;rintro e w' ⟨rfl,rfl⟩)
    go_ret;exact⟨rfl,n⟩
end Go.Proofs.YtkidaebmhlijlaaGreat
