/- Joined. -/
import Derived.Test.YtkidaebmhlijlaaGreatRows
import Derived.WalkKit
import Derived.WalkSpells
import Derived.WalkLawsBesides
import Derived.Lib.Hide
import Derived.Deep.Draws
import Derived.Deep.QuietTactic
import Derived.BigQuiet
import Derived.Laws.ResultCell
import Derived.Deep.RegionHeld3
import Derived.Laws.AppendOwnNone
import Derived.Deep.DeepCutAuto
import Derived.Deep.CutBlock
import Derived.Deep.Cut
set_option linter.unusedVariables false
set_option linter.unusedSimpArgs false
set_option linter.unusedSectionVars false
set_option maxHeartbeats 16000000
set_option maxRecDepth 100000
variable{n1 n2:Bool}{Q:Go.Exit->Go.Act->Go.World->Prop}{a z:Int}{xs ys zs:List Nat}{B b base d i k n o r x y:Nat}{ao:Option Go.Addr}{p:Prop}{T:Go.TypeId}{c0 c1 v:Go.Value}{W w w':Go.World}
namespace Go.Proofs.YtkidaebmhlijlaaGreat
def B32:Nat:=4294967296
theorem zCE:B32=4294967296:=rfl
theorem zCk:0<B32:=by decide
def nat:List Nat->Nat
 | []=>0
 |x::xs=>x+B32*nat xs
@[simp] theorem nat_nil:nat []=0:=rfl
theorem zCV(x:Nat)(xs:List Nat):nat (x::xs)=x+B32*nat xs:=rfl
theorem zGc(xs ys:List Nat):nat (xs++ys)=nat xs+B32^xs.length*nat ys:=by
 induction xs with
 |nil=>simp
 |cons x xs ih=>
  simp only[List.cons_append,zCV,ih,List.length_cons,Nat.pow_succ,Nat.mul_add];rw[Nat.add_assoc,<-Nat.mul_assoc,Nat.mul_comm B32 (B32^xs.length)]
theorem zEO(xs:List Nat)(y:Nat):nat (xs++ [y])=nat xs+B32^xs.length*y:=by
 rw[zGc];simp[zCV]
def zA6(xs:List Nat):Prop:=∀x∈xs,x<B32
theorem zA6.cons(h:zA6 (x::xs)):x<B32/\zA6 xs:=
 ⟨h x (by simp),fun y hy=>h y (by simp[hy])⟩
theorem zA6.nil:zA6 []:=by intro x hx;cases hx
theorem zA6.take(h:zA6 xs)(k:Nat):zA6 (xs.take k):=fun x hx=>h x (List.mem_of_mem_take hx)
theorem zA6.append(h:zA6 xs)(k:zA6 ys):zA6 (xs++ys):=fun x hx=>by
 rcases List.mem_append.1 hx with h1|h1
 exact h x h1;exact k x h1
theorem zA6.get(h:zA6 xs)(k:Nat):xs.getD k 0<B32:=by
 rw[List.getD_eq_getElem?_getD];rcases Nat.lt_or_ge k xs.length with hk|hk
 rw[List.getElem?_eq_getElem hk];exact h _ (List.getElem_mem hk);rw[List.getElem?_eq_none hk];exact zCk
theorem zEK(h:zA6 xs):nat xs<B32^xs.length:=by
 induction xs with
 |nil=>simp
 |cons x xs ih=>
  obtain⟨hx,hxs⟩:=h.cons;have:=ih hxs;simp only[zCV,List.length_cons,Nat.pow_succ];have h2:B32*(nat xs+1)<=B32*B32^xs.length:=Nat.mul_le_mul_left _ this;rw[Nat.mul_add]at h2;rw[Nat.mul_comm (B32^xs.length)];omega
def zBK(xs:List Nat):Prop:=∀n,xs.length=n+1->xs.getD n 0≠0
theorem zBK.nil:zBK []:=by intro n h;simp at h
theorem zBK.tail(h:zBK (x::xs)):zBK xs:=by
 intro n hn;have:=h (n+1) (by simp[hn]);simpa using this
theorem zMt(h:zBK xs)(hn:xs.length=n+1):B32^n<=nat xs:=by
 induction xs generalizing n with
 |nil=>simp at hn
 | cons x xs ih=>
  simp at hn;rw[zCV];cases n with
  |zero=>
   have h0:=h 0 (by simp[hn]);have:xs= []:=List.eq_nil_of_length_eq_zero hn;subst this;simp at h0 ⊢
   omega
  |succ n=>
   have:=ih h.tail (n:=n) (by omega);have h2:=Nat.mul_le_mul_left B32 this;rw[Nat.pow_succ,Nat.mul_comm];omega
theorem zOO(h:zBK xs)(hne:xs≠ []):0<nat xs:=by
 cases hx:xs.length with
 |zero=>exact absurd (List.eq_nil_of_length_eq_zero hx) hne
 |succ n=>exact Nat.lt_of_lt_of_le (Nat.pow_pos zCk) (zMt h hx)
theorem zHM(h:zBK xs):nat xs=0↔xs= []:=by
 constructor
 ·intro h0
  by_cases hne:xs= []
  ·exact hne
  have:=zOO h hne;omega
 rintro rfl;rfl
theorem zGf{a:Nat}(h:a<=b):B32^a<=B32^b:=Nat.pow_le_pow_right zCk h
theorem zDS(hx:zA6 xs)(hn:zBK ys)(h:nat ys<=nat xs):ys.length<=xs.length:=by
 rcases Nat.lt_or_ge xs.length ys.length with hlt|hge
 ·cases hy:ys.length with
  |zero=>omega
  |succ n=>
   have h1:=zMt hn hy;have h2:=zEK hx;have h3:=zGf (show xs.length<=n by omega);omega
 exact hge
theorem zE1(xs:List Nat)(n:Nat)(h:n<xs.length):xs.take (n+1)=xs.take n++ [xs.getD n 0]:=by
 rw[List.take_succ_eq_append_getElem h];simp[List.getD_eq_getElem?_getD,List.getElem?_eq_getElem h]
theorem jF(xs:List Nat)(k:Nat):nat (xs.take (k+1))=nat (xs.take k)+xs.getD k 0*B32^k:=by
 rcases Nat.lt_or_ge k xs.length with h|h
 rw[zE1 xs k h,zEO,List.length_take,Nat.min_eq_left (by omega),Nat.mul_comm];rw[List.take_of_length_le (by omega),List.take_of_length_le h,List.getD_eq_getElem?_getD,List.getElem?_eq_none h];simp
theorem zB3(zs:List Nat)(k v:Nat)(h:k<zs.length):nat ((zs.set k v).take (k+1))=nat (zs.take k)+v*B32^k:=by
 rw[jF,List.take_set_of_le (by omega),List.getD_eq_getElem?_getD,List.getElem?_set_self h];rfl
theorem zA6.set(h:zA6 zs)(k v:Nat)(hv:v<B32):zA6 (zs.set k v):=fun x hx=>by
 rcases List.mem_or_eq_of_mem_set hx with h1|h1
 exact h x h1;subst h1;exact hv
theorem yG(xs:List Nat)(h:xs.length<=n):nat (xs.take n)=nat xs:=by rw[List.take_of_length_le h]
theorem zGC{x y:Nat}(h:nat (zs.take k)+d*B32^k=nat (xs.take k)+nat (ys.take k))(hk:k<zs.length)
  (hx:xs.getD k 0=x) (hy:ys.getD k 0=y):
  nat ((zs.set k ((d+x+y)%4294967296)).take (k+1))+(d+x+y)/4294967296*B32^(k+1)=nat (xs.take (k+1))+nat (ys.take (k+1)):=by
 rw[zB3 _ _ _ hk,jF,jF,hx,hy,Nat.pow_succ,zCE];rw[zCE]at h;generalize 4294967296^k=p at*;generalize nat (List.take k zs)=a at*;generalize nat (List.take k xs)=b at*;generalize nat (List.take k ys)=c at*;have e:=Nat.div_add_mod (d+x+y) 4294967296;generalize (d+x+y)/4294967296=q at*;generalize (d+x+y)%4294967296=r at*;have e2:r*p+q*(p*4294967296)=(d+x+y)*p:=by rw[<-e,Nat.add_mul,Nat.mul_comm 4294967296 q,Nat.mul_assoc,Nat.mul_comm 4294967296 p,Nat.add_comm]
 rw[Nat.add_mul,Nat.add_mul]at e2;omega
def zBH(xs:List Nat):Nat->Nat
 |0=>0
 |n+1=>if xs.getD n 0=0 then zBH xs n else n+1
theorem zEh(xs:List Nat):∀n,zBH xs n<=n
 |0=>Nat.le_refl _
 |n+1=>by
  unfold zBH;split;have:=zEh xs n;omega;omega
theorem zLD(xs:List Nat):∀n,n<=xs.length->nat (xs.take (zBH xs n))=nat (xs.take n)
 |0,_=>rfl
 | n+1,h=>by
  unfold zBH;split
  ·rename_i h0
   rw[zLD xs n (by omega),zE1 xs n (by omega),zEO,h0];simp
  rfl
theorem zDn(xs:List Nat):∀n,n<=xs.length->zBK (xs.take (zBH xs n))
 |0,_=>by simpa[zBH]using zBK.nil
 |n+1,h=>by
  unfold zBH;split;exact zDn xs n (by omega);rename_i h0;intro k hk;rw[List.length_take,Nat.min_eq_left h]at hk;have:k=n:=by omega
  subst this;rw[List.getD_eq_getElem?_getD,List.getElem?_take,if_pos (by omega),<-List.getD_eq_getElem?_getD];exact h0
def zEi(xs:List Nat):List Nat:=xs.take (zBH xs xs.length)
theorem zKL(xs:List Nat):(zEi xs).length=zBH xs xs.length:=by
 unfold zEi;rw[List.length_take,Nat.min_eq_left (zEh _ _)]
theorem zDx(xs:List Nat):nat (zEi xs)=nat xs:=by
 unfold zEi;rw[zLD xs _ (Nat.le_refl _),List.take_of_length_le (Nat.le_refl _)]
theorem zE2(xs:List Nat):zBK (zEi xs):=zDn xs _ (Nat.le_refl _)
theorem zA5(h:zBK xs):zBH xs xs.length=xs.length:=by
 cases hx:xs.length with
 |zero=>rfl
 |succ n=>unfold zBH;rw[if_neg (h n hx)]
theorem zHn(xs:List Nat)(k:Nat)(h:k<xs.length):nat xs=nat (xs.take k)+B32^k*(xs.getD k 0+B32*nat (xs.drop (k+1))):=by
 have e:xs=xs.take k++xs.getD k 0::xs.drop (k+1):=by
  rw[List.getD_eq_getElem?_getD,List.getElem?_eq_getElem h];simp
 have hl:(xs.take k).length=k:=by rw[List.length_take,Nat.min_eq_left (by omega)]
 have:=congrArg nat e;rw[zGc,hl,zCV]at this;exact this
theorem zO7{x y:Nat}(hx:zA6 xs)(hkx:k<xs.length)(hky:k<ys.length)(hd:xs.drop (k+1)=ys.drop (k+1))
  (ex:xs.getD k 0=x) (ey:ys.getD k 0=y) (h:x<y):nat xs<nat ys:=by
 rw[zHn xs k hkx,zHn ys k hky,hd,ex,ey];have h1:=zEK (hx.take k);rw[List.length_take,Nat.min_eq_left (by omega)]at h1;have h2:B32^k*(x+B32*nat (List.drop (k+1) ys)+1)<=B32^k*(y+B32*nat (List.drop (k+1) ys)):=Nat.mul_le_mul_left _ (by omega);rw[Nat.mul_add _ _ 1]at h2;omega
theorem zLN(hx:zA6 xs)(hy:zBK ys)(h:xs.length<ys.length):nat xs<nat ys:=by
 cases hl:ys.length with
 |zero=>omega
 |succ n=>
  have h1:=zMt hy hl;have h2:=zEK hx;have h3:=zGf (show xs.length<=n by omega);omega
def zAt(a b:Int):Int:=if a<b then-1 else if b<a then 1 else 0
def sgn(neg:Bool)(n:Nat):Int:=if neg then-(n:Int)else(n:Int)
@[simp] theorem sgn_true (n:Nat):sgn true n=-(n:Int):=rfl
@[simp] theorem sgn_false (n:Nat):sgn false n=(n:Int):=rfl
theorem zI8(b:Bool):sgn b 0=0:=by cases b<;>rfl
theorem zBR(b:Bool)(n:Nat):(sgn b n).natAbs=n:=by cases b<;>simp[sgn]
abbrev LL:=List (List Int)
abbrev qI:=@Nat.pow_succ
abbrev zAU:=@Nat.mul_add
abbrev zED:=@Nat.add_assoc
abbrev zC:=@Nat.mul_assoc
abbrev zN:=@Nat.mul_comm
abbrev zG:=@Nat.lt_or_ge
abbrev zAd:=@List.getElem_mem
abbrev zH:=@Nat.mul_le_mul_left
abbrev qE:=@List.eq_nil_of_length_eq_zero
abbrev zJ:=@Nat.lt_of_lt_of_le
abbrev qR:=@Nat.pow_pos
abbrev zQ:=@Nat.pow_le_pow_right
abbrev qF:=@List.length_take
abbrev zBN:=@Nat.min_eq_left
abbrev jK:=@List.take_of_length_le
abbrev zAA:=@Nat.div_add_mod
abbrev zZ:=@Nat.add_mul
abbrev zCp:=@Nat.add_comm
abbrev yS:=@Int.natCast_mul
abbrev zBi:=@Int.toNat_natCast
abbrev zCM:=@Array.ext
abbrev zCA:=@Go.Proofs.Tryz.underlying41
abbrev zK:=@Nat.lt_of_le_of_lt
abbrev yU:=@Go.World.block_lt_of_cell?
abbrev zA:=@Go.RowKit.Below.refl
abbrev yF:=@Go.RowKit.Below.heap_setCell
abbrev zC3:=@Go.Proofs.Tryz.underlying43
abbrev zI:=@Go.Lib.hid
abbrev yH:=@Nat.mod_lt
abbrev qP:=@List.drop_eq_nil_of_le
abbrev qU:=@Go.IntWalk.i64_in
abbrev yK:=@Nat.lt_trichotomy
abbrev yN:=@Go.Calls.quiet_of_same
abbrev zAH:=@Go.World.drewN_drewN
abbrev jG:=@List.drop_eq_getElem_cons
abbrev zAQ:=@Nat.lt_or_gt_of_ne
abbrev zAm:=@Go.IntKind.wrap_u64
abbrev zA8:=@Go.IntKind.wrap_u32
abbrev yD:=@Nat.pow_add
abbrev qO:=@Nat.mul_le_mul
abbrev jQ:=@Int.eq_ofNat_of_zero_le
abbrev zCq:=@Go.Sem.run_bind
abbrev zAL:=@Go.Addr.add_lit
abbrev zR:=@Int.natAbs_neg
abbrev yA:=@Int.neg_mul
abbrev zC6:=@Int.mul_neg
abbrev zAg:=@Int.lt_trichotomy
abbrev zX:=@Int.zero_mul
abbrev jX:=@Int.one_mul
abbrev zCI:=@Nat.div_lt_iff_lt_mul
abbrev zM:=@Nat.mul_le_mul_right
abbrev zDJ:=@Go.Proofs.Tryz.underlying3
abbrev zBu:=@Go.Proofs.Tryz.underlying5
abbrev zCU:=@Nat.mul_lt_mul_right
abbrev zBD:=@List.set_append_right
abbrev jW:=@Nat.sub_self
abbrev qS:=@Nat.add_sub_cancel_left
abbrev zBs:=@Nat.le_add_right
abbrev zAp:=@Nat.le_of_lt
abbrev zB:=@Nat.le_trans
abbrev zAa:=@Nat.add_zero
abbrev zAs:=@Nat.one_mul
abbrev qN:=@Nat.eq_zero_or_pos
abbrev qQ:=@Nat.le_mul_of_pos_left
abbrev zAN:=@Int.natCast_add
abbrev zA3:=@Nat.le_of_eq
abbrev zBO:=@Nat.zero_mul
abbrev jM:=@List.length_append
abbrev zBX:=@List.length_drop
abbrev zAY:=@List.take_append_of_le_length
abbrev zCJ:=@Nat.mul_zero
abbrev zA0:=@List.append_nil
abbrev zAh:=@List.append_assoc
abbrev zDq:=@List.take_take
abbrev zO:=@Nat.le_mul_of_pos_right
abbrev zDY:=@Nat.div_le_self
abbrev zBh:=@Int.tmod_eq_emod_of_nonneg
abbrev zAR:=@Nat.zero_add
abbrev zEW:=@Nat.pow_zero
abbrev zAr:=@Nat.mul_one
abbrev jI:=@List.take_zero
abbrev qH:=@Int.mul_comm
abbrev zA2:=@Int.add_mul
abbrev zBf:=@List.nil_append
abbrev zA4:=@Array.toList_setIfInBounds
abbrev zW:=@Option.some.inj
abbrev zA7:=@Array.any_toList
abbrev zAo:=@List.any_eq_true
abbrev zCR:=@Bool.and_eq_true
abbrev zCS:=@List.count_replicate
abbrev qT:=@List.ext_getElem
abbrev zL:=@Classical.byContradiction
abbrev zBZ:=@Array.ext_getElem?
abbrev qM:=@List.mem_cons_of_mem
abbrev zE:=@Nat.zero_le
abbrev jP:=@List.all_eq_true
abbrev yT:=@List.nodup_append
abbrev zAO:=@List.mem_append_left
abbrev zBC:=@List.mem_append_right
abbrev qD:=@Ne.symm
abbrev zCG:=@Bool.not_not
abbrev zDz:=@Int.sub_mul
abbrev zCb:=@Int.mul_add
abbrev qK:=@Int.mul_assoc
abbrev zDI:=@Int.neg_mul_comm
abbrev zAn:=@Int.natAbs_natCast
abbrev qV:=@Int.natAbs_mul
abbrev zAy:=@Int.emod_nonneg
abbrev jD:=@List.take_add_one
abbrev jA:=@List.take_length
abbrev zCC:=@Go.World.ownsRow_nil
abbrev zCB:=@Go.Proofs.Tryz.underlying46
abbrev zCi:=@List.range_succ
abbrev zBe:=@List.map_append
abbrev qW:=@List.getElem_of_mem
abbrev zC2:=@Go.Proofs.Tryz.underlying32
abbrev zAx:=@Go.Proofs.Tryz.underlying30
abbrev zA1:=@List.map_congr_left
abbrev zBB:=@List.getElem_set_self
abbrev zBV:=@List.getElem_set_ne
abbrev yZ:=@List.getElem_inj
abbrev zAT:=@Int.mul_one
abbrev zP:=@Int.mul_zero
abbrev yY:=@Int.add_zero
abbrev zBF:=@Go.Proofs.Tryz.underlying210
abbrev zAV:=@Iff.rfl
abbrev zAq:=@Nat.lt_succ_self
abbrev zAJ:=@Option.bind_eq_some_iff
abbrev jU:=@Int.mul_left_comm
abbrev jV:=@Int.zero_add
abbrev zEC:=@Int.dvd_trans
abbrev zBr:=@Int.dvd_zero
abbrev zAM:=@Int.dvd_refl
abbrev yC:=@Nat.mul_pos
abbrev zAP:=@List.mem_cons_self
abbrev zAz:=@Int.neg_one_mul
abbrev zDK:=@Go.World.ownsRow.lt
abbrev zBp:=@Int.neg_neg
abbrev zDE:=@Nat.le_of_dvd
abbrev zBE:=@Go.Proofs.Tryz.underlying193
abbrev zBm:=@Int.natAbs_ediv_le_natAbs
abbrev zBW:=@Int.gcd_dvd_left
abbrev zCe:=@List.take_succ_cons
abbrev zBb:=@Go.Proofs.Tryz.underlying163
abbrev zCu:=@List.take_left
abbrev zDa:=@Nat.ne_of_lt
abbrev zC1:=@List.getElem_take
abbrev zAc:=@Nat.exists_eq_add_of_le
abbrev zAl:=@Int.mul_ediv_add_emod
abbrev zBA:=@Int.emod_lt_of_pos
abbrev zCg:=@Int.ediv_nonneg
abbrev zBM:=@Nat.le_self_pow
abbrev zCn:=@Int.le_total
abbrev zDH:=@Int.ediv_le_self
abbrev zA9:=@Int.ediv_nonpos_of_nonpos_of_neg
abbrev zB5:=@Int.le_ediv_iff_mul_le
abbrev zBT:=@Int.mul_le_mul_of_nonpos_left
abbrev jO:=@Nat.pow_mul
abbrev yV:=@Nat.pow_le_pow_left
abbrev zBa:=@Int.le_of_lt
abbrev zAE:=@Option.bind_some
abbrev zDr:=@Nat.add_le_add
abbrev zDZ:=@Nat.min_le_left
abbrev zBv:=@Int.gcd_eq_zero_iff
abbrev zB9:=@Int.gcd_dvd_right
abbrev zAW:=@Int.eq_of_mul_eq_mul_left
abbrev zAD:=@Nat.le_of_not_lt
abbrev yL:=@List.mem_range
abbrev zAb:=@Array.getD_eq_getD_getElem?
abbrev zCT:=@Nat.lt_of_not_le
abbrev zCH:=@List.length_filter_le
abbrev zDG:=@Int.dvd_antisymm
abbrev yM:=@Int.mul_le_mul_of_nonneg_right
abbrev zAX:=@Int.mul_le_mul_of_nonneg_left
abbrev zDD:=@Int.le_of_dvd
abbrev zCo:=@Int.lt_or_le
abbrev zAw:=@Int.mul_nonpos_of_nonneg_of_nonpos
abbrev zDy:=@Int.le_refl
abbrev zCh:=@Int.natCast_pow
abbrev zBL:=@Int.mul_ediv_cancel_left
abbrev zB1:=@Nat.le_antisymm
abbrev zC4:=@Go.Proofs.Tryz.underlying57
abbrev xga:=@List.getElem?_eq_getElem
abbrev xgb:=@List.getD_eq_getElem?_getD
abbrev xgc:=@Array.getElem?_setIfInBounds_ne
abbrev xgd:=@List.mem_of_getElem?
abbrev xge:=@List.getElem?_eq_some_iff
abbrev xgf:=@Nat.le_refl
abbrev xgg:=@exists_eq_left
abbrev xgh:=@List.setIfInBounds_toArray
abbrev xgi:=@List.set_cons_zero
abbrev xgj:=@List.set_cons_succ
abbrev xgk:=@List.drop_zero
abbrev xgl:=@List.drop_succ_cons
abbrev xgm:=@List.forall_mem_cons
abbrev xgn:=@List.forall_mem_nil
theorem mm0{α:Type _}{x:α}{l:List α}:x∈x::l:=.head _
theorem mm1{α:Type _}{a0 x:α}{l:List α}:x∈a0::x::l:=.tail _ mm0
abbrev mm2:=fun{α:Type}{a b x:α}{l:List α}=>List.Mem.tail a (@mm1 α b x l)
abbrev mm3:=fun{α:Type}{a b c x:α}{l:List α}=>List.Mem.tail a (@mm2 α b c x l)
abbrev mm4:=fun{α:Type}{a b c d x:α}{l:List α}=>List.Mem.tail a (@mm3 α b c d x l)
abbrev mm5:=fun{α:Type}{a b c d e x:α}{l:List α}=>List.Mem.tail a (@mm4 α b c d e x l)
abbrev mm6:=fun{α:Type}{a b c d e f x:α}{l:List α}=>List.Mem.tail a (@mm5 α b c d e f x l)
abbrev mm7:=fun{α:Type}{a b c d e f g x:α}{l:List α}=>List.Mem.tail a (@mm6 α b c d e f g x l)
abbrev mm8:=fun{α:Type}{a b c d e f g h x:α}{l:List α}=>List.Mem.tail a (@mm7 α b c d e f g h x l)
abbrev mm9:=fun{α:Type}{a b c d e f g h i x:α}{l:List α}=>List.Mem.tail a (@mm8 α b c d e f g h i x l)
abbrev zLl:=fun{α:Type}{a b c d e f g h i j x:α}{l:List α}=>List.Mem.tail a (@mm9 α b c d e f g h i j x l)
abbrev zKu:=fun{α:Type}{a b c d e f g h i j k x:α}{l:List α}=>List.Mem.tail a (@zLl α b c d e f g h i j k x l)
abbrev zL8:=fun{α:Type}{a b c d e f g h i j k L x:α}{l:List α}=>List.Mem.tail a (@zKu α b c d e f g h i j k L x l)
abbrev zOL:=fun{α:Type}{a b c d e f g h i j k L m x:α}{l:List α}=>List.Mem.tail a (@zL8 α b c d e f g h i j k L m x l)
abbrev zOM:=fun{α:Type}{a b c d e f g h i j k L m n x:α}{l:List α}=>List.Mem.tail a (@zOL α b c d e f g h i j k L m n x l)
abbrev zNZ:=fun{α:Type}{a b c d e f g h i j k L m n o x:α}{l:List α}=>List.Mem.tail a (@zOM α b c d e f g h i j k L m n o x l)
abbrev zQg:=fun{α:Type}{a b c d e f g h i j k L m n o p x:α}{l:List α}=>List.Mem.tail a (@zNZ α b c d e f g h i j k L m n o p x l)
abbrev zQh:=fun{α:Type}{a b c d e f g h i j k L m n o p q x:α}{l:List α}=>List.Mem.tail a (@zQg α b c d e f g h i j k L m n o p q x l)
abbrev zQi:=fun{α:Type}{a b c d e f g h i j k L m n o p q r x:α}{l:List α}=>List.Mem.tail a (@zQh α b c d e f g h i j k L m n o p q r x l)
abbrev zQj:=fun{α:Type}{a b c d e f g h i j k L m n o p q r s x:α}{l:List α}=>List.Mem.tail a (@zQi α b c d e f g h i j k L m n o p q r s x l)
abbrev zQk:=fun{α:Type}{a b c d e f g h i j k L m n o p q r s t x:α}{l:List α}=>List.Mem.tail a (@zQj α b c d e f g h i j k L m n o p q r s t x l)
abbrev zQl:=fun{α:Type}{a b c d e f g h i j k L m n o p q r s t u x:α}{l:List α}=>List.Mem.tail a (@zQk α b c d e f g h i j k L m n o p q r s t u x l)
abbrev zQm:=fun{α:Type}{a b c d e f g h i j k L m n o p q r s t u v x:α}{l:List α}=>List.Mem.tail a (@zQl α b c d e f g h i j k L m n o p q r s t u v x l)
abbrev zQn:=fun{α:Type}{a b c d e f g h i j k L m n o p q r s t u v w x:α}{l:List α}=>List.Mem.tail a (@zQm α b c d e f g h i j k L m n o p q r s t u v w x l)
abbrev zQo:=fun{α:Type}{a b c d e f g h i j k L m n o p q r s t u v w X x:α}{l:List α}=>List.Mem.tail a (@zQn α b c d e f g h i j k L m n o p q r s t u v w X x l)
abbrev zRX:=fun{α:Type}{a b c d e f g h i j k L m n o p q r s t u v w X y x:α}{l:List α}=>List.Mem.tail a (@zQo α b c d e f g h i j k L m n o p q r s t u v w X y x l)
end Go.Proofs.YtkidaebmhlijlaaGreat

namespace Go.Proofs.YtkidaebmhlijlaaGreat
open Go.RowKit
abbrev CPq:=Calls Tryz.prog
abbrev BWq(w w':World):Prop:=Below w.heap.size w w'
abbrev slq(b n k:Nat):Value:=.slice (some ⟨b,0,none⟩) n k
abbrev ptq(b o:Nat):Value:=.pointer (some ⟨b,o,none⟩)
abbrev niq(z:Int):Value:=.int .i64 z
theorem meq(h:p:=by simp[intOf];omega):p:=h
theorem oM(h:p:=by omega):p:=h
theorem sI(h:p:=by simp):p:=h
theorem kR(h:p:=by kernel_rfl):p:=h
theorem dE(h:p:=by decide):p:=h
theorem aU(h:p:=by repeat' (first|refine xgm.2 ⟨?_,?_⟩|exact xgn _|(dsimp only;omega))):p:=h
abbrev tU:TypeId:=113
def LIM:Nat:=1099511627776
theorem zC0:LIM=1099511627776:=rfl
def zBw(w w':World):Prop:=∀(b:Nat) (cs:Array Value) (fz:Nat × Nat),w.heap[b]?=some (.cells cs tU fz)->w'.heap[b]?=some (.cells cs tU fz)
theorem zBw.refl(w:World):zBw w w:=fun _ _ _ h=>h
theorem zBw.trans{a b c:World}(h:zBw a b)(k:zBw b c):zBw a c:=fun _ _ _ hh=>k _ _ _ (h _ _ _ hh)
theorem zBw.below(h:Below B w w')(hB:w.heap.size<=B):zBw w w':=fun b cs fz hh=>by
 have hl:b<w.heap.size:=by
  rcases zG b w.heap.size with h1|h1
  exact h1;rw[Array.getElem?_eq_none h1]at hh;cases hh
 rw[h.block b (by omega)];exact hh
def yB(w:World)(ao:Option Addr)(xs:List Nat):Prop:=
 zA6 xs/\(xs≠ []->∃b off cs fz,ao=some ⟨b,off,none⟩/\w.heap[b]?=some (.cells cs tU fz)/\∀k x,xs[k]?=some x->cs[off+k]?=some (.int .u32 (x:Nat)))
theorem yB.nil(w:World)(ao:Option Addr):yB w ao []:=⟨zA6.nil,fun h=>absurd rfl h⟩
theorem yB.ext(h:yB w ao xs)(e:zBw w w'):yB w' ao xs:=
 ⟨h.1,fun hne=>by
  obtain⟨b,off,cs,fz,h1,h2,h3⟩:=h.2 hne;exact⟨b,off,cs,fz,h1,e _ _ _ h2,h3⟩⟩
theorem yB.cell(h:yB w ao xs)(hk:k<xs.length):
  ∃b off,ao=some ⟨b,off,none⟩/\b<w.heap.size/\w.cell? ⟨b,off+k,none⟩=some (.int .u32 (xs.getD k 0:Nat)):=by
 obtain⟨b,off,cs,fz,h1,h2,h3⟩:=h.2 (by rintro rfl;simp at hk);refine⟨b,off,h1,?_,?_⟩;exact(Array.getElem?_eq_some_iff.1 h2).1;rw[cell_of_row w b (off+k) cs tU fz h2,h3 k (xs.getD k 0) (by simp[xgb,xga hk])]
theorem yB.limb(h:yB w ao xs)(hk:k<xs.length):
  ∃b off x,ao=some ⟨b,off,none⟩/\b<w.heap.size/\x<4294967296/\Hid (xs.getD k 0=x)/\w.cell? ⟨b,off+k,none⟩=some (.int .u32 (x:Nat)):=by
 obtain⟨b,off,h1,h2,h3⟩:=h.cell hk;exact⟨b,off,_,h1,h2,h.1.get k,rfl,h3⟩
theorem yB.cells(h:yB w ao xs)(hk:0<xs.length):
  ∃b off,ao=some ⟨b,off,none⟩/\b<w.heap.size/\∀k,k<xs.length->w.cell? ⟨b,off+k,none⟩=some (.int .u32 (xs.getD k 0:Nat)):=by
 obtain⟨b,off,h1,hb,h2⟩:=h.cell hk;refine⟨b,off,h1,hb,fun k hk=>?_⟩;obtain⟨b',off',h1',_,h2'⟩:=h.cell hk;rw[h1]at h1';injection h1' with h1'
 injection h1' with e1 e2
 subst e1;subst e2;exact h2'
theorem yB.take(h:yB w ao xs)(n:Nat):yB w ao (xs.take n):=
 ⟨h.1.take n,fun hne=>by
  obtain⟨b,off,cs,fz,h1,h2,h3⟩:=h.2 (by rintro rfl;simp at hne);refine⟨b,off,cs,fz,h1,h2,fun k x hk=>h3 k x ?_⟩;rw[List.getElem?_take]at hk;split at hk;exact hk;cases hk⟩
def zDj(xs:List Nat):Array Value:=(xs.map fun n=>Value.int .u32 (n:Nat)).toArray
def zCz(w:World)(b:Nat)(xs:List Nat):Prop:=w.heap[b]?=some (.cells (zDj xs) tU (0,0))
theorem zCz.lt(h:zCz w b xs):b<w.heap.size:=(Array.getElem?_eq_some_iff.1 h).1
theorem zCz.cell(h:zCz w b xs)(hk:k<xs.length):w.cell? ⟨b,k,none⟩=some (.int .u32 (xs.getD k 0:Nat)):=by
 rw[cell_of_row w b k _ tU _ h];simp[zDj,xga hk,xgb]
theorem zCz.frozen(h:zCz w b xs)(k:Nat):w.frozen? ⟨b,k,none⟩=false:=frozen_of_row w b k _ _ h
theorem zCz.set(h:zCz w b xs)(k n:Nat):zCz (w.setCell ⟨b,k,none⟩ (.int .u32 (n:Nat))) b (xs.set k n):=by
 unfold zCz at h ⊢
 rw[heap_setCell_same w b k _ tU _ h];simp[zDj,List.map_set]
theorem zCz.set'(h:zCz w b xs)(k:Nat)(m:Int)(n:Nat)(hm:m=n):zCz (w.setCell ⟨b,k,none⟩ (.int .u32 m)) b (xs.set k n):=by
 subst hm;exact h.set k n
theorem zCz.ext(h:zCz w b xs)(e:zBw w w'):zCz w' b xs:=e _ _ _ h
theorem zCz.alloc(h:zCz w b xs)(o:Obj):zCz (w.alloc o) b xs:=(heap_alloc_old w o h.lt).trans h
theorem zCz.at_(h:zCz w b xs)(hx:zA6 xs):yB w (some ⟨b,0,none⟩) xs:=
 ⟨hx,fun _=>⟨b,0,_,_,rfl,h,fun k x hk=>by simp[zDj,hk]⟩⟩
theorem Tryz.infoU:(Tryz.prog.info? tU).map (fun i=>(i.zero,i.size,i.bytes))=some (some (.int .u32 0),1,4):=by kernel_rfl
theorem zCW{P:Program}(t e:TypeId)(i:TypeInfo)(z:Value)(ht:P.underlying t=some (.slice e))(hi:P.info? e=some i)(hz:i.zero=some z)
  (kl kc:IntKind) (n c:Nat) (hnc:n<=c) (hbytes:i.bytes*c<=281474976710656) (h63:c<=9223372036854775807) (w:World):
  (Instr.makeSlice t (.int kl (n:Int)) (.int kc (c:Int))).run P w= .ok (.slice (some ⟨w.heap.size,0,none⟩) n c) (w.alloc (.cells (madeCells z.cells (c*i.size)) e)):=by
 have hb:(i.bytes:Int)*(c:Int)<=281474976710656:=by
  have h:((i.bytes*c:Nat):Int)<=281474976710656:=by omega
  rwa[yS]at h
 have hr:=run_make (P:=P) w t e i z ht hi hz kl kc n c (by omega) (by omega) hb (by omega);simp only[Int.toNat_natCast]at hr;exact hr
theorem zZa(n:Nat):madeCells (Value.int .u32 0).cells (n*1)=zDj (List.replicate n 0):=by
 apply zCM;simp[madeCells,zDj];intro i h1 h2;simp[madeCells,zDj,Nat.mod_one,Value.cells]
theorem mkU(m:Int)(n:Nat)(hm:m=n)(h:n<=70368744177664)(W:World):
  (Instr.makeSlice 41 (.int .i64 m) (.int .i64 m)).run Tryz.prog W= .ok (.slice (some ⟨W.heap.size,0,none⟩) n n) (W.alloc (.cells (zDj (List.replicate n 0)) tU)):=by
 subst hm;obtain⟨i0,hi,hz0,hz1,hz2⟩:=info_parts Tryz.infoU;have:=zCW (P:=Tryz.prog) 41 tU i0 _ zCA hi hz0 .i64 .i64 n n (xgf _) (by rw[hz2];omega) (by omega) W;rw[this,hz1,zZa]
theorem zCz.made(w:World)(xs:List Nat):zCz (w.alloc (.cells (zDj xs) tU)) w.heap.size xs:=heap_alloc_new w _
def zIp(w:World)(v:Value)(z:Int):Prop:=
 ∃neg ao n cap xs,v= .agg #[.bool neg,.slice ao n cap]/\xs.length=n/\n<=cap/\cap<=9223372036854775807/\yB w ao xs/\zBK xs/\z=sgn neg (nat xs)
def jY(w:World)(v:Value)(z:Int):Prop:=
 ∃neg ao n cap xs,v= .agg #[.bool neg,.slice ao n cap]/\xs.length=n/\n<=cap/\cap<=9223372036854775807/\yB w ao xs/\zBK xs/\z=sgn neg (nat xs)/\(n=0->neg=false)
theorem jY.weak(h:jY w v z):zIp w v z:=by
 obtain⟨neg,ao,n,cap,xs,h1,h2,h3,h4,h5,h6,h7,_⟩:=h;exact⟨neg,ao,n,cap,xs,h1,h2,h3,h4,h5,h6,h7⟩
theorem zIp.ext(h:zIp w v z)(e:zBw w w'):zIp w' v z:=by
 obtain⟨neg,ao,n,cap,xs,h1,h2,h3,h4,h5,h6⟩:=h;exact⟨neg,ao,n,cap,xs,h1,h2,h3,h4,h5.ext e,h6⟩
theorem jY.ext(h:jY w v z)(e:zBw w w'):jY w' v z:=by
 obtain⟨neg,ao,n,cap,xs,h1,h2,h3,h4,h5,h6⟩:=h;exact⟨neg,ao,n,cap,xs,h1,h2,h3,h4,h5.ext e,h6⟩
def Sm(z:Int):Prop:=z.natAbs<B32^LIM
theorem Sm.len{neg:Bool}(h:Sm (sgn neg (nat xs)))(hn:zBK xs):xs.length<=LIM:=by
 unfold Sm at h;rw[zBR]at h;cases hx:xs.length with
 |zero=>omega
 |succ n=>
  have h1:=zMt hn hx;rcases zG n LIM with h2|h2
  omega;have:=zGf h2;omega
theorem Sm.mono{y:Int}(h:Sm z)(hy:y.natAbs<=z.natAbs):Sm y:=zK hy h
def zDp(w:World)(z:Int)(e:Ending)(w':World):Prop:=∃v,e= .returned v/\jY w' v z/\Below w.heap.size w w'
def zIx(w:World)(n:Nat)(e:Ending)(w':World):Prop:=
 ∃ao len cap xs,e= .returned (.slice ao len cap)/\xs.length=len/\len<=cap/\cap<=9223372036854775807/\yB w' ao xs/\nat xs=n/\Below w.heap.size w w'
theorem zD{P:Program}{c:Code}{a:Act}(h:∀W0,Hid (W0=w)->Code.wp P c Q a W0):Code.wp P c Q a w:=h w rfl
theorem zBn{a:Addr}(h:w.cell? a=some v):w.drew.cell? a=some v:=h
theorem jL{w1:World}(h:w.cell? ⟨b,o,none⟩=some v)(hb:Below w.heap.size w w1):w1.cell? ⟨b,o,none⟩=some v:=
 (hb.cell (p:=⟨b,o,none⟩) (yU w _ h)).trans h
theorem zC9{u:Value}(h:w.cell? ⟨b,o,none⟩=some v)(hne:b≠r):(w.setCell ⟨r,i,none⟩ u).cell? ⟨b,o,none⟩=some v:=
 (World.cell?_setCell_other w _ _ u (fun e=>hne (by injection e with e1;exact e1.symm))).trans h
theorem nx{W':World}(h:Below w.heap.size w W)(hb:Below W.heap.size W W'):Below w.heap.size w W':=h.trans (hb.mono h.size)
theorem lx(h:Below w.heap.size w W):zBw w W:=zBw.below h (xgf _)
theorem dr(w:World):Below w.heap.size w w.drew:=(zA _ _).drew
theorem drN(w:World)(n:Nat):Below w.heap.size w (w.drewN n):=⟨rfl,rfl,rfl,xgf _,fun _ _=>rfl⟩
def Blk(w:World)(g:Nat)(t:TypeId)(cs:Array Value):Prop:=w.heap[g]?=some (.cells cs t (0,0))
section
variable {w w':World} {g:Nat} {t:TypeId} {cs:Array Value}
theorem Blk.lt(h:Blk w g t cs):g<w.heap.size:=(Array.getElem?_eq_some_iff.1 h).1
theorem Blk.cell(h:Blk w g t cs)(i:Nat):w.cell? ⟨g,i,none⟩=cs[i]?:=cell_of_row w g i cs t (0,0) h
theorem Blk.frozen(h:Blk w g t cs)(i:Nat):w.frozen? ⟨g,i,none⟩=false:=frozen_of_row w g i cs t h
theorem Blk.new(w:World)(t:TypeId)(cs:Array Value):Blk (w.alloc (.cells cs t)) w.heap.size t cs:=heap_alloc_new w _
abbrev qX:=@Blk.new
theorem Blk.drew(h:Blk w g t cs):Blk w.drew g t cs:=h
theorem Blk.drewN(h:Blk w g t cs)(n:Nat):Blk (w.drewN n) g t cs:=h
theorem Blk.alloc(h:Blk w g t cs)(o:Obj):Blk (w.alloc o) g t cs:=(Below.heap_alloc w o g h.lt).trans h
theorem Blk.set_(h:Blk w g t cs)(i:Nat)(u:Value):Blk (w.setCell ⟨g,i,none⟩ u) g t (cs.setIfInBounds i u):=by
 unfold Blk at h ⊢
 simp[World.setCell,Array.getElem?_modify,h]
theorem Blk.far(h:Blk w g t cs)(hp:g≠r)(i:Nat)(u:Value):Blk (w.setCell ⟨r,i,none⟩ u) g t cs:=(yF w ⟨r,i,none⟩ u g hp).trans h
theorem Blk.below(h:Blk w g t cs)(hb:Below w.heap.size w w'):Blk w' g t cs:=(hb.block g h.lt).trans h
theorem Blk.belowB(h:Blk w g t cs)(hb:Below B w w')(hg:g<B):Blk w' g t cs:=(hb.block g hg).trans h
theorem Blk.at_(e:Hid (w'=w))(h:Blk w g t cs):Blk w' g t cs:=by rw[e.out];exact h
abbrev zAk:=@Blk.at_
theorem Blk.lext(h:Blk w g t cs)(hne:t≠tU)(i:Nat)(u:Value):zBw w (w.setCell ⟨g,i,none⟩ u):=fun b c fz hb=>by
 have hg:b≠g:=by
  rintro rfl;unfold Blk at h;rw[h]at hb;injection hb with hb
  injection hb with _ ht
  exact hne ht
 exact(yF w ⟨g,i,none⟩ u b hg).trans hb
theorem yJ{a:World}(h:Below B a w)(hp:B<=g)(i:Nat)(u:Value):Below B a (w.setCell ⟨g,i,none⟩ u):=h.setCell (p:=⟨g,i,none⟩) hp u
theorem Blk.two(h:Blk w g t #[c0,c1]):w.cell? ⟨g,0,none⟩=some c0/\w.cell? ⟨g,1,none⟩=some c1/\w.frozen? ⟨g,0,none⟩=false/\w.frozen? ⟨g,1,none⟩=false:=
 ⟨h.cell 0,h.cell 1,h.frozen 0,h.frozen 1⟩
theorem Blk.three{c2:Value}(h:Blk w g t #[c0,c1,c2]):w.cell? ⟨g,0,none⟩=some c0/\w.cell? ⟨g,1,none⟩=some c1/\w.cell? ⟨g,2,none⟩=some c2∧
  w.frozen? ⟨g,0,none⟩=false/\w.frozen? ⟨g,1,none⟩=false/\w.frozen? ⟨g,2,none⟩=false:=
 ⟨h.cell 0,h.cell 1,h.cell 2,h.frozen 0,h.frozen 1,h.frozen 2⟩
end
theorem Blk.put2(h:Blk w r T #[c0,c1])(x y:Value):Blk ((w.setCell ⟨r,0,none⟩ x).setCell ⟨r,1,none⟩ y) r T #[x,y]:=by
 simpa using(h.set_ 0 x).set_ 1 y
theorem Blk.lext2{cs:Array Value}(h:Blk w r T cs)(hne:T≠tU)(x y:Value):zBw w ((w.setCell ⟨r,0,none⟩ x).setCell ⟨r,1,none⟩ y):=
 (h.lext hne 0 _).trans ((h.set_ 0 _).lext hne 1 _)
theorem Tryz.sizeI:(Tryz.prog.info? 43).map (·.size)=some 2:=by kernel_rfl
abbrev zFP:=@Tryz.sizeI
theorem jH{fn:Func}{a:Act}{w W:World}{z:Int}{r:Nat}{v:Array Value}{p:Tmp}(h:fn.results=#[.cell p 43])(hd:a.defers= [])
  (hp:a.tmps.getD p undef= .pointer (some ⟨r,0,none⟩)) (hb:Blk W r 43 v) (hv:jY W (.agg v) z) (hbel:Below w.heap.size w W):bodyPost Tryz.prog fn (zDp w z) .ret a W:=by
 obtain⟨neg,ao,n,cap,xs,h1,h2⟩:=hv;injection h1 with h1
 subst h1;exact bodyPost_ret (results_cell_row h _ W r _ _ _ _ hp hb zC3 rfl (by rw[zFP];rfl)) hd ⟨_,rfl,⟨neg,ao,n,cap,xs,rfl,h2⟩,hbel⟩
section
variable {w W0:World} {T1 T2 T3 T4 T5:TypeId} {A B C D E:Array Value}
theorem qL(h:Hid (W0=w.alloc (.cells A T1))):Below w.heap.size w W0/\Blk W0 w.heap.size T1 A/\w.heap.size<W0.heap.size:=by
 rw[h.out];exact⟨(zA _ _).alloc (xgf _) _,qX _ _ _,by simp⟩
theorem zAj(h:Hid (W0=(w.alloc (.cells A T1)).alloc (.cells B T2))):Below w.heap.size w W0/\Blk W0 w.heap.size T1 A/\Blk W0 (w.heap.size+1) T2 B/\w.heap.size+1<W0.heap.size:=by
 obtain⟨h1,h2,h3⟩:=qL (w:=w.alloc (.cells A T1)) (W0:=W0) (A:=B) (T1:=T2) h;obtain⟨k1,k2,k3⟩:=qL (w:=w) (W0:=w.alloc (.cells A T1)) (A:=A) (T1:=T1) rfl;simp only[World.size_alloc]at h2 h3;exact⟨nx k1 h1,k2.below h1,h2,h3⟩
theorem zBk(h:Hid (W0=((w.alloc (.cells A T1)).alloc (.cells B T2)).alloc (.cells C T3))):
  Below w.heap.size w W0/\Blk W0 w.heap.size T1 A/\Blk W0 (w.heap.size+1) T2 B/\Blk W0 (w.heap.size+1+1) T3 C/\w.heap.size+1+1<W0.heap.size:=by
 obtain⟨h1,h2,h3⟩:=qL (w:=(w.alloc (.cells A T1)).alloc (.cells B T2)) (W0:=W0) h;obtain⟨k1,k2,k3,k4⟩:=zAj (w:=w) (W0:=(w.alloc (.cells A T1)).alloc (.cells B T2)) rfl;simp only[World.size_alloc]at h2 h3;exact⟨nx k1 h1,k2.below h1,k3.below h1,h2,h3⟩
theorem zNW(h:Hid (W0=(((w.alloc (.cells A T1)).alloc (.cells B T2)).alloc (.cells C T3)).alloc (.cells D T4))):
  Below w.heap.size w W0/\Blk W0 w.heap.size T1 A/\Blk W0 (w.heap.size+1) T2 B/\Blk W0 (w.heap.size+1+1) T3 C/\Blk W0 (w.heap.size+1+1+1) T4 D/\w.heap.size+1+1+1<W0.heap.size:=by
 obtain⟨h1,h2,h3⟩:=qL (w:=((w.alloc (.cells A T1)).alloc (.cells B T2)).alloc (.cells C T3)) (W0:=W0) h;obtain⟨k1,k2,k3,k4,k5⟩:=zBk (w:=w) (W0:=((w.alloc (.cells A T1)).alloc (.cells B T2)).alloc (.cells C T3)) rfl;simp only[World.size_alloc]at h2 h3;exact⟨nx k1 h1,k2.below h1,k3.below h1,k4.below h1,h2,h3⟩
theorem zY2(h:Hid (W0=((((w.alloc (.cells A T1)).alloc (.cells B T2)).alloc (.cells C T3)).alloc (.cells D T4)).alloc (.cells E T5))):
  Below w.heap.size w W0/\Blk W0 w.heap.size T1 A/\Blk W0 (w.heap.size+1) T2 B/\Blk W0 (w.heap.size+1+1) T3 C/\Blk W0 (w.heap.size+1+1+1) T4 D/\Blk W0 (w.heap.size+1+1+1+1) T5 E/\w.heap.size+1+1+1+1<W0.heap.size:=by
 obtain⟨h1,h2,h3⟩:=qL (w:=(((w.alloc (.cells A T1)).alloc (.cells B T2)).alloc (.cells C T3)).alloc (.cells D T4)) (W0:=W0) h;obtain⟨k1,k2,k3,k4,k5,k6⟩:=zNW (w:=w) (W0:=(((w.alloc (.cells A T1)).alloc (.cells B T2)).alloc (.cells C T3)).alloc (.cells D T4)) rfl;simp only[World.size_alloc]at h2 h3;exact⟨nx k1 h1,k2.below h1,k3.below h1,k4.below h1,k5.below h1,h2,h3⟩
end
theorem zCy(ao:Option Addr)(n cap:Nat)(xs:List Nat)(w:World)(hn:xs.length=n)(hl:n<=cap)(hcap:cap<=9223372036854775807)(hx:yB w ao xs):
  CPq 120 #[.slice ao n cap] w fun e w'=>
   e= .returned (.slice ao (zBH xs n) (zBH xs n))/\w=w':=by
 have HN:=zI hn;have hle:=zEh xs n;have hlen:xs.length<=n:=oM;have hlen':n<=xs.length:=oM;clear hn;go_enter Tryz.func120,Tryz.ntmps120;go_wp2;go_step3;go_wp2;go_step3;go_wp2;go_loop [3] (fun v=>∃k:Nat,k<=n/\v=niq k/\Hid (zBH xs k=zBH xs n)) (fun v=>(intOf v).toNat)
 case atStart=>exact⟨n,xgf _,rfl,rfl⟩
 obtain⟨k,hk,rfl,ht⟩:=hrel;cases k with
 |zero=>
  have e:zBH xs n=0:=ht.out.symm;go_wp2;go_ret;exact⟨by simp[e],rfl⟩
 | succ k=>
  obtain⟨b,off,x,rfl,_,hx32,HX,hck⟩:=hx.limb (k:=k) oM;by_cases hz:x=0
  ·have ht':Hid (zBH xs k=zBH xs n):=by
    have:=ht.out;rw[show zBH xs (k+1)=if xs.getD k 0=0 then zBH xs k else k+1 from rfl,if_pos (HX.out.trans hz)]at this;exact this
   subst hz;clear ht;go_wp2;go_round
   case rel=>exact⟨k,oM,by go_num,ht'⟩
   case measure=>simp[intOf]
  have ht':Hid (zBH xs n=k+1):=by
   have:=ht.out;rw[show zBH xs (k+1)=if xs.getD k 0=0 then zBH xs k else k+1 from rfl,if_neg (by rw[HX.out];exact hz)]at this;exact this.symm
  have hzz:((x:Int)==0)=false:=by simpa using hz
  clear hz ht;go_wp2;go_ret;exact⟨by simp[ht'.out],rfl⟩
theorem zPb(ao1 ao2:Option Addr)(n1 cap1 n2 cap2:Nat)(xs ys:List Nat)(w:World)(hn1:xs.length=n1)(hn2:ys.length=n2)(hl1:n1<=cap1)(hl2:n2<=cap2)
  (hc1:cap1<=9223372036854775807) (hc2:cap2<=9223372036854775807) (hb1:n1<=4*LIM) (hb2:n2<=4*LIM) (hx1:yB w ao1 xs) (hx2:yB w ao2 ys):
  CPq 180 #[.slice ao1 n1 cap1,.slice ao2 n2 cap2] w (zIx w (nat xs+nat ys)):=by
 have HN1:=zI hn1;have HN2:=zI hn2;have hlen1:xs.length<=n1:=oM;have hlen1':n1<=xs.length:=oM;have hlen2:ys.length<=n2:=oM;have hlen2':n2<=ys.length:=oM;clear hn1 hn2;rw[zC0]at hb1 hb2;by_cases hlt:n1<n2
 case pos=>
  have hle:n1<=n2:=oM;have hmk:=fun W=>mkU ((n2:Int)+1) (n2+1) oM oM W
  go_enter Tryz.func180,Tryz.ntmps180;go_wp2;clear hmk;go_loopw [6,21] (fun c i wr=>∃(k d:Nat) (zs:List Nat),k<=n2/\i=niq k/\c= .int .u64 d/\d<=1/\zCz wr w.heap.size zs/\BWq w wr/\n2<zs.length∧
    Hid (zs.length=n2+1/\zA6 zs/\nat (zs.take k)+d*B32^k=nat (ys.take k)+nat (xs.take k))) (fun _ i _=>n2-(intOf i).toNat)
  case atStart=>exact⟨0,0,List.replicate (n2+1) 0,oM,rfl,rfl,oM,zCz.made _ _,(zA _ _).alloc (xgf _) _,by simp,⟨by simp,fun x hx=>by rw[List.eq_of_mem_replicate hx];exact zCk,by simp⟩⟩
  obtain⟨k,d,zs,hk,rfl,rfl,hd,hblk,hbel,hlz,HH⟩:=hrel;have hfr:=hblk.frozen k;by_cases hkn:k<n2
  ·obtain⟨b,off,x,rfl,hbw,hx32,HX,hck⟩:=hx2.limb (k:=k) oM
   have hck':=(hbel.cell (p:=⟨b,off+k,none⟩) hbw).trans hck;have hcz:=hblk.cell (k:=k) oM;clear hck;by_cases hk2:k<n1
   ·obtain⟨b2,off2,y,rfl,hbw2,hy32,HY,hcy⟩:=hx1.limb (k:=k) oM
    have hcy':=(hbel.cell (p:=⟨b2,off2+k,none⟩) hbw2).trans hcy;clear hcy;go_wp2;go_roundw
    case rel=>exact⟨k+1,(d+x+y)/4294967296,zs.set k ((d+x+y)%4294967296),oM,by go_num,by go_num,oM,hblk.set' _ _ _ oM,hbel.setCell (xgf _) _,by simpa using hlz,
      ⟨by simpa using HH.out.1,HH.out.2.1.set _ _ (yH _ oM),zGC HH.out.2.2 oM HX.out HY.out⟩⟩
    case measure=>exact meq
   have HY:xs.getD k 0=0:=by rw[xgb,List.getElem?_eq_none oM];rfl
   have HY':=zI HY;clear HY;go_wp2;go_roundw
   case rel=>exact⟨k+1,(d+x)/4294967296,zs.set k ((d+x)%4294967296),oM,by go_num,by go_num,oM,hblk.set' _ _ _ oM,hbel.setCell (xgf _) _,by simpa using hlz,
     ⟨by simpa using HH.out.1,HH.out.2.1.set _ _ (yH _ oM),zGC HH.out.2.2 oM HX.out HY'.out⟩⟩
   case measure=>exact meq
  obtain rfl:n2=k:=oM;have hcz:=hblk.cell (k:=n2) oM;go_wp2;go_ret;refine⟨_,_,_,zs.set n2 d,rfl,by simpa using HH.out.1,oM,oM,(hblk.set' _ _ d oM).at_ (HH.out.2.1.set _ _ (by unfold B32;omega)),?_,hbel.setCell (xgf _) _⟩;have h1:=HH.out.2.2;have h2:=zB3 zs n2 d hlz;rw[yG _ (by simp[HH.out.1]),h1,yG ys oM,yG xs oM]at h2;omega
 have hle:n2<=n1:=oM;have hmk:=fun W=>mkU ((n1:Int)+1) (n1+1) oM oM W
 go_enter Tryz.func180,Tryz.ntmps180;go_wp2;clear hmk;go_loopw [6,21] (fun c i wr=>∃(k d:Nat) (zs:List Nat),k<=n1/\i=niq k/\c= .int .u64 d/\d<=1/\zCz wr w.heap.size zs/\BWq w wr/\n1<zs.length∧
   Hid (zs.length=n1+1/\zA6 zs/\nat (zs.take k)+d*B32^k=nat (xs.take k)+nat (ys.take k))) (fun _ i _=>n1-(intOf i).toNat)
 case atStart=>exact⟨0,0,List.replicate (n1+1) 0,oM,rfl,rfl,oM,zCz.made _ _,(zA _ _).alloc (xgf _) _,by simp,⟨by simp,fun x hx=>by rw[List.eq_of_mem_replicate hx];exact zCk,by simp⟩⟩
 obtain⟨k,d,zs,hk,rfl,rfl,hd,hblk,hbel,hlz,HH⟩:=hrel;have hfr:=hblk.frozen k;by_cases hkn:k<n1
 ·obtain⟨b,off,x,rfl,hbw,hx32,HX,hck⟩:=hx1.limb (k:=k) oM
  have hck':=(hbel.cell (p:=⟨b,off+k,none⟩) hbw).trans hck;have hcz:=hblk.cell (k:=k) oM;clear hck;by_cases hk2:k<n2
  ·obtain⟨b2,off2,y,rfl,hbw2,hy32,HY,hcy⟩:=hx2.limb (k:=k) oM
   have hcy':=(hbel.cell (p:=⟨b2,off2+k,none⟩) hbw2).trans hcy;clear hcy;go_wp2;go_roundw
   case rel=>exact⟨k+1,(d+x+y)/4294967296,zs.set k ((d+x+y)%4294967296),oM,by go_num,by go_num,oM,hblk.set' _ _ _ oM,hbel.setCell (xgf _) _,by simpa using hlz,
     ⟨by simpa using HH.out.1,HH.out.2.1.set _ _ (yH _ oM),zGC HH.out.2.2 oM HX.out HY.out⟩⟩
   case measure=>exact meq
  have HY:ys.getD k 0=0:=by rw[xgb,List.getElem?_eq_none oM];rfl
  have HY':=zI HY;clear HY;go_wp2;go_roundw
  case rel=>exact⟨k+1,(d+x)/4294967296,zs.set k ((d+x)%4294967296),oM,by go_num,by go_num,oM,hblk.set' _ _ _ oM,hbel.setCell (xgf _) _,by simpa using hlz,
    ⟨by simpa using HH.out.1,HH.out.2.1.set _ _ (yH _ oM),zGC HH.out.2.2 oM HX.out HY'.out⟩⟩
  case measure=>exact meq
 obtain rfl:n1=k:=oM;have hcz:=hblk.cell (k:=n1) oM;go_wp2;go_ret;refine⟨_,_,_,zs.set n1 d,rfl,by simpa using HH.out.1,oM,oM,(hblk.set' _ _ d oM).at_ (HH.out.2.1.set _ _ (by unfold B32;omega)),?_,hbel.setCell (xgf _) _⟩;have h1:=HH.out.2.2;have h2:=zB3 zs n1 d hlz;rw[yG _ (by simp[HH.out.1]),h1,yG xs oM,yG ys oM]at h2;omega
theorem zGP(a b:Int)(w:World):
  CPq 123 #[niq a,niq b] w fun e w'=>e= .returned (niq (zAt a b))/\w=w':=by
 by_cases h1:a<b
 ·have h1':¬ b<a:=oM
  have e:zAt a b=-1:=by unfold zAt;rw[if_pos h1]
  have E:=zI e;clear e;go_enter Tryz.func123,Tryz.ntmps123;go_wp2_with (go_in)
  go_ret;exact⟨by rw[E.out];rfl,rfl⟩
 by_cases h2:b<a
 ·have e:zAt a b=1:=by unfold zAt;rw[if_neg h1,if_pos h2]
  have E:=zI e;clear e;go_enter Tryz.func123,Tryz.ntmps123;go_wp2_with (go_in)
  go_ret;exact⟨by rw[E.out];rfl,rfl⟩
 have e:zAt a b=0:=by unfold zAt;rw[if_neg h1,if_neg h2]
 have E:=zI e;clear e;go_enter Tryz.func123,Tryz.ntmps123;go_wp2_with (go_in)
 go_ret;exact⟨by rw[E.out];rfl,rfl⟩
theorem zP8(a b:Int)(w:World):
  CPq 173 #[.int .u32 a,.int .u32 b] w fun e w'=>e= .returned (niq (zAt a b))/\w=w':=by
 by_cases h1:a<b
 ·have h1':¬ b<a:=oM
  have e:zAt a b=-1:=by unfold zAt;rw[if_pos h1]
  have E:=zI e;clear e;go_enter Tryz.func173,Tryz.ntmps173;go_wp2_with (go_in)
  go_ret;exact⟨by rw[E.out];rfl,rfl⟩
 by_cases h2:b<a
 ·have e:zAt a b=1:=by unfold zAt;rw[if_neg h1,if_pos h2]
  have E:=zI e;clear e;go_enter Tryz.func173,Tryz.ntmps173;go_wp2_with (go_in)
  go_ret;exact⟨by rw[E.out];rfl,rfl⟩
 have e:zAt a b=0:=by unfold zAt;rw[if_neg h1,if_neg h2]
 have E:=zI e;clear e;go_enter Tryz.func173,Tryz.ntmps173;go_wp2_with (go_in)
 go_ret;exact⟨by rw[E.out];rfl,rfl⟩
theorem zJO(a b c:Int)(w:World)(h:zAt a b=c):
  CPq 173 #[.int .u32 a,.int .u32 b] w fun e w'=>e= .returned (niq c)/\w'=w:=
 (zP8 a b w).mono fun _ _ ⟨he,hw⟩=>⟨by rw[he,h],hw.symm⟩
theorem zBc{b:Int}(h:a<b):zAt a b=-1:=by unfold zAt;rw[if_pos h]
theorem zCK{b:Int}(h:b<a):zAt a b=1:=by unfold zAt;rw[if_neg oM,if_pos h]
theorem zCf{b:Int}(h:a=b):zAt a b=0:=by unfold zAt;rw[if_neg oM,if_neg oM]
theorem zDL(ao1 ao2:Option Addr)(n1 cap1 n2 cap2:Nat)(xs ys:List Nat)(w:World)(hn1:xs.length=n1)(hn2:ys.length=n2)(hl1:n1<=cap1)(hl2:n2<=cap2)
  (hc1:cap1<=9223372036854775807) (hc2:cap2<=9223372036854775807) (hx1:yB w ao1 xs) (hx2:yB w ao2 ys) (hN1:zBK xs) (hN2:zBK ys):
  CPq 124 #[.slice ao1 n1 cap1,.slice ao2 n2 cap2] w fun e w'=>e= .returned (niq (zAt (nat xs) (nat ys)))/\∃q,w'=w.drewN q:=by
 have HN1:=zI hn1;have HN2:=zI hn2;by_cases hne:n1=n2
 ·subst hne
  have ec:((zAt (n1:Int) (n1:Int)) !=0)=false:=by unfold zAt;simp
  have hlen1:xs.length<=n1:=oM;have hlen1':n1<=xs.length:=oM;have hlen2:ys.length<=n1:=oM;have hlen2':n1<=ys.length:=oM;clear hn1 hn2;go_enter Tryz.func124,Tryz.ntmps124;go_wp2_with (go_at_call 123;refine(zGP _ _ _).mono ?_;rintro e w' ⟨rfl,rfl⟩)
  clear ec;go_loopw [6] (fun i wr=>∃k q:Nat,k<=n1/\i=niq ((k:Int)-1)/\Hid (xs.drop k=ys.drop k)/\Hid (wr=w.drewN q)) (fun i _=>(intOf i+1).toNat)
  case atStart=>exact⟨n1,0,xgf _,rfl,by show _=_;rw[qP oM,qP oM],rfl⟩
  obtain⟨k,q,hk,rfl,HD,HW⟩:=hrel;cases k with
  | zero=>
   have e0:zAt (nat xs:Int) (nat ys:Int)=0:=by
    have:xs=ys:=by simpa using HD.out
    subst this;unfold zAt;simp
   have E:=zI e0;clear e0;go_wp2;go_ret;exact⟨by rw[E.out];rfl,_,HW.out⟩
  | succ k=>
   obtain⟨b,off,x,rfl,hbw,hx32,HX,hck⟩:=hx1.limb (k:=k) oM;obtain⟨b2,off2,y,rfl,hbw2,hy32,HY,hcy⟩:=hx2.limb (k:=k) oM;have hck':wr.cell? ⟨b,off+k,none⟩=some (.int .u32 (x:Nat)):=by rw[HW.out];exact hck
   have hcy':wr.cell? ⟨b2,off2+k,none⟩=some (.int .u32 (y:Nat)):=by rw[HW.out];exact hcy
   have ek:IntKind.i64.wrap ((k:Int)+1-1)=k:=by rw[qU _ oM];omega
   clear hck hcy;rcases yK x y with hxy|hxy|hxy
   ·have E:Hid (zAt (nat xs) (nat ys)=-1):=zBc (by have:=zO7 hx1.1 oM oM HD.out HX.out HY.out hxy;omega)
    have hcall:=fun W=>zJO x y (-1) W (zBc oM)
    go_wp2;go_quiet ((go_at_call 173;exact yN (hcall _)));go_wp2;go_ret;exact⟨by rw[E.out];rfl,_,by rw[HW.out,zAH]⟩
   ·subst hxy
    have HD':Hid (xs.drop k=ys.drop k):=by
     show _=_;rw[jG (l:=xs) (i:=k) oM,jG (l:=ys) (i:=k) oM,HD.out];have h1:=HX.out;have h2:=HY.out;rw[xgb,xga oM]at h1 h2;simp at h1 h2;rw[h1,h2]
    have hcall:=fun W=>zJO x x 0 W (zCf rfl)
    clear HD HX HY;go_wp2;go_quiet ((go_at_call 173;exact yN (hcall _)));go_wp2;go_roundw
    case rel=>exact⟨k,_,oM,by go_num,HD',by show _=_;rw[HW.out,zAH]⟩
    case measure=>simp[intOf]
   have E:Hid (zAt (nat xs) (nat ys)=1):=zCK (by have:=zO7 hx2.1 oM oM HD.out.symm HY.out HX.out hxy;omega);have hcall:=fun W=>zJO x y 1 W (zCK oM)
   go_wp2;go_quiet ((go_at_call 173;exact yN (hcall _)));go_wp2;go_ret;exact⟨by rw[E.out];rfl,_,by rw[HW.out,zAH]⟩
 rcases zAQ hne with h|h
 ·have e1:zAt (n1:Int) (n2:Int)=-1:=zBc oM
  have E:Hid (zAt (nat xs) (nat ys)=-1):=zBc (by have:=zLN hx1.1 hN2 oM;omega);have hcall:=fun W=>(zGP n1 n2 W)
  rw[e1]at hcall;clear e1;go_enter Tryz.func124,Tryz.ntmps124;go_wp2_with (go_at_call 123;refine(hcall _).mono ?_;rintro e w' ⟨rfl,rfl⟩)
  go_ret;exact⟨by rw[E.out];rfl,0,rfl⟩
 have e1:zAt (n1:Int) (n2:Int)=1:=zCK oM;have E:Hid (zAt (nat xs) (nat ys)=1):=zCK (by have:=zLN hx2.1 hN1 oM;omega);have hcall:=fun W=>(zGP n1 n2 W)
 rw[e1]at hcall;clear e1;go_enter Tryz.func124,Tryz.ntmps124;go_wp2_with (go_at_call 123;refine(hcall _).mono ?_;rintro e w' ⟨rfl,rfl⟩)
 go_ret;exact⟨by rw[E.out];rfl,0,rfl⟩
theorem zIB{x y v e:Nat}(h:nat (zs.take k)+nat (ys.take k)=nat (xs.take k)+d*B32^k)(hk:k<zs.length)
  (hx:xs.getD k 0=x) (hy:ys.getD k 0=y) (hv:v+y+d=x+e*4294967296):
  nat ((zs.set k v).take (k+1))+nat (ys.take (k+1))=nat (xs.take (k+1))+e*B32^(k+1):=by
 rw[zB3 _ _ _ hk,jF,jF,hx,hy,qI,zCE];rw[zCE]at h;generalize 4294967296^k=p at*;have e1:(v+y+d)*p=(x+e*4294967296)*p:=by rw[hv]
 rw[zZ,zZ,zZ,zC,zN 4294967296 p]at e1;omega
theorem zRD(x y d:Nat)(hx:x<4294967296)(hy:y<4294967296)(hd:d<=1):
  ∃v e:Nat,IntKind.u32.wrap (IntKind.u64.wrap (IntKind.u64.wrap ((x:Int)-d)-y))=v/\IntKind.u64.wrap (IntKind.u64.wrap ((x:Int)-d)-y)/9223372036854775808=e/\v<4294967296/\e<=1/\v+y+d=x+e*4294967296:=by
 simp only[IntKind.wrap_u64,IntKind.wrap_u32];by_cases h:y+d<=x
 ·exact⟨x-d-y,0,oM,oM,oM,oM,oM⟩
 exact⟨x+4294967296-d-y,1,oM,oM,oM,oM,oM⟩
theorem zOp(x d:Nat)(hx:x<4294967296)(hd:d<=1):
  ∃v e:Nat,IntKind.u32.wrap (IntKind.u64.wrap ((x:Int)-d))=v/\IntKind.u64.wrap ((x:Int)-d)/9223372036854775808=e/\v<4294967296/\e<=1/\v+0+d=x+e*4294967296:=by
 simp only[IntKind.wrap_u64,IntKind.wrap_u32];by_cases h:d<=x
 ·exact⟨x-d,0,oM,oM,oM,oM,oM⟩
 exact⟨x+4294967296-d,1,oM,oM,oM,oM,oM⟩
theorem zJk(ao1 ao2:Option Addr)(n1 cap1 n2 cap2:Nat)(xs ys:List Nat)(w:World)(hn1:xs.length=n1)(hn2:ys.length=n2)(hl1:n1<=cap1)(hl2:n2<=cap2)
  (hc1:cap1<=9223372036854775807) (hc2:cap2<=9223372036854775807) (hb1:n1<=4*LIM) (hx1:yB w ao1 xs) (hx2:yB w ao2 ys) (hle:n2<=n1) (hval:nat ys<=nat xs):
  CPq 181 #[.slice ao1 n1 cap1,.slice ao2 n2 cap2] w (zIx w (nat xs-nat ys)):=by
 have HN1:=zI hn1;have HN2:=zI hn2;have HV:=zI hval;have hlen1:xs.length<=n1:=oM;have hlen1':n1<=xs.length:=oM;have hlen2:ys.length<=n2:=oM;have hlen2':n2<=ys.length:=oM;clear hn1 hn2 hval;rw[zC0]at hb1;have hmk:=fun W=>mkU (n1:Int) n1 oM oM W
 go_enter Tryz.func181,Tryz.ntmps181;go_wp2;clear hmk;go_loopw [6,14] (fun c i wr=>∃(k d:Nat) (zs:List Nat),k<=n1/\i=niq k/\c= .int .u64 d/\d<=1/\zCz wr w.heap.size zs/\BWq w wr/\n1<=zs.length∧
   Hid (zs.length=n1/\zA6 zs/\nat (zs.take k)+nat (ys.take k)=nat (xs.take k)+d*B32^k)) (fun _ i _=>n1-(intOf i).toNat)
 case atStart=>exact⟨0,0,List.replicate n1 0,oM,rfl,rfl,oM,zCz.made _ _,(zA _ _).alloc (xgf _) _,by simp,⟨by simp,fun x hx=>by rw[List.eq_of_mem_replicate hx];exact zCk,by simp⟩⟩
 obtain⟨k,d,zs,hk,rfl,rfl,hd,hblk,hbel,hlz,HH⟩:=hrel;have hfr:=hblk.frozen k;by_cases hkn:k<n1
 ·obtain⟨b,off,x,rfl,hbw,hx32,HX,hck⟩:=hx1.limb (k:=k) oM
  have hck':=(hbel.cell (p:=⟨b,off+k,none⟩) hbw).trans hck;have hcz:=hblk.cell (k:=k) oM;clear hck;by_cases hk2:k<n2
  ·obtain⟨b2,off2,y,rfl,hbw2,hy32,HY,hcy⟩:=hx2.limb (k:=k) oM
   have hcy':=(hbel.cell (p:=⟨b2,off2+k,none⟩) hbw2).trans hcy;clear hcy;go_wp2;go_roundw;obtain⟨v,e,e1,e2,e3,e4,e5⟩:=zRD x y d hx32 hy32 hd
   case rel=>exact⟨k+1,e,zs.set k v,oM,by go_num,by rw[e2],oM,hblk.set' _ _ v (by first|exact e1|omega),hbel.setCell (xgf _) _,by simpa using hlz,
     ⟨by simpa using HH.out.1,HH.out.2.1.set _ _ e3,zIB HH.out.2.2 oM HX.out HY.out e5⟩⟩
   case measure=>exact meq
  have HY:ys.getD k 0=0:=by rw[xgb,List.getElem?_eq_none oM];rfl
  have HY':=zI HY;clear HY;go_wp2;go_roundw;obtain⟨v,e,e1,e2,e3,e4,e5⟩:=zOp x d hx32 hd
  case rel=>exact⟨k+1,e,zs.set k v,oM,by go_num,by rw[e2],oM,hblk.set' _ _ v (by first|exact e1|omega),hbel.setCell (xgf _) _,by simpa using hlz,
    ⟨by simpa using HH.out.1,HH.out.2.1.set _ _ e3,zIB HH.out.2.2 oM HX.out HY'.out e5⟩⟩
  case measure=>exact meq
 obtain rfl:n1=k:=oM;go_wp2;go_ret;have h1:=HH.out.2.2;rw[yG xs hlen1,yG ys oM,yG zs (by rw[HH.out.1];omega)]at h1;have h2:=zEK HH.out.2.1;rw[HH.out.1]at h2;have h3:=HV.out;refine⟨_,_,_,zs,rfl,HH.out.1,oM,oM,hblk.at_ HH.out.2.1,?_,hbel⟩;generalize B32^n1=p at h1 h2;have h4:d=0∨d=1:=oM;rcases h4 with rfl|rfl<;>omega
theorem zIS{zs0:List Nat}{c y z:Nat}(h:nat (zs.take (i+k))+c*B32^(i+k)=nat (zs0.take (i+k))+x*B32^i*nat (ys.take k))(hk:i+k<zs.length)
    (hy:ys.getD k 0=y) (hz:zs.getD (i+k) 0=z) (hz0:zs0.getD (i+k) 0=z):
    nat ((zs.set (i+k) ((c+(x*y+z))%4294967296)).take (i+(k+1)))+(c+(x*y+z))/4294967296*B32^(i+(k+1))=nat (zs0.take (i+(k+1)))+x*B32^i*nat (ys.take (k+1)):=by
  rw[show i+(k+1)=i+k+1 from rfl,zB3 _ _ _ hk,jF zs0,jF ys,hy,hz0,zAU,qI,zCE];rw[zCE]at h;have e1:x*4294967296^i*(y*4294967296^k)=x*y*4294967296^(i+k):=by rw[yD];simp only[Nat.mul_assoc,Nat.mul_comm,Nat.mul_left_comm]
  rw[e1];generalize 4294967296^(i+k)=p at*;generalize x*4294967296^i*nat (ys.take k)=t at*;generalize x*y=m at*;have e:=zAA (c+(m+z)) 4294967296;generalize (c+(m+z))/4294967296=q at*;generalize (c+(m+z))%4294967296=r at*;have e2:r*p+q*(p*4294967296)=(c+(m+z))*p:=by rw[<-e,zZ,zN 4294967296 q,zC,zN 4294967296 p,zCp]
  rw[zZ,zZ]at e2;omega
theorem zHl(hx:x<4294967296)(hy:y<4294967296):x*y<=18446744065119617025:=by
  have h1:x*y<=4294967295*4294967295:=qO oM oM;omega
theorem zHm(hx:x<4294967296)(hy:y<4294967296):(x:Int)*(y:Int)<=18446744065119617025/\0<=(x:Int)*(y:Int):=by
  have h:=zHl hx hy;rw[<-yS];generalize x*y=m at*;omega
theorem zEs(h:xs.drop k=ys.drop k){j:Nat}(hj:k<=j):xs.getD j 0=ys.getD j 0:=by
  have:=congrArg (fun l=>l.getD (j-k) 0) h;simp only[xgb,List.getElem?_drop]at this;rw[show k+(j-k)=j by omega]at this;simpa[xgb]using this
theorem zDf(zs:List Nat)(k v:Nat):(zs.set k v).drop (k+1)=zs.drop (k+1):=by
  rw[List.drop_set_of_lt oM]
theorem zF1(h:xs.drop k=ys.drop k):xs.drop (k+1)=ys.drop (k+1):=by
  have:=congrArg List.tail h;simpa using this
theorem zUA(ao1 ao2:Option Addr)(n1 cap1 n2 cap2:Nat)(xs ys:List Nat)(w:World)(hn1:xs.length=n1)(hn2:ys.length=n2)
    (hb1:n1<=4*LIM) (hb2:n2<=4*LIM) (hx1:yB w ao1 xs) (hx2:yB w ao2 ys):
    CPq 119 #[.slice ao1 n1 cap1,.slice ao2 n2 cap2] w (zIx w (nat xs*nat ys)):=by
  have HN1:=zI hn1;have HN2:=zI hn2;have hlen1:xs.length<=n1:=oM;have hlen1':n1<=xs.length:=oM;have hlen2:ys.length<=n2:=oM;have hlen2':n2<=ys.length:=oM;clear hn1 hn2;rw[zC0]at hb1 hb2;have hmk:=fun W=>mkU ((n1:Int)+n2) (n1+n2) oM oM W
  go_enter Tryz.func119,Tryz.ntmps119;go_wp2;clear hmk;go_loopw [19] (fun i wr=>∃(k:Nat) (zs:List Nat),k<=n1/\i=niq k/\zCz wr w.heap.size zs/\BWq w wr/\n1+n2<=zs.length∧
      Hid (zs.length=n1+n2/\zA6 zs/\nat (zs.take (k+n2))=nat (xs.take k)*nat ys)) (fun i _=>n1-(intOf i).toNat)
  case atStart=>exact⟨0,List.replicate (n1+n2) 0,oM,rfl,zCz.made _ _,(zA _ _).alloc (xgf _) _,by simp,⟨by simp,fun x hx=>by rw[List.eq_of_mem_replicate hx];exact zCk,by
    have:∀m,nat (List.replicate m 0)=0:=fun m=>by induction m with
      |zero=>rfl
      |succ m ih=>rw[List.replicate_succ,zCV,ih];rfl
    rw[List.take_replicate,this];simp⟩⟩
  case round=>
    obtain⟨k,zs0,hk,rfl,hblk0,hbel0,hlz0,HH0⟩:=hrel;obtain⟨wo,rfl⟩:∃wo:World,wo=wr:=⟨_,rfl⟩;by_cases hkn:k<n1
    · obtain ⟨b,off,x,rfl,hbw,hx32,HX,hck⟩:=hx1.limb (k:=k) oM
      have hck':=(hbel0.cell (p:=⟨b,off+k,none⟩) hbw).trans hck;clear hck;go_wp2;go_loopw [8,26] (fun cv i wr=>∃(j c:Nat) (zs:List Nat),j<=n2/\i=niq j/\cv= .int .u64 c/\c<4294967296/\zCz wr w.heap.size zs/\BWq w wr/\n1+n2<=zs.length∧
          Hid (zs.length=n1+n2/\zA6 zs/\zs.drop (k+j)=zs0.drop (k+j)/\nat (zs.take (k+j))+c*B32^(k+j)=nat (zs0.take (k+j))+x*B32^k*nat (ys.take j))) (fun _ i _=>n2-(intOf i).toNat)
      case atStart=>exact⟨0,0,zs0,oM,rfl,rfl,oM,hblk0,hbel0,hlz0,⟨HH0.out.1,HH0.out.2.1,rfl,by simp⟩⟩
      case round=>
        obtain⟨j,c,zs,hj,rfl,rfl,hc,hblk,hbel,hlz,HH⟩:=hrel;have hfr:=hblk.frozen (k+j);by_cases hjn:j<n2
        · obtain⟨b2,off2,y,rfl,hbw2,hy32,HY,hcy⟩:=hx2.limb (k:=j) oM
          have hcy':=(hbel.cell (p:=⟨b2,off2+j,none⟩) hbw2).trans hcy;clear hcy;obtain⟨z,HZ⟩:∃z,zs.getD (k+j) 0=z:=⟨_,rfl⟩;have hz32:z<4294967296:=by rw[<-HZ];exact HH.out.2.1.get _
          have hcz:=hblk.cell (k:=k+j) oM;rw[HZ]at hcz;have HZ':=zI HZ;clear HZ;have hm1:=zHl hx32 hy32;obtain⟨hm2,hm3⟩:=zHm hx32 hy32;go_wp2;go_roundw
          case rel=>
            have ec:(((c+(x*y+z))/4294967296:Nat):Int)=((c:Int)+((x:Int)*(y:Int)+(z:Int)))/4294967296:=by simp
            have hlt:c+(x*y+z)<18446744073709551616:=by generalize x*y=m at*;omega
            refine⟨j+1,(c+(x*y+z))/4294967296,zs.set (k+j) ((c+(x*y+z))%4294967296),oM,by go_num,by rw[ec],by generalize x*y=m at*;omega,hblk.set' _ _ _ sI,hbel.setCell (xgf _) _,by simpa using hlz,
              ⟨by simpa using HH.out.1,HH.out.2.1.set _ _ (yH _ oM),?_,zIS HH.out.2.2.2 oM HY.out HZ'.out ((zEs HH.out.2.2.1 (xgf _)).symm.trans HZ'.out)⟩⟩
            rw[show k+(j+1)=k+j+1 from rfl,zDf];exact zF1 HH.out.2.2.1
          case measure=>exact meq
        · obtain rfl:n2=j:=oM
          have hcz:=hblk.cell (k:=k+n2) oM;go_wp2;go_roundw
          case rel=>
            refine⟨k+1,zs.set (k+n2) c,oM,by go_num,hblk.set' _ _ _ rfl,hbel.setCell (xgf _) _,by simpa using hlz,⟨by simpa using HH.out.1,HH.out.2.1.set _ _ hc,?_⟩⟩;have h1:=HH.out.2.2.2;have h2:=HH0.out.2.2;rw[h2,yG ys oM]at h1;rw[show k+1+n2=k+n2+1 by omega,zB3 _ _ _ oM,h1,jF xs,HX.out,zZ]
          case measure=>exact meq
    · obtain rfl:n1=k:=oM
      go_wp2;go_ret;have h1:=HH0.out.2.2;rw[yG xs hlen1,yG zs0 (by rw[HH0.out.1];omega)]at h1;exact⟨_,_,_,zs0,rfl,HH0.out.1,oM,oM,hblk0.at_ HH0.out.2.1,h1,hbel0⟩
theorem zB4(neg:Bool)(ao:Option Addr)(n cap:Nat)(xs:List Nat)(w:World)(hn:xs.length=n)(hl:n<=cap)(hcap:cap<=9223372036854775807)(hx:yB w ao xs):
  CPq 112 #[.bool neg,.slice ao n cap] w (zDp w (sgn neg (nat xs))):=by
 have HN:=zI hn;have htl:=zEh xs n;obtain⟨t,HT⟩:∃t,zBH xs n=t:=⟨_,rfl⟩;rw[HT]at htl;have hcall:=fun W hw=>zCy ao n cap xs W hn hl hcap hw
 rw[HT]at hcall;have HT':=zI HT;clear HT hn;have hnorm:zBK (xs.take t):=by
  have h1:=zE2 xs;unfold zEi at h1;rw[HN.out,HT'.out]at h1;exact h1
 have hval:Hid (nat (xs.take t)=nat xs):=by
  have h1:=zDx xs;unfold zEi at h1;rw[HN.out,HT'.out]at h1;exact h1
 by_cases h0:t=0
 ·subst h0
  go_enter Tryz.func112,Tryz.ntmps112;go_wp2_with (go_at_call 120;refine(hcall _ ?_).mono ?_;exact hx.ext (zBw.below ((zA _ _).alloc (xgf _) _) (xgf _));rintro e w' ⟨rfl,rfl⟩)
  refine bodyPost_ret (v:=.agg #[.bool false,.slice none 0 0]) (by simp[results,Tryz.results112,go_sem]) rfl ?_;refine⟨_,rfl,⟨false,none,0,0,[],rfl,rfl,oM,oM,yB.nil _ _,zBK.nil,?_,by simp⟩,(zA _ _).alloc (xgf _) _⟩;have:=hval.out;simp at this;rw[<-this];simp[zI8]
 have ht0:((t:Int)==0)=false:=by simpa using h0
 go_enter Tryz.func112,Tryz.ntmps112;go_wp2_with (go_at_call 120;refine(hcall _ ?_).mono ?_;exact hx.ext (zBw.below ((zA _ _).alloc (xgf _) _) (xgf _));rintro e w' ⟨rfl,rfl⟩)
 refine bodyPost_ret (v:=.agg #[.bool neg,.slice ao t t]) (by simp[results,Tryz.results112,go_sem]) rfl ?_;have hB:BWq w (w.alloc (.cells #[.bool neg,.slice ao t t] 43)):=(zA _ _).alloc (xgf _) _;exact⟨_,rfl,⟨neg,ao,t,t,xs.take t,rfl,by rw[qF,HN.out];omega,oM,oM,(hx.take t).ext (zBw.below hB (xgf _)),hnorm,by rw[hval.out],oM⟩,hB⟩
theorem yB.two(w:World)(a b:Nat)(ha:a<4294967296)(hb:b<4294967296)(m k:Int)(hm:m=a)(hk:k=b):
  yB (w.alloc (.cells #[.int .u32 m,.int .u32 k] tU)) (some ⟨w.heap.size,0,none⟩) [a,b]:=by
 subst hm;subst hk;exact(zCz.made w [a,b]).at_ (fun x hx=>by simp at hx;unfold B32;omega)
theorem yB.one(w:World)(a:Nat)(ha:a<4294967296)(m:Int)(hm:m=a):
  yB (w.alloc (.cells #[.int .u32 m] tU)) (some ⟨w.heap.size,0,none⟩) [a]:=by
 subst hm;exact(zCz.made w [a]).at_ (fun x hx=>by simp at hx;unfold B32;omega)
theorem zHi(u:Nat)(w:World)(hu:u<18446744073709551616):
  CPq 113 #[.int .u64 (u:Nat)] w (zIx w u):=by
 go_enter Tryz.func113,Tryz.ntmps113;go_wp2;go_ret;exact⟨_,_,_,[u%4294967296,u/4294967296],rfl,rfl,oM,oM,yB.two w _ _ oM oM _ _ (by simp[IntKind.wrap_u32]) (by simp[IntKind.wrap_u32]),by simp[zCV,zCE];omega,(zA _ _).alloc (xgf _) _⟩
theorem zAi(v:Value)(z:Int)(w:World)(h:zIp w v z):
  CPq 117 #[v] w fun e w'=>e= .returned (niq (zAt z 0))/\BWq w w':=by
 obtain⟨neg,ao,n,cap,xs,rfl,hn,hl,hcap,hx,hN,hz⟩:=h;have hcall:=fun W hw=>zCy ao n cap xs W hn hl hcap hw
 rw[<-hn,zA5 hN,hn]at hcall;by_cases h0:n=0
 ·have E:Hid (zAt z 0=0):=by
   have:xs= []:=qE oM;subst this;exact zCf (by rw[hz];simp[zI8])
  clear hz hn;subst h0;go_enter Tryz.func117,Tryz.ntmps117;go_wp2_with (go_at_call 120;refine(hcall _ ?_).mono ?_;exact hx.ext (zBw.below ((zA _ _).alloc (xgf _) _) (xgf _));rintro e w' ⟨rfl,rfl⟩)
  go_ret;exact⟨by rw[E.out];rfl,(zA _ _).alloc (xgf _) _⟩
 have hp:0<nat xs:=zOO hN (by rintro rfl;simp at hn;omega);have h0':((n:Int)==0)=false:=by simpa using h0
 cases neg with
 |true=>
  have E:Hid (zAt z 0=-1):=zBc (by rw[hz];simp;omega);clear hz hn;go_enter Tryz.func117,Tryz.ntmps117;go_wp2_with (go_at_call 120;refine(hcall _ ?_).mono ?_;exact hx.ext (zBw.below ((zA _ _).alloc (xgf _) _) (xgf _));rintro e w' ⟨rfl,rfl⟩)
  go_ret;exact⟨by rw[E.out];rfl,(zA _ _).alloc (xgf _) _⟩
 |false=>
  have E:Hid (zAt z 0=1):=zCK (by rw[hz];simp;omega);clear hz hn;go_enter Tryz.func117,Tryz.ntmps117;go_wp2_with (go_at_call 120;refine(hcall _ ?_).mono ?_;exact hx.ext (zBw.below ((zA _ _).alloc (xgf _) _) (xgf _));rintro e w' ⟨rfl,rfl⟩)
  go_ret;exact⟨by rw[E.out];rfl,(zA _ _).alloc (xgf _) _⟩
theorem zGz(n:Int)(w:World)(h1:-9223372036854775808<=n)(h2:n<=9223372036854775807):
  CPq 71 #[niq n] w (zDp w n):=by
 by_cases hn:n<0
 ·have e:IntKind.u64.wrap (-IntKind.u64.wrap n)=((n.natAbs:Nat):Int):=by simp only[IntKind.wrap_u64];omega
  go_enter Tryz.func71,Tryz.ntmps71;go_wp2_with fail
  refine(zHi n.natAbs _ oM).mono ?_;rintro e1 w1 ⟨ao,len,cap,zs,rfl,hz1,hz2,hz3,hz4,hz5,hb1⟩;have br1:=(qX w 43 #[.bool false,.slice none 0 0]).below hb1;go_wp2_with fail
  refine(zB4 true ao len cap zs _ hz1 hz2 hz3 hz4).mono ?_;rintro e2 w2 ⟨v,rfl,hv,hb2⟩;have br2:=br1.below hb2;have k1:=br2.two;obtain⟨vn,va,vl,vc,vx,rfl,hv2⟩:=hv;go_wp2_with fail
  refine jH rfl rfl rfl (br2.put2 _ _) ?_ (yJ (yJ (nx (nx ((zA _ _).alloc (xgf _) _) hb1) hb2) oM 0 _) oM 1 _);refine jY.ext ?_ (br2.lext2 dE _ _);have e3:sgn true (nat zs)=n:=by rw[hz5];simp;omega
  rw[<-e3];exact⟨vn,va,vl,vc,vx,rfl,hv2⟩
 obtain⟨m,rfl⟩:=jQ (show 0<=n by omega);go_enter Tryz.func71,Tryz.ntmps71;go_wp2_with fail
 refine(zHi m _ oM).mono ?_;rintro e1 w1 ⟨ao,len,cap,zs,rfl,hz1,hz2,hz3,hz4,hz5,hb1⟩;have br1:=(qX w 43 #[.bool false,.slice none 0 0]).below hb1;go_wp2_with fail
 refine(zB4 false ao len cap zs _ hz1 hz2 hz3 hz4).mono ?_;rintro e2 w2 ⟨v,rfl,hv,hb2⟩;have br2:=br1.below hb2;have k1:=br2.two;obtain⟨vn,va,vl,vc,vx,rfl,hv2⟩:=hv;go_wp2_with fail
 refine jH rfl rfl rfl (br2.put2 _ _) ?_ (yJ (yJ (nx (nx ((zA _ _).alloc (xgf _) _) hb1) hb2) oM 0 _) oM 1 _);refine jY.ext ?_ (br2.lext2 dE _ _);have e3:sgn false (nat zs)=m:=by rw[hz5];simp
 rw[<-e3];exact⟨vn,va,vl,vc,vx,rfl,hv2⟩
theorem zDs{b:Int}(h:¬ a<b):0<=zAt a b:=by
 unfold zAt;rw[if_neg h];split<;>omega
theorem zTq(neg:Bool)(a b:Nat):sgn neg (a+b)=sgn neg a+sgn neg b:=by cases neg<;>simp<;>omega
theorem zPl(h:n1≠n2)(a b:Nat)(hl:b<=a):sgn n1 (a-b)=sgn n1 a+sgn n2 b:=by
 cases n1<;>cases n2<;>simp at h ⊢<;>omega
theorem zPm(h:n1≠n2)(a b:Nat)(hl:a<=b):sgn n2 (b-a)=sgn n1 a+sgn n2 b:=by
 cases n1<;>cases n2<;>simp at h ⊢<;>omega
theorem zH2(v1 v2:Value)(z1 z2:Int)(w:World)(h1:zIp w v1 z1)(h2:zIp w v2 z2)(s1:Sm z1)(s2:Sm z2):
  CPq 155 #[v1,v2] w (zDp w (z1+z2)):=by
 obtain⟨neg1,ao1,n1,cap1,xs,rfl,hn1,hl1,hc1,hx1,hN1,hz1⟩:=h1;obtain⟨neg2,ao2,n2,cap2,ys,rfl,hn2,hl2,hc2,hx2,hN2,hz2⟩:=h2;have hq1:n1<=4*LIM:=by
  have:n1<=LIM:=by rw[<-hn1];exact Sm.len (neg:=neg1) (by rw[<-hz1];exact s1) hN1
  omega
 have hq2:n2<=4*LIM:=by
  have:n2<=LIM:=by rw[<-hn2];exact Sm.len (neg:=neg2) (by rw[<-hz2];exact s2) hN2
  omega
 have hcall1:=fun W hw=>zCy ao1 n1 cap1 xs W hn1 hl1 hc1 hw
 rw[<-hn1,zA5 hN1,hn1]at hcall1;have hcall2:=fun W hw=>zCy ao2 n2 cap2 ys W hn2 hl2 hc2 hw
 rw[<-hn2,zA5 hN2,hn2]at hcall2;have HN1:=zI hn1;have HN2:=zI hn2;have HZ1:=zI hz1;have HZ2:=zI hz2;clear hn1 hn2 hz1 hz2 s1 s2;have Hcall1:=zI hcall1;by_cases hs:neg1=neg2
 ·subst hs
  go_enter Tryz.func155,Tryz.ntmps155;go_wp2_with fail
  refine zD ?_;intro W0 hW0;obtain⟨hB0,bx1,bx2,br,hs0⟩:=zBk hW0;have hx1':=hx1.ext (lx hB0);have hx2':=hx2.ext (lx hB0);have c1:=bx1.two;have d1:=bx2.two;go_quiet ((first|(go_at_call_of 120 ao1;exact yN ((hcall1 _ (hx1'.ext (lx (drN _ _)))).mono (by rintro e w' ⟨rfl,rfl⟩;exact⟨rfl,rfl⟩)))|(go_at_call_of 120 ao2;exact yN ((hcall2 _ (hx2'.ext (lx (drN _ _)))).mono (by rintro e w' ⟨rfl,rfl⟩;exact⟨rfl,rfl⟩)))));go_wp2_with fail
  refine zD ?_;intro W1 hW1;have hB1:BWq w W1:=by rw[hW1.out];exact nx hB0 (drN _ _)
  have bx1':=zAk hW1 bx1;have bx2':=zAk hW1 bx2;have br':=zAk hW1 br;have lx1:=lx (nx hB1 (dr W1));clear c1 d1;obtain⟨c1,c2,c3,c4⟩:=bx1'.two;obtain⟨d1,d2,d3,d4⟩:=bx2'.two;go_region_held3 (fun w'=>w'.cell? ⟨w.heap.size,0,none⟩=some (.bool neg1))
   ((((try go_split_ands);(repeat' apply And.intro))<;>first|exact zBn (by assumption)|exact jL (by assumption) hb1|exact jL (by assumption) hb2|exact zC9 (zC9 (by assumption) oM) oM))
   (first
    |((go_at_call 180;refine(zPb ao1 ao2 n1 n1 n2 n2 xs ys _ HN1.out HN2.out (xgf _) (xgf _) oM oM hq1 hq2 (hx1.ext lx1) (hx2.ext lx1)).mono ?_;rintro e w1 ⟨ao,len,cap,zs,rfl,hz1,hz2,hz3,hz4,hz5,hb1⟩;have br1:=br'.drew.below hb1))
    |((go_at_call 112;refine(zB4 neg1 ao len cap zs _ hz1 hz2 hz3 hz4).mono ?_;rintro e w2 ⟨v,rfl,hv,hb2⟩;have br2:=br1.below hb2;obtain⟨e1,e2,e3,e4⟩:=br2.two;obtain⟨vn,va,vl,vc,vx,rfl,hv2⟩:=hv)))
  go_wp2_with fail
  refine jH rfl rfl rfl (br2.put2 _ _) ?_ (yJ (yJ (nx (nx (nx hB1 (dr W1)) hb1) hb2) oM 0 _) oM 1 _);refine jY.ext ?_ (br2.lext2 dE _ _);rw[hz5]at hv2;rw[HZ1.out,HZ2.out,<-zTq];exact⟨vn,va,vl,vc,vx,rfl,hv2⟩
 have hs':(neg1==neg2)=false:=by simpa using hs
 have Hs:=zI hs;clear hs;by_cases hlt:nat xs<nat ys
 ·have hcmp:=fun W h1 h2=>zDL ao1 ao2 n1 n1 n2 n2 xs ys W HN1.out HN2.out (xgf _) (xgf _) oM oM h1 h2 hN1 hN2
  rw[zBc oM]at hcmp;go_enter Tryz.func155,Tryz.ntmps155;go_wp2_with fail
  refine zD ?_;intro W0 hW0;obtain⟨hB0,bx1,bx2,br,hs0⟩:=zBk hW0;have hx1':=hx1.ext (lx hB0);have hx2':=hx2.ext (lx hB0);have c1:=bx1.two;have d1:=bx2.two;go_quiet ((first|(go_at_call_of 120 ao1;exact yN ((hcall1 _ (hx1'.ext (lx (drN _ _)))).mono (by rintro e w' ⟨rfl,rfl⟩;exact⟨rfl,rfl⟩)))|(go_at_call_of 120 ao2;exact yN ((hcall2 _ (hx2'.ext (lx (drN _ _)))).mono (by rintro e w' ⟨rfl,rfl⟩;exact⟨rfl,rfl⟩)))));have hx1'':=hx1'.ext (lx (drN W0 nq));have hx2'':=hx2'.ext (lx (drN W0 nq));go_wp2_with (go_at_call 124;refine(hcmp _ hx1'' hx2'').mono ?_;rintro e w' ⟨rfl,q,rfl⟩)
  refine zD ?_;intro W1 hW1;have hB1:BWq w W1:=by rw[hW1.out];exact nx hB0 (drN _ _)
  have bx1':=zAk hW1 bx1;have bx2':=zAk hW1 bx2;have br':=zAk hW1 br;have lx1:=lx (nx hB1 (dr W1));clear c1 d1;obtain⟨c1,c2,c3,c4⟩:=bx1'.two;obtain⟨d1,d2,d3,d4⟩:=bx2'.two;go_region_held3 (fun w'=>w'.cell? ⟨(w.heap.size+1),0,none⟩=some (.bool neg2))
   ((((try go_split_ands);(repeat' apply And.intro))<;>first|exact zBn (by assumption)|exact jL (by assumption) hb1|exact jL (by assumption) hb2|exact zC9 (zC9 (by assumption) oM) oM))
   (first
    |((go_at_call 181;refine(zJk ao2 ao1 n2 n2 n1 n1 ys xs _ HN2.out HN1.out (xgf _) (xgf _) oM oM hq2 (hx2.ext lx1) (hx1.ext lx1) (by rw[<-HN1.out,<-HN2.out];exact zDS hx2.1 hN1 oM) oM).mono ?_;rintro e w1 ⟨ao,len,cap,zs,rfl,hz1,hz2,hz3,hz4,hz5,hb1⟩;have br1:=br'.drew.below hb1))
    |((go_at_call 112;refine(zB4 neg2 ao len cap zs _ hz1 hz2 hz3 hz4).mono ?_;rintro e w2 ⟨v,rfl,hv,hb2⟩;have br2:=br1.below hb2;obtain⟨e1,e2,e3,e4⟩:=br2.two;obtain⟨vn,va,vl,vc,vx,rfl,hv2⟩:=hv)))
  go_wp2_with fail
  refine jH rfl rfl rfl (br2.put2 _ _) ?_ (yJ (yJ (nx (nx (nx hB1 (dr W1)) hb1) hb2) oM 0 _) oM 1 _);refine jY.ext ?_ (br2.lext2 dE _ _);rw[hz5]at hv2;rw[HZ1.out,HZ2.out,<-zPm Hs.out _ _ oM];exact⟨vn,va,vl,vc,vx,rfl,hv2⟩
 have hcmp:=fun W h1 h2=>zDL ao1 ao2 n1 n1 n2 n2 xs ys W HN1.out HN2.out (xgf _) (xgf _) oM oM h1 h2 hN1 hN2
 obtain⟨cc,hcc,hcc0⟩:∃cc:Int,zAt (nat xs) (nat ys)=cc/\0<=cc:=⟨_,rfl,zDs oM⟩;rw[hcc]at hcmp;clear hcc;go_enter Tryz.func155,Tryz.ntmps155;go_wp2_with fail
 refine zD ?_;intro W0 hW0;obtain⟨hB0,bx1,bx2,br,hs0⟩:=zBk hW0;have hx1':=hx1.ext (lx hB0);have hx2':=hx2.ext (lx hB0);have c1:=bx1.two;have d1:=bx2.two;go_quiet ((first|(go_at_call_of 120 ao1;exact yN ((hcall1 _ (hx1'.ext (lx (drN _ _)))).mono (by rintro e w' ⟨rfl,rfl⟩;exact⟨rfl,rfl⟩)))|(go_at_call_of 120 ao2;exact yN ((hcall2 _ (hx2'.ext (lx (drN _ _)))).mono (by rintro e w' ⟨rfl,rfl⟩;exact⟨rfl,rfl⟩)))));have hx1'':=hx1'.ext (lx (drN W0 nq));have hx2'':=hx2'.ext (lx (drN W0 nq));go_wp2_with (go_at_call 124;refine(hcmp _ hx1'' hx2'').mono ?_;rintro e w' ⟨rfl,q,rfl⟩)
 refine zD ?_;intro W1 hW1;have hB1:BWq w W1:=by rw[hW1.out];exact nx hB0 (drN _ _)
 have bx1':=zAk hW1 bx1;have bx2':=zAk hW1 bx2;have br':=zAk hW1 br;have lx1:=lx (nx hB1 (dr W1));clear c1 d1;obtain⟨c1,c2,c3,c4⟩:=bx1'.two;obtain⟨d1,d2,d3,d4⟩:=bx2'.two;go_region_held3 (fun w'=>w'.cell? ⟨w.heap.size,0,none⟩=some (.bool neg1))
  ((((try go_split_ands);(repeat' apply And.intro))<;>first|exact zBn (by assumption)|exact jL (by assumption) hb1|exact jL (by assumption) hb2|exact zC9 (zC9 (by assumption) oM) oM))
  (first
   |((go_at_call 181;refine(zJk ao1 ao2 n1 n1 n2 n2 xs ys _ HN1.out HN2.out (xgf _) (xgf _) oM oM hq1 (hx1.ext lx1) (hx2.ext lx1) (by rw[<-HN1.out,<-HN2.out];exact zDS hx1.1 hN2 oM) oM).mono ?_;rintro e w1 ⟨ao,len,cap,zs,rfl,hz1,hz2,hz3,hz4,hz5,hb1⟩;have br1:=br'.drew.below hb1))
   |((go_at_call 112;refine(zB4 neg1 ao len cap zs _ hz1 hz2 hz3 hz4).mono ?_;rintro e w2 ⟨v,rfl,hv,hb2⟩;have br2:=br1.below hb2;obtain⟨e1,e2,e3,e4⟩:=br2.two;obtain⟨vn,va,vl,vc,vx,rfl,hv2⟩:=hv)))
 go_wp2_with fail
 refine jH rfl rfl rfl (br2.put2 _ _) ?_ (yJ (yJ (nx (nx (nx hB1 (dr W1)) hb1) hb2) oM 0 _) oM 1 _);refine jY.ext ?_ (br2.lext2 dE _ _);rw[hz5]at hv2;rw[HZ1.out,HZ2.out,<-zPl Hs.out _ _ oM];exact⟨vn,va,vl,vc,vx,rfl,hv2⟩
def zKP(w:World)(base:Nat)(v:Value)(xs:List Nat):Prop:=zA6 xs/\w.ownsRow base tU 1 v xs.length (xs.map fun n=>Value.int .u32 (n:Nat))
theorem zKP.at_(h:zKP w base v xs):
  ∃ao cap,v= .slice ao xs.length cap/\xs.length<=cap/\cap<=9223372036854775807/\yB w ao xs:=by
 obtain⟨hl,h1,h2⟩:=h;rcases h2 with⟨rfl,h0⟩|⟨g,cap,cur,rfl,hg,hh,hn,hc,hs,ht⟩
 ·have:xs= []:=qE h0
  subst this;exact⟨none,0,rfl,by simp,oM,yB.nil _ _⟩
 refine⟨some ⟨g,0,none⟩,cap,rfl,hn,hc,hl,fun _=>⟨g,0,cur,_,rfl,hh,fun k x hk=>?_⟩⟩;have hk':(xs.map fun n=>Value.int .u32 (n:Nat))[k]?=some (.int .u32 (x:Nat)):=by simp[hk]
 rw[<-ht,List.getElem?_take]at hk';split at hk';simpa using hk';cases hk'
theorem zKP.empty(w:World)(base:Nat)(h:base<=w.heap.size):zKP (w.alloc (.cells #[] tU)) base (slq w.heap.size 0 0) []:=
 ⟨zA6.nil,by simp,.inr ⟨w.heap.size,0,#[],rfl,h,heap_alloc_new w _,xgf _,by simp[maxLen],rfl,rfl⟩⟩
theorem zKP.alloc(h:zKP w base v xs)(o:Obj):zKP (w.alloc o) base v xs:=⟨h.1,h.2.alloc o⟩
theorem zHu{P:Program}{w:World}(base:Nat)(t ty e:TypeId)(i:TypeInfo)(size:Nat)(ht:P.underlying t=some (.slice e))(hi:P.info? e=some i)
  (v:Value) (n:Nat) (xs:List Value) (hown:w.ownsRow base e size v n xs) (c:Nat):(Builtin.append_ #[t,t] ty #[v,.slice none 0 c]).run P w= .ok v w:=by
 rcases hown.2 with⟨rfl,rfl⟩|⟨g,cap,cur,rfl,_,_,hnc,_⟩
 simp[Builtin.append_,run_underlying ht,sizeOf,typeInfo,hi,Builtin.lenOf,Builtin.firstCells];simp[Builtin.append_,run_underlying ht,sizeOf,typeInfo,hi,Builtin.lenOf,Builtin.firstCells,hnc,storeCells]
theorem zP4{w:World}{ops:Array Oper}{rest:List Oper}{o:Oper}{a:Act}{Q:Exit->Act->World->Prop}(hgd:o.guard=none)(s x:Operand)
  (ho:o.op= .call {callee:=.builtin .append,args:=#[s,x],argTypes:=#[41,41]})
  (base:Nat) (v:Value) (xs:List Nat) (hs:a.eval s=v) (hown:zKP w base v xs) (ao:Option Addr) (m c:Nat) (ys:List Nat) (hx:a.eval x= .slice ao m c) (hy:yB w ao ys) (hm:ys.length=m)
  (hlen:xs.length+m<=35184372088832) (hbase:base<=w.heap.size)
  (h:∀v' w',zKP w' base v' (xs++ys)->w.grownBy w' v.ownBlock->wpList Tryz.prog ops Q rest (a.put o.dst v') w'):wpList Tryz.prog ops Q (o::rest) a w:=by
 obtain⟨i0,hi,hz0,hz1,hz2⟩:=info_parts Tryz.infoU;cases ao with
 | none=>
  have hy0:ys= []:=by
   by_cases h0:ys= []
   ·exact h0
   obtain⟨_,_,_,_,h1,_⟩:=hy.2 h0;cases h1
  subst hy0;simp at hm;subst hm;refine wpList_plain hgd fun K hK=>?_
  have hrun:=zHu (P:=Tryz.prog) (w:=w) base 41 o.type tU i0 1 zCA hi v xs.length _ hown.2 c;unfold Oper.wp;simp only[execOp,ho,resolve,invoke,builtin,Sem.run_bind,Sem.run_pure,Result.andThen_ok,List.map_toArray,List.map_cons,List.map_nil,hs,hx,hrun];exact hK _ _ (h v w (by simpa using hown) (World.grownBy.refl w _))
 | some ad=>
  refine wpList_append_own w hgd s x 41 ho base tU i0 _ 1 4 zCA hi hz0 hz1 hz2 rfl oM v xs.length _ hs hown.2 ad m c (ys.map fun n=>Value.int .u32 (n:Nat)) hx (by simp[hm]) ?_ ?_ (by simp[maxLen];omega) oM hbase ?_
  ·intro j u hj
   simp only[List.getElem?_map,Option.map_eq_some_iff]at hj;obtain⟨x',hj,rfl⟩:=hj;obtain⟨b,off,cs,fz,h1,h2,h3⟩:=hy.2 (by rintro rfl;simp at hj);injection h1 with h1
   subst h1;rw[zAL,cell_of_row w b (off+j) cs tU fz h2];exact h3 j x' hj
  ·intro u hu
   simp only[List.mem_map]at hu;obtain⟨x',_,rfl⟩:=hu;rfl
  intro v' w' h1 h2 _;refine h v' w' ⟨hown.1.append hy.1,?_⟩ h2;simpa[hm]using h1
def zWj(w:World)(xs:List Nat)(e:Ending)(w':World):Prop:=
 ∃ao len cap,e= .returned (.slice ao len cap)/\xs.length=len/\len<=cap/\cap<=9223372036854775807/\yB w' ao xs/\BWq w w'
theorem zGO(ao:Option Addr)(n cap:Nat)(xs:List Nat)(w:World)(hn:xs.length=n)(hb:n<=4*LIM)(hx:yB w ao xs):
  CPq 154 #[.slice ao n cap] w (zWj w xs):=by
 have heq:=fun W=>Lib.run_eql_slice_nil (P:=Tryz.prog) W 41 tU ao n cap 0 0 zCA
 rw[zC0]at hb;cases ao with
 | none=>
  have hy0:xs= []:=by
   by_cases h0:xs= []
   ·exact h0
   obtain⟨_,_,_,_,h1,_⟩:=hx.2 h0;cases h1
  subst hy0;clear hn;go_enter Tryz.func154,Tryz.ntmps154;go_wp2;go_ret;exact⟨none,0,0,rfl,rfl,oM,oM,yB.nil _ _,zA _ _⟩
 |some ad=>
  have HN:=zI hn;clear hn;go_enter Tryz.func154,Tryz.ntmps154;go_wp2_with (at_builtin;refine zP4 rfl _ _ rfl w.heap.size (slq w.heap.size 0 0) [] rfl (zKP.empty w _ (xgf _)) (some ad) n cap xs rfl (hx.ext (lx ((zA _ _).alloc (xgf _) _))) HN.out (by simp;omega) sI ?_;intro v' w' hown hgr)
  have hB:BWq w w':=((zA _ _).alloc (xgf _) _).grown hgr sI (fun k hk=>by simp[Value.ownBlock]at hk;omega);go_ret;obtain⟨ao',cap',hv,h1,h2,h3⟩:=hown.at_;exact⟨ao',_,cap',by rw[hv];rfl,rfl,h1,h2,h3,hB⟩
theorem zIp.len(h:zIp w v z)(s:Sm z):
  ∃neg ao n cap xs,v= .agg #[.bool neg,.slice ao n cap]/\xs.length=n/\n<=cap/\cap<=9223372036854775807/\yB w ao xs/\zBK xs/\z=sgn neg (nat xs)/\n<=LIM:=by
 obtain⟨neg,ao,n,cap,xs,h1,h2,h3,h4,h5,h6,h7⟩:=h;exact⟨neg,ao,n,cap,xs,h1,h2,h3,h4,h5,h6,h7,by rw[<-h2];exact Sm.len (neg:=neg) (by rw[<-h7];exact s) h6⟩
theorem zL0(b:Bool)(n:Nat):sgn (!b) n=-sgn b n:=by cases b<;>simp
theorem zBY(v1:Value)(z:Int)(w:World)(h1:zIp w v1 z)(s1:Sm z):CPq 164 #[v1] w (zDp w (-z)):=by
 obtain⟨neg,ao,n,cap,xs,rfl,hn,hl,hc,hx,hN,hz,hq⟩:=h1.len s1;have HN:=zI hn;have HZ:=zI hz;clear hn hz s1 h1;have hq':n<=4*LIM:=oM;go_enter Tryz.func164,Tryz.ntmps164;go_upto_region 1 with(fail)
 refine zD ?_;intro W0 hW0;obtain⟨hB0,bx1,br,hs0⟩:=zAj hW0;have c1:=bx1.two;have d1:=br.two;have lx1:=lx (nx hB0 (dr W0));go_region_held3 (fun w'=>w'.cell? ⟨w.heap.size,0,none⟩=some (.bool neg)/\w'.cell? ⟨w.heap.size,1,none⟩=some (.slice ao n cap))
  ((((try go_split_ands);(repeat' apply And.intro))<;>first|exact zBn (by assumption)|exact jL (by assumption) hb1|exact jL (by assumption) hb2|exact zC9 (zC9 (by assumption) oM) oM))
  (first
   |((go_at_call 154;refine(zGO ao n cap xs _ HN.out hq' (hx.ext lx1)).mono ?_;rintro e w1 ⟨ao',len,cap',rfl,hz1,hz2,hz3,hz4,hb1⟩;have br1:=br.drew.below hb1))
   |((go_at_call 112;refine(zB4 (!neg) ao' len cap' xs _ hz1 hz2 hz3 hz4).mono ?_;rintro e w2 ⟨v,rfl,hv,hb2⟩;have br2:=br1.below hb2;obtain⟨e1,e2,e3,e4⟩:=br2.two;obtain⟨vn,va,vl,vc,vx,rfl,hv2⟩:=hv)))
 go_wp2_with fail
 refine jH rfl rfl rfl (br2.put2 _ _) ?_ (yJ (yJ (nx (nx (nx hB0 (dr W0)) hb1) hb2) oM 0 _) oM 1 _);refine jY.ext ?_ (br2.lext2 dE _ _);rw[HZ.out,<-zL0];exact⟨vn,va,vl,vc,vx,rfl,hv2⟩
theorem zRj(v1:Value)(z:Int)(w:World)(h1:zIp w v1 z)(s1:Sm z):CPq 203 #[v1] w (zDp w (z.natAbs:Nat)):=by
 obtain⟨neg,ao,n,cap,xs,rfl,hn,hl,hc,hx,hN,hz,hq⟩:=h1.len s1;have HN:=zI hn;have HZ:=zI hz;clear hn hz s1 h1;have hq':n<=4*LIM:=oM;go_enter Tryz.func203,Tryz.ntmps203;go_upto_region 1 with(fail)
 refine zD ?_;intro W0 hW0;obtain⟨hB0,bx1,br,hs0⟩:=zAj hW0;have c1:=bx1.two;have d1:=br.two;have lx1:=lx hB0;go_wp2_with fail
 refine(zGO ao n cap xs _ HN.out hq' (hx.ext lx1)).mono ?_;rintro e w1 ⟨ao',len,cap',rfl,hz1,hz2,hz3,hz4,hb1⟩;have br1:=br.below hb1;go_wp2_with fail
 refine(zB4 false ao' len cap' xs _ hz1 hz2 hz3 hz4).mono ?_;rintro e w2 ⟨v,rfl,hv,hb2⟩;have br2:=br1.below hb2;have e1:=br2.two;obtain⟨vn,va,vl,vc,vx,rfl,hv2⟩:=hv;go_wp2_with fail
 refine jH rfl rfl rfl (br2.put2 _ _) ?_ (yJ (yJ (nx (nx hB0 hb1) hb2) oM 0 _) oM 1 _);refine jY.ext ?_ (br2.lext2 dE _ _);rw[show((z.natAbs:Nat):Int)=sgn false (nat xs) by rw[HZ.out,zBR];rfl];exact⟨vn,va,vl,vc,vx,rfl,hv2⟩
theorem zOo(v1 v2:Value)(z1 z2:Int)(w:World)(h1:zIp w v1 z1)(h2:zIp w v2 z2)(s1:Sm z1)(s2:Sm z2):CPq 190 #[v1,v2] w (zDp w (z1-z2)):=by
 have h1':=h1;have H2:=zI h2;obtain⟨neg1,ao1,n1,cap1,xs,rfl,_⟩:=h1;obtain⟨neg2,ao2,n2,cap2,ys,rfl,hn2,hl2,hc2,hx2,hN2,hz2⟩:=h2;have hcall:∀W,zBw w W->CPq 155 #[.agg #[.bool neg1,.slice ao1 n1 cap1],.agg #[.bool (!neg2),.slice ao2 n2 cap2]] W (zDp W (z1+-z2)):=fun W e=>
  zH2 _ _ _ _ W (h1'.ext e) ⟨!neg2,ao2,n2,cap2,ys,rfl,hn2,hl2,hc2,hx2.ext e,hN2,by rw[hz2,zL0]⟩ s1 (by unfold Sm at s2 ⊢;rwa[zR])
 clear hn2 hz2 s1 s2 H2;go_enter Tryz.func190,Tryz.ntmps190;go_upto_region 1 with(fail)
 refine zD ?_;intro W0 hW0;obtain⟨hB0,bx1,bx2,br,hs0⟩:=zBk hW0;have c1:=bx1.two;have d1:=bx2.two;have r1:=br.two;go_wp2_with fail
 refine(hcall _ (lx hB0)).mono ?_;rintro e w2 ⟨v,rfl,hv,hb2⟩;have br2:=br.below hb2;have e1:=br2.two;obtain⟨vn,va,vl,vc,vx,rfl,hv2⟩:=hv;go_wp2_with fail
 refine jH rfl rfl rfl (br2.put2 _ _) ?_ (yJ (yJ (nx hB0 hb2) oM 0 _) oM 1 _);refine jY.ext ?_ (br2.lext2 dE _ _);rw[show z1-z2=z1+-z2 from Int.sub_eq_add_neg];exact⟨vn,va,vl,vc,vx,rfl,hv2⟩
theorem zTr(a b:Bool)(m n:Nat):sgn (a !=b) (m*n)=sgn a m*sgn b n:=by
 cases a<;>cases b<;>simp[Int.neg_mul,Int.mul_neg]
theorem zEE(v1 v2:Value)(z1 z2:Int)(w:World)(h1:zIp w v1 z1)(h2:zIp w v2 z2)(s1:Sm z1)(s2:Sm z2):CPq 74 #[v1,v2] w (zDp w (z1*z2)):=by
 obtain⟨neg1,ao1,n1,cap1,xs,rfl,hn1,hl1,hc1,hx1,hN1,hz1,hq1⟩:=h1.len s1;obtain⟨neg2,ao2,n2,cap2,ys,rfl,hn2,hl2,hc2,hx2,hN2,hz2,hq2⟩:=h2.len s2;have hcall1:=fun W hw=>zCy ao1 n1 cap1 xs W hn1 hl1 hc1 hw
 rw[<-hn1,zA5 hN1,hn1]at hcall1;have hcall2:=fun W hw=>zCy ao2 n2 cap2 ys W hn2 hl2 hc2 hw
 rw[<-hn2,zA5 hN2,hn2]at hcall2;have HN1:=zI hn1;have HN2:=zI hn2;have HZ1:=zI hz1;have HZ2:=zI hz2;clear hn1 hn2 hz1 hz2 s1 s2 h1 h2;go_enter Tryz.func74,Tryz.ntmps74;go_upto_region 1 with(fail)
 refine zD ?_;intro W0 hW0;obtain⟨hB0,bx1,bx2,br,hs0⟩:=zBk hW0;have c1:=bx1.two;have d1:=bx2.two;have r1:=br.two;have hxd1:=hx1.ext (lx (nx hB0 (dr W0)));have hxd2:=hx2.ext (lx (nx hB0 (dr W0)));go_region_held3 (fun w'=>w'.cell? ⟨w.heap.size,0,none⟩=some (.bool neg1)/\w'.cell? ⟨w.heap.size,1,none⟩=some (.slice ao1 n1 cap1)/\w'.cell? ⟨w.heap.size+1,0,none⟩=some (.bool neg2)/\w'.cell? ⟨w.heap.size+1,1,none⟩=some (.slice ao2 n2 cap2))
  ((((try go_split_ands);(repeat' apply And.intro))<;>first|exact zBn (by assumption)|exact jL (by assumption) hb1|exact jL (by assumption) hb2|assumption|exact zC9 (zC9 (by assumption) oM) oM))
  (first
   |(go_at_call_of 120 ao1;refine(hcall1 _ hxd1).mono ?_;rintro e w' ⟨rfl,rfl⟩)
   |(go_at_call_of 120 ao2;refine(hcall2 _ hxd2).mono ?_;rintro e w' ⟨rfl,rfl⟩)
   |(go_at_call 119;refine(zUA ao1 ao2 n1 n1 n2 n2 xs ys _ HN1.out HN2.out oM oM hxd1 hxd2).mono ?_;rintro e w1 ⟨ao',len,cap',zs,rfl,hz1,hz2,hz3,hz4,hz5,hb1⟩;have br1:=br.drew.below hb1)
   |(go_at_call 112;refine(zB4 (neg1 !=neg2) ao' len cap' zs _ hz1 hz2 hz3 hz4).mono ?_;rintro e w2 ⟨v,rfl,hv,hb2⟩;have br2:=br1.below hb2;obtain⟨e1,e2,e3,e4⟩:=br2.two;obtain⟨vn,va,vl,vc,vx,rfl,hv2⟩:=hv))
 go_wp2_with fail
 refine jH rfl rfl rfl (br2.put2 _ _) ?_ (yJ (yJ (nx (nx (nx hB0 (dr W0)) hb1) hb2) oM 0 _) oM 1 _);refine jY.ext ?_ (br2.lext2 dE _ _);rw[HZ1.out,HZ2.out,<-zTr,<-hz5];exact⟨vn,va,vl,vc,vx,rfl,hv2⟩
theorem zOV(v1:Value)(z:Int)(w:World)(h1:jY w v1 z)(s1:Sm z):CPq 109 #[v1] w (zDp w z):=by
  obtain⟨neg,ao,n,cap,xs,rfl,hn,hl,hc,hx,hN,hz,hpos⟩:=h1;have hq:n<=LIM:=by rw[<-hn];exact Sm.len (neg:=neg) (by rw[<-hz];exact s1) hN
  have HN:=zI hn;have HZ:=zI hz;have HP:=zI hpos;clear hn hz s1 hpos;have hq':n<=4*LIM:=oM;go_enter Tryz.func109,Tryz.ntmps109;go_upto_region 1 with(fail)
  refine zD ?_;intro W0 hW0;obtain⟨hB0,bx1,br,hs0⟩:=zAj hW0;have c1:=bx1.two;have d1:=br.two;have lx1:=lx (nx hB0 (dr W0));go_region_held3 (fun w'=>w'.cell? ⟨w.heap.size,0,none⟩=some (.bool neg)/\w'.cell? ⟨w.heap.size,1,none⟩=some (.slice ao n cap))
    ((((try go_split_ands);(repeat' apply And.intro))<;>first|exact zBn (by assumption)|exact jL (by assumption) hb1|exact jL (by assumption) hb1|exact zC9 (zC9 (by assumption) oM) oM))
    (first
      |((go_at_call 154;refine(zGO ao n cap xs _ HN.out hq' (hx.ext lx1)).mono ?_;rintro e w1 ⟨ao',len,cap',rfl,hz1,hz2,hz3,hz4,hb1⟩;have br1:=br.drew.below hb1;obtain⟨e1,e2,e3,e4⟩:=br1.two))
      |(fail))
  go_wp2_with fail
  refine jH rfl rfl rfl (br1.put2 _ _) ?_ (yJ (yJ (nx (nx hB0 (dr W0)) hb1) oM 0 _) oM 1 _);refine jY.ext ?_ (br1.lext2 dE _ _);exact⟨neg,ao',len,cap',xs,rfl,hz1,hz2,hz3,hz4,hN,HZ.out,fun h=>HP.out (by rw[<-HN.out,hz1,h])⟩
theorem zNU(v1:Value)(z:Int)(w:World)(h1:jY w v1 z):CPq 132 #[v1] w fun e w'=>e= .returned (.bool true)/\BWq w w':=by
  obtain⟨neg,ao,n,cap,xs,rfl,hn,hl,hc,hx,hN,hz,hpos⟩:=h1;have HN:=zI hn;clear hz;cases n with
  | zero=>
    obtain rfl:=hpos rfl;clear hn;go_enter Tryz.func132,Tryz.ntmps132;go_wp2;go_ret;exact⟨rfl,(zA _ _).alloc (xgf _) _⟩
  | succ n=>
    obtain⟨b,off,x,rfl,hbw,hx32,HX,hck⟩:=hx.limb (k:=n) oM;have hx0:((x:Int) !=0)=true:=by
      have:=hN n hn;rw[HX.out]at this;simpa using this
    clear hn hpos;go_enter Tryz.func132,Tryz.ntmps132;go_wp2;go_ret;exact⟨rfl,(zA _ _).alloc (xgf _) _⟩
theorem zLM(a b:Int):-1<=zAt a b/\zAt a b<=1:=by
  unfold zAt;by_cases h1:a<b
  · rw[if_pos h1];omega
  · rw[if_neg h1];by_cases h2:b<a
    · rw[if_pos h2];omega
    · rw[if_neg h2];omega
theorem zIz{b:Int}:(zAt a b=-1->a<b)/\(zAt a b=0->a=b)/\(zAt a b=1->b<a):=by
  rcases zAg a b with h|h|h
  · rw[zBc h];omega
  · rw[zCf h];omega
  · rw[zCK h];omega
theorem zMR{b:Int}(h:zAt a 0≠zAt b 0):zAt (zAt a 0) (zAt b 0)=zAt a b:=by
  rcases zAg a 0 with ha|ha|ha<;>rcases zAg b 0 with hb|hb|hb
  all_goals first
    |(exfalso;apply h;first|rw[zBc ha,zBc hb]|rw[zCf ha,zCf hb]|rw[zCK ha,zCK hb];done)
    | (first|rw[zBc ha]|rw[zCf ha]|rw[zCK ha]
       first|rw[zBc hb]|rw[zCf hb]|rw[zCK hb]
       first|(rw[zBc (show a<b by omega)];rfl)|(rw[zCK (show b<a by omega)];rfl))
theorem zMQ{b:Int}(h:zAt a 0=zAt b 0):zAt a 0*zAt (a.natAbs:Nat) (b.natAbs:Nat)=zAt a b:=by
  rcases zAg a 0 with ha|ha|ha
  · rw[zBc ha]at h ⊢
    have hb:b<0:=zIz.1 h.symm;rcases zAg a b with h1|h1|h1
    · rw[zBc h1,zCK oM];rfl
    · rw[zCf h1,zCf oM];rfl
    · rw[zCK h1,zBc oM];rfl
  · rw[zCf ha]at h ⊢
    have hb:b=0:=zIz.2.1 h.symm;rw[zX,zCf (show a=b by omega)]
  · rw[zCK ha]at h ⊢
    have hb:0<b:=zIz.2.2 h.symm;rw[jX];rcases zAg a b with h1|h1|h1
    · rw[zBc h1,zBc oM]
    · rw[zCf h1,zCf oM]
    · rw[zCK h1,zCK oM]
theorem zSW(n:Int)(h1:-1<=n)(h2:n<=1):IntKind.i64.wrap n=n:=qU n ⟨oM,oM⟩
theorem zR0(v1 v2:Value)(z1 z2:Int)(w:World)(h1:zIp w v1 z1)(h2:zIp w v2 z2):CPq 78 #[v1,v2] w fun e w'=>e= .returned (niq (zAt z1 z2))/\BWq w w':=by
  have H1:=zI h1;have H2:=zI h2;obtain⟨neg1,ao1,n1,cap1,xs,rfl,hn1,hl1,hc1,hx1,hN1,hz1⟩:=h1;obtain⟨neg2,ao2,n2,cap2,ys,rfl,hn2,hl2,hc2,hx2,hN2,hz2⟩:=h2;have hcall1:=fun W hw=>zCy ao1 n1 cap1 xs W hn1 hl1 hc1 hw
  rw[<-hn1,zA5 hN1,hn1]at hcall1;have hcall2:=fun W hw=>zCy ao2 n2 cap2 ys W hn2 hl2 hc2 hw
  rw[<-hn2,zA5 hN2,hn2]at hcall2;obtain⟨s,hs⟩:∃s,zAt z1 0=s:=⟨_,rfl⟩;obtain⟨t,ht⟩:∃t,zAt z2 0=t:=⟨_,rfl⟩;obtain⟨c,hc⟩:∃c,zAt (nat xs) (nat ys)=c:=⟨_,rfl⟩;have hsb:=zLM z1 0;have htb:=zLM z2 0;have hcb:=zLM (nat xs) (nat ys);have hsg1:=fun W hw=>zAi (.agg #[.bool neg1,.slice ao1 n1 cap1]) z1 W hw
  have hsg2:=fun W hw=>zAi (.agg #[.bool neg2,.slice ao2 n2 cap2]) z2 W hw
  have hcmp:=fun W h1 h2=>zDL ao1 ao2 n1 n1 n2 n2 xs ys W hn1 hn2 (xgf _) (xgf _) oM oM h1 h2 hN1 hN2
  rw[hs]at hsg1 hsb;rw[ht]at hsg2 htb;rw[hc]at hcmp hcb;have hres:Hid ((s≠t->zAt s t=zAt z1 z2)/\(s=t->s*c=zAt z1 z2)):=by
    subst hs;subst ht;subst hc;refine⟨fun h=>zMR h,fun h=>?_⟩;have:=zMQ h;rw[hz1,hz2,zBR,zBR]at this;rw[hz1,hz2];exact this
  clear hn1 hn2 hz1 hz2 hs ht hc;go_enter Tryz.func78,Tryz.ntmps78;go_upto_region 1 with(fail)
  refine zD ?_;intro W0 hW0;obtain⟨hB0,bx1,bx2,hs0⟩:=zAj hW0;have c1:=bx1.two;have d1:=bx2.two;have lx1:=lx (nx hB0 (dr W0));go_region_held3 (fun w'=>w'.cell? ⟨w.heap.size,0,none⟩=some (.bool neg1)/\w'.cell? ⟨w.heap.size,1,none⟩=some (.slice ao1 n1 cap1)/\w'.cell? ⟨w.heap.size+1,0,none⟩=some (.bool neg2)/\w'.cell? ⟨w.heap.size+1,1,none⟩=some (.slice ao2 n2 cap2))
    ((((try go_split_ands);(repeat' apply And.intro))<;>first|exact zBn (by assumption)|exact jL (by assumption) hb1|exact jL (by assumption) hb2|assumption))
    (first
      |(go_at_call_of 117 ao1;refine(hsg1 _ (H1.out.ext lx1)).mono ?_;rintro e w1 ⟨rfl,hb1⟩)
      |(go_at_call_of 117 ao2;refine(hsg2 _ (H2.out.ext (lx (nx (nx hB0 (dr W0)) hb1)))).mono ?_;rintro e w2 ⟨rfl,hb2⟩))
  have hB2:=nx (nx (nx hB0 (dr W0)) hb1) hb2;by_cases hst:s=t
  · subst hst
    have e0:((s:Int) !=s)=false:=by simp
    have HR:Hid (s*c=zAt z1 z2):=hres.out.2 rfl;clear hres;have hq:=fun W=>hcmp W
    have bx1':=(bx1.drew.below hb1).below hb2;have bx2':=(bx2.drew.below hb1).below hb2;clear c1 d1;go_wp2_with fail
    obtain⟨c1,c2,c3,c4⟩:=bx1'.two;obtain⟨d1,d2,d3,d4⟩:=bx2'.two;have hxd1:=hx1.ext (lx (nx hB2 (dr w2)));have hxd2:=hx2.ext (lx (nx hB2 (dr w2)));go_region_held3 (fun w'=>w'.cell? ⟨w.heap.size,1,none⟩=some (.slice ao1 n1 cap1)/\w'.cell? ⟨w.heap.size+1,1,none⟩=some (.slice ao2 n2 cap2))
      ((((try go_split_ands);(repeat' apply And.intro))<;>first|exact zBn (by assumption)|exact jL (by assumption) (drN _ _)|assumption))
      (first
        |(go_at_call_of 120 ao1;refine(hcall1 _ hxd1).mono ?_;rintro e w' ⟨rfl,rfl⟩)
        |(go_at_call_of 120 ao2;refine(hcall2 _ hxd2).mono ?_;rintro e w' ⟨rfl,rfl⟩)
        |(go_at_call 124;refine(hcmp _ hxd1 hxd2).mono ?_;rintro e w' ⟨rfl,q,rfl⟩))
    go_wp2_with fail
    go_ret;have hr:=HR.out;have hbd:=zLM z1 z2;refine⟨?_,nx hB2 (drN _ _)⟩;rw[<-hr]at hbd ⊢
    first|rfl|(show _=Ending.returned (niq _);simp[IntWalk.wrap64_in _ ⟨show-9223372036854775808<=s*c by omega,oM⟩,zSW _ hbd.1 hbd.2])
  · have e0:((s:Int) !=t)=true:=by simpa using hst
    have E:=hres.out.1 hst;have hci:=fun W=>zGP s t W
    rw[E]at hci;clear E hst;go_wp2_with (go_at_call 123;refine(hci _).mono ?_;rintro e w' ⟨rfl,rfl⟩)
    go_ret;exact⟨rfl,hB2⟩
end Go.Proofs.YtkidaebmhlijlaaGreat
