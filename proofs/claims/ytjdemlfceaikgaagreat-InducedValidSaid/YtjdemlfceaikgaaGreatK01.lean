/- Numbers to the base 2^32 as lists of limbs: plain arithmetic, no program. What integers of the program look like in memory: limbs, integers, frames; over any world. The functions of package integer on limbs: what each call does. The functions of package integer on limbs, second part. The functions of package integer on limbs, third part. The functions of package integer on limbs, fourth part: times, word, limbs. The functions of package integer: word, limbs, value, Sign, Clone. The functions of package integer on integers. append on limbs; slices.Clone. The functions of package integer on integers, second part: Neg, Abs, Sub, Mul, own. The functions of package integer on integers, third part: Valid, Cmp, and matrix.own. Division of limbs: word, short. math/bits.Len32 and LeadingZeros32 by the library's contracts, at this dump's numbers. Division of limbs: shift. The plain arithmetic of one digit of a long division. One digit of a long division, in place. -/
import Derived.Test.YtjdemlfceaikgaaGreatRows
import Derived.WalkKit
import Derived.WalkSpells
import Derived.WalkLawsBesides
import Derived.Lib.Hide
import Derived.Deep.Draws
import Derived.Deep.QuietTactic
import Derived.BigQuiet
import Derived.Laws.ResultCell
import Derived.Deep.RegionHeld3
import Derived.Laws.AppendOwnNone
import Derived.Deep.DeepCutAuto
import Derived.Deep.CutBlock
import Derived.Deep.Cut
import Derived.Shelf.Small.Bits
import Derived.Ground.Names2Prog
set_option linter.unusedVariables false
set_option linter.unusedSimpArgs false
set_option linter.unusedSectionVars false
namespace Go.Proofs.YtjdemlfceaikgaaGreat
def B32 : Nat:=4294967296
theorem B32_eq : B32 = 4294967296:=rfl
theorem B32_pos : 0 < B32:=by decide
def nat : List Nat->Nat
 | []=>0
 | x :: xs=>x + B32 * nat xs
@[simp] theorem nat_nil : nat [] = 0:=rfl
theorem nat_cons (x : Nat) (xs : List Nat) : nat (x :: xs) = x + B32 * nat xs:=rfl
theorem nat_append (xs ys : List Nat) : nat (xs ++ ys) = nat xs + B32 ^ xs.length * nat ys:=by
 induction xs with
 | nil=>simp
 | cons x xs ih=>
  simp only [List.cons_append,nat_cons,ih,List.length_cons,Nat.pow_succ,Nat.mul_add]
  rw [Nat.add_assoc,<-Nat.mul_assoc,Nat.mul_comm B32 (B32 ^ xs.length)]
theorem nat_snoc (xs : List Nat) (y : Nat) : nat (xs ++ [y]) = nat xs + B32 ^ xs.length * y:=by
 rw [nat_append]; simp [nat_cons]
def Limbs (xs : List Nat) : Prop:=∀x ∈ xs,x < B32
theorem Limbs.cons {x : Nat} {xs : List Nat} (h : Limbs (x :: xs)) : x < B32/\Limbs xs:=
 ⟨h x (by simp),fun y hy=>h y (by simp [hy])⟩
theorem Limbs.nil : Limbs []:=by intro x hx; cases hx
theorem Limbs.take {xs : List Nat} (h : Limbs xs) (k : Nat) : Limbs (xs.take k):=fun x hx=>h x (List.mem_of_mem_take hx)
theorem Limbs.append {xs ys : List Nat} (h : Limbs xs) (k : Limbs ys) : Limbs (xs ++ ys):=fun x hx=>by
 rcases List.mem_append.1 hx with h1 | h1
 ·exact h x h1
 ·exact k x h1
theorem Limbs.get {xs : List Nat} (h : Limbs xs) (k : Nat) : xs.getD k 0 < B32:=by
 rw [List.getD_eq_getElem?_getD]
 rcases Nat.lt_or_ge k xs.length with hk | hk
 ·rw [List.getElem?_eq_getElem hk]; exact h _ (List.getElem_mem hk)
 ·rw [List.getElem?_eq_none hk]; exact B32_pos
theorem nat_lt {xs : List Nat} (h : Limbs xs) : nat xs < B32 ^ xs.length:=by
 induction xs with
 | nil=>simp
 | cons x xs ih=>
  obtain ⟨hx,hxs⟩:=h.cons
  have:=ih hxs
  simp only [nat_cons,List.length_cons,Nat.pow_succ]
  have h2 : B32 * (nat xs + 1)<=B32 * B32 ^ xs.length:=Nat.mul_le_mul_left _ this
  rw [Nat.mul_add] at h2
  rw [Nat.mul_comm (B32 ^ xs.length)]
  omega
def Normal (xs : List Nat) : Prop:=∀n,xs.length = n + 1->xs.getD n 0 ≠ 0
theorem Normal.nil : Normal []:=by intro n h; simp at h
theorem Normal.tail {x : Nat} {xs : List Nat} (h : Normal (x :: xs)) : Normal xs:=by
 intro n hn
 have:=h (n + 1) (by simp [hn])
 simpa using this
theorem nat_ge {xs : List Nat} (h : Normal xs) {n : Nat} (hn : xs.length = n + 1) : B32 ^ n<=nat xs:=by
 induction xs generalizing n with
 | nil=>simp at hn
 | cons x xs ih=>
  simp at hn
  rw [nat_cons]
  cases n with
  | zero=>
   have h0:=h 0 (by simp [hn])
   have : xs = []:=List.eq_nil_of_length_eq_zero hn
   subst this
   simp at h0 ⊢
   omega
  | succ n=>
   have:=ih h.tail (n:=n) (by omega)
   have h2:=Nat.mul_le_mul_left B32 this
   rw [Nat.pow_succ,Nat.mul_comm]
   omega
theorem nat_pos {xs : List Nat} (h : Normal xs) (hne : xs ≠ []) : 0 < nat xs:=by
 cases hx : xs.length with
 | zero=>exact absurd (List.eq_nil_of_length_eq_zero hx) hne
 | succ n=>exact Nat.lt_of_lt_of_le (Nat.pow_pos B32_pos) (nat_ge h hx)
theorem nat_eq_zero {xs : List Nat} (h : Normal xs) : nat xs = 0 ↔ xs = []:=by
 constructor
 ·intro h0
  by_cases hne : xs = []
  ·exact hne
  ·have:=nat_pos h hne; omega
 ·rintro rfl; rfl
theorem pow_mono {a b : Nat} (h : a<=b) : B32 ^ a<=B32 ^ b:=Nat.pow_le_pow_right B32_pos h
theorem nat_length {xs ys : List Nat} (hx : Limbs xs) (hn : Normal ys) (h : nat ys<=nat xs) : ys.length<=xs.length:=by
 rcases Nat.lt_or_ge xs.length ys.length with hlt | hge
 ·cases hy : ys.length with
  | zero=>omega
  | succ n=>
   have h1:=nat_ge hn hy
   have h2:=nat_lt hx
   have h3:=pow_mono (show xs.length<=n by omega)
   omega
 ·exact hge
theorem take_succ_getD (xs : List Nat) (n : Nat) (h : n < xs.length) : xs.take (n + 1) = xs.take n ++ [xs.getD n 0]:=by
 rw [List.take_succ_eq_append_getElem h]; simp [List.getD_eq_getElem?_getD,List.getElem?_eq_getElem h]
theorem nat_take_succ (xs : List Nat) (k : Nat) : nat (xs.take (k + 1)) = nat (xs.take k) + xs.getD k 0 * B32 ^ k:=by
 rcases Nat.lt_or_ge k xs.length with h | h
 ·rw [take_succ_getD xs k h,nat_snoc,List.length_take,Nat.min_eq_left (by omega),Nat.mul_comm]
 ·rw [List.take_of_length_le (by omega),List.take_of_length_le h,List.getD_eq_getElem?_getD,List.getElem?_eq_none h]; simp
theorem nat_take_set (zs : List Nat) (k v : Nat) (h : k < zs.length) : nat ((zs.set k v).take (k + 1)) = nat (zs.take k) + v * B32 ^ k:=by
 rw [nat_take_succ,List.take_set_of_le (by omega),List.getD_eq_getElem?_getD,List.getElem?_set_self h]
 rfl
theorem Limbs.set {zs : List Nat} (h : Limbs zs) (k v : Nat) (hv : v < B32) : Limbs (zs.set k v):=fun x hx=>by
 rcases List.mem_or_eq_of_mem_set hx with h1 | h1
 ·exact h x h1
 ·subst h1; exact hv
theorem nat_take_all (xs : List Nat) {n : Nat} (h : xs.length<=n) : nat (xs.take n) = nat xs:=by rw [List.take_of_length_le h]
theorem plus_step {xs ys zs : List Nat} {k d x y : Nat} (h : nat (zs.take k) + d * B32 ^ k = nat (xs.take k) + nat (ys.take k)) (hk : k < zs.length)
  (hx : xs.getD k 0 = x) (hy : ys.getD k 0 = y) :
  nat ((zs.set k ((d + x + y) % 4294967296)).take (k + 1)) + (d + x + y) / 4294967296 * B32 ^ (k + 1) = nat (xs.take (k + 1)) + nat (ys.take (k + 1)):=by
 rw [nat_take_set _ _ _ hk,nat_take_succ,nat_take_succ,hx,hy,Nat.pow_succ,B32_eq]
 rw [B32_eq] at h
 generalize 4294967296 ^ k = p at *
 generalize nat (List.take k zs) = a at *
 generalize nat (List.take k xs) = b at *
 generalize nat (List.take k ys) = c at *
 have e:=Nat.div_add_mod (d + x + y) 4294967296
 generalize (d + x + y) / 4294967296 = q at *
 generalize (d + x + y) % 4294967296 = r at *
 have e2 : r * p + q * (p * 4294967296) = (d + x + y) * p:=by rw [<-e,Nat.add_mul,Nat.mul_comm 4294967296 q,Nat.mul_assoc,Nat.mul_comm 4294967296 p,Nat.add_comm]
 rw [Nat.add_mul,Nat.add_mul] at e2
 omega
def topLen (xs : List Nat) : Nat->Nat
 | 0=>0
 | n + 1=>if xs.getD n 0 = 0 then topLen xs n else n + 1
theorem topLen_le (xs : List Nat) : ∀n,topLen xs n<=n
 | 0=>Nat.le_refl _
 | n + 1=>by
  unfold topLen; split
  ·have:=topLen_le xs n; omega
  ·omega
theorem topLen_nat (xs : List Nat) : ∀n,n<=xs.length->nat (xs.take (topLen xs n)) = nat (xs.take n)
 | 0,_=>rfl
 | n + 1,h=>by
  unfold topLen
  split
  ·rename_i h0
   rw [topLen_nat xs n (by omega),take_succ_getD xs n (by omega),nat_snoc,h0]; simp
  ·rfl
theorem topLen_normal (xs : List Nat) : ∀n,n<=xs.length->Normal (xs.take (topLen xs n))
 | 0,_=>by simpa [topLen] using Normal.nil
 | n + 1,h=>by
  unfold topLen
  split
  ·exact topLen_normal xs n (by omega)
  ·rename_i h0
   intro k hk
   rw [List.length_take,Nat.min_eq_left h] at hk
   have : k = n:=by omega
   subst this
   rw [List.getD_eq_getElem?_getD,List.getElem?_take,if_pos (by omega),<-List.getD_eq_getElem?_getD]
   exact h0
def trimmed (xs : List Nat) : List Nat:=xs.take (topLen xs xs.length)
theorem trimmed_nat (xs : List Nat) : nat (trimmed xs) = nat xs:=by
 unfold trimmed; rw [topLen_nat xs _ (Nat.le_refl _),List.take_of_length_le (Nat.le_refl _)]
theorem trimmed_normal (xs : List Nat) : Normal (trimmed xs):=topLen_normal xs _ (Nat.le_refl _)
theorem topLen_of_normal {xs : List Nat} (h : Normal xs) : topLen xs xs.length = xs.length:=by
 cases hx : xs.length with
 | zero=>rfl
 | succ n=>unfold topLen; rw [if_neg (h n hx)]
theorem nat_drop_succ (xs : List Nat) (k : Nat) (h : k < xs.length) : nat xs = nat (xs.take k) + B32 ^ k * (xs.getD k 0 + B32 * nat (xs.drop (k + 1))):=by
 have e : xs = xs.take k ++ xs.getD k 0 :: xs.drop (k + 1):=by
  rw [List.getD_eq_getElem?_getD,List.getElem?_eq_getElem h]
  simp
 have hl : (xs.take k).length = k:=by rw [List.length_take,Nat.min_eq_left (by omega)]
 have:=congrArg nat e
 rw [nat_append,hl,nat_cons] at this
 exact this
theorem cmp_lt {xs ys : List Nat} {k x y : Nat} (hx : Limbs xs) (hkx : k < xs.length) (hky : k < ys.length) (hd : xs.drop (k + 1) = ys.drop (k + 1))
  (ex : xs.getD k 0 = x) (ey : ys.getD k 0 = y) (h : x < y) : nat xs < nat ys:=by
 rw [nat_drop_succ xs k hkx,nat_drop_succ ys k hky,hd,ex,ey]
 have h1:=nat_lt (hx.take k)
 rw [List.length_take,Nat.min_eq_left (by omega)] at h1
 have h2 : B32 ^ k * (x + B32 * nat (List.drop (k + 1) ys) + 1)<=B32 ^ k * (y + B32 * nat (List.drop (k + 1) ys)):=Nat.mul_le_mul_left _ (by omega)
 rw [Nat.mul_add _ _ 1] at h2
 omega
theorem cmp_len {xs ys : List Nat} (hx : Limbs xs) (hy : Normal ys) (h : xs.length < ys.length) : nat xs < nat ys:=by
 cases hl : ys.length with
 | zero=>omega
 | succ n=>
  have h1:=nat_ge hy hl
  have h2:=nat_lt hx
  have h3:=pow_mono (show xs.length<=n by omega)
  omega
def cmpI (a b : Int) : Int:=if a < b then -1 else if b < a then 1 else 0
def sgn (neg : Bool) (n : Nat) : Int:=if neg then -(n : Int) else (n : Int)
@[simp] theorem sgn_true (n : Nat) : sgn true n = -(n : Int):=rfl
@[simp] theorem sgn_false (n : Nat) : sgn false n = (n : Int):=rfl
theorem sgn_zero (b : Bool) : sgn b 0 = 0:=by cases b <;> rfl
theorem natAbs_sgn (b : Bool) (n : Nat) : (sgn b n).natAbs = n:=by cases b <;> simp [sgn]
theorem mm0 {α : Type _} {x : α} {l : List α} : x ∈ x :: l:=.head _
theorem mm1 {α : Type _} {a0 x : α} {l : List α} : x ∈ a0 :: x :: l:=.tail _ mm0
theorem mm2 {α : Type _} {a0 a1 x : α} {l : List α} : x ∈ a0 :: a1 :: x :: l:=.tail _ mm1
theorem mm3 {α : Type _} {a0 a1 a2 x : α} {l : List α} : x ∈ a0 :: a1 :: a2 :: x :: l:=.tail _ mm2
theorem mm4 {α : Type _} {a0 a1 a2 a3 x : α} {l : List α} : x ∈ a0 :: a1 :: a2 :: a3 :: x :: l:=.tail _ mm3
theorem mm5 {α : Type _} {a0 a1 a2 a3 a4 x : α} {l : List α} : x ∈ a0 :: a1 :: a2 :: a3 :: a4 :: x :: l:=.tail _ mm4
theorem mm6 {α : Type _} {a0 a1 a2 a3 a4 a5 x : α} {l : List α} : x ∈ a0 :: a1 :: a2 :: a3 :: a4 :: a5 :: x :: l:=.tail _ mm5
end Go.Proofs.YtjdemlfceaikgaaGreat

namespace Go.Proofs.YtjdemlfceaikgaaGreat
open Go.RowKit
theorem oM {p : Prop} (h : p:=by omega) : p:=h
theorem sI {p : Prop} (h : p:=by simp) : p:=h
theorem kR {p : Prop} (h : p:=by kernel_rfl) : p:=h
theorem dE {p : Prop} (h : p:=by decide) : p:=h
theorem aU {p : Prop} (h : p:=by repeat' (first | refine List.forall_mem_cons.2 ⟨?_,?_⟩ | exact List.forall_mem_nil _ | (dsimp only; omega))) : p:=h
abbrev tU : TypeId:=96
def LIM : Nat:=1099511627776
theorem LIM_eq : LIM = 1099511627776:=rfl
def LExt (w w' : World) : Prop:=∀(b : Nat) (cs : Array Value) (fz : Nat × Nat),w.heap[b]? = some (.cells cs tU fz)->w'.heap[b]? = some (.cells cs tU fz)
theorem LExt.refl (w : World) : LExt w w:=fun _ _ _ h=>h
theorem LExt.trans {a b c : World} (h : LExt a b) (k : LExt b c) : LExt a c:=fun _ _ _ hh=>k _ _ _ (h _ _ _ hh)
theorem LExt.below {w w' : World} {B : Nat} (h : Below B w w') (hB : w.heap.size<=B) : LExt w w':=fun b cs fz hh=>by
 have hl : b < w.heap.size:=by
  rcases Nat.lt_or_ge b w.heap.size with h1 | h1
  ·exact h1
  ·rw [Array.getElem?_eq_none h1] at hh; cases hh
 rw [h.block b (by omega)]; exact hh
def LimbsAt (w : World) (ao : Option Addr) (xs : List Nat) : Prop:=
 Limbs xs/\(xs ≠ []->∃b off cs fz,ao = some ⟨b,off,none⟩/\w.heap[b]? = some (.cells cs tU fz)/\∀k x,xs[k]? = some x->cs[off + k]? = some (.int .u32 (x : Nat)))
theorem LimbsAt.nil (w : World) (ao : Option Addr) : LimbsAt w ao []:=⟨Limbs.nil,fun h=>absurd rfl h⟩
theorem LimbsAt.ext {w w' : World} {ao : Option Addr} {xs : List Nat} (h : LimbsAt w ao xs) (e : LExt w w') : LimbsAt w' ao xs:=
 ⟨h.1,fun hne=>by
  obtain ⟨b,off,cs,fz,h1,h2,h3⟩:=h.2 hne
  exact ⟨b,off,cs,fz,h1,e _ _ _ h2,h3⟩⟩
theorem LimbsAt.cell {w : World} {ao : Option Addr} {xs : List Nat} (h : LimbsAt w ao xs) {k : Nat} (hk : k < xs.length) :
  ∃b off,ao = some ⟨b,off,none⟩/\b < w.heap.size/\w.cell? ⟨b,off + k,none⟩ = some (.int .u32 (xs.getD k 0 : Nat)):=by
 obtain ⟨b,off,cs,fz,h1,h2,h3⟩:=h.2 (by rintro rfl; simp at hk)
 refine ⟨b,off,h1,?_,?_⟩
 ·exact (Array.getElem?_eq_some_iff.1 h2).1
 ·rw [cell_of_row w b (off + k) cs tU fz h2,h3 k (xs.getD k 0) (by simp [List.getD_eq_getElem?_getD,List.getElem?_eq_getElem hk])]
theorem LimbsAt.limb {w : World} {ao : Option Addr} {xs : List Nat} (h : LimbsAt w ao xs) {k : Nat} (hk : k < xs.length) :
  ∃b off x,ao = some ⟨b,off,none⟩/\b < w.heap.size/\x < 4294967296/\Hid (xs.getD k 0 = x)/\w.cell? ⟨b,off + k,none⟩ = some (.int .u32 (x : Nat)):=by
 obtain ⟨b,off,h1,h2,h3⟩:=h.cell hk
 exact ⟨b,off,_,h1,h2,h.1.get k,rfl,h3⟩
theorem LimbsAt.cells {w : World} {ao : Option Addr} {xs : List Nat} (h : LimbsAt w ao xs) (hk : 0 < xs.length) :
  ∃b off,ao = some ⟨b,off,none⟩/\b < w.heap.size/\∀k,k < xs.length->w.cell? ⟨b,off + k,none⟩ = some (.int .u32 (xs.getD k 0 : Nat)):=by
 obtain ⟨b,off,h1,hb,h2⟩:=h.cell hk
 refine ⟨b,off,h1,hb,fun k hk=>?_⟩
 obtain ⟨b',off',h1',_,h2'⟩:=h.cell hk
 rw [h1] at h1'
 injection h1' with h1'
 injection h1' with e1 e2
 subst e1; subst e2
 exact h2'
theorem LimbsAt.take {w : World} {ao : Option Addr} {xs : List Nat} (h : LimbsAt w ao xs) (n : Nat) : LimbsAt w ao (xs.take n):=
 ⟨h.1.take n,fun hne=>by
  obtain ⟨b,off,cs,fz,h1,h2,h3⟩:=h.2 (by rintro rfl; simp at hne)
  refine ⟨b,off,cs,fz,h1,h2,fun k x hk=>h3 k x ?_⟩
  rw [List.getElem?_take] at hk
  split at hk
  ·exact hk
  ·cases hk⟩
def limbCells (xs : List Nat) : Array Value:=(xs.map fun n=>Value.int .u32 (n : Nat)).toArray
def LBlk (w : World) (b : Nat) (xs : List Nat) : Prop:=w.heap[b]? = some (.cells (limbCells xs) tU (0,0))
theorem LBlk.lt {w : World} {b : Nat} {xs : List Nat} (h : LBlk w b xs) : b < w.heap.size:=(Array.getElem?_eq_some_iff.1 h).1
theorem LBlk.cell {w : World} {b : Nat} {xs : List Nat} (h : LBlk w b xs) {k : Nat} (hk : k < xs.length) : w.cell? ⟨b,k,none⟩ = some (.int .u32 (xs.getD k 0 : Nat)):=by
 rw [cell_of_row w b k _ tU _ h]
 simp [limbCells,List.getElem?_eq_getElem hk,List.getD_eq_getElem?_getD]
theorem LBlk.frozen {w : World} {b : Nat} {xs : List Nat} (h : LBlk w b xs) (k : Nat) : w.frozen? ⟨b,k,none⟩ = false:=frozen_of_row w b k _ _ h
theorem LBlk.set {w : World} {b : Nat} {xs : List Nat} (h : LBlk w b xs) (k n : Nat) : LBlk (w.setCell ⟨b,k,none⟩ (.int .u32 (n : Nat))) b (xs.set k n):=by
 unfold LBlk at h ⊢
 rw [heap_setCell_same w b k _ tU _ h]
 simp [limbCells,List.map_set]
theorem LBlk.set' {w : World} {b : Nat} {xs : List Nat} (h : LBlk w b xs) (k : Nat) (m : Int) (n : Nat) (hm : m = n) : LBlk (w.setCell ⟨b,k,none⟩ (.int .u32 m)) b (xs.set k n):=by
 subst hm; exact h.set k n
theorem LBlk.ext {w w' : World} {b : Nat} {xs : List Nat} (h : LBlk w b xs) (e : LExt w w') : LBlk w' b xs:=e _ _ _ h
theorem LBlk.alloc {w : World} {b : Nat} {xs : List Nat} (h : LBlk w b xs) (o : Obj) : LBlk (w.alloc o) b xs:=(heap_alloc_old w o h.lt).trans h
theorem LBlk.at_ {w : World} {b : Nat} {xs : List Nat} (h : LBlk w b xs) (hx : Limbs xs) : LimbsAt w (some ⟨b,0,none⟩) xs:=
 ⟨hx,fun _=>⟨b,0,_,_,rfl,h,fun k x hk=>by simp [limbCells,hk]⟩⟩
theorem Tryz.infoU : (Tryz.prog.info? tU).map (fun i=>(i.zero,i.size,i.bytes)) = some (some (.int .u32 0),1,4):=by kernel_rfl
theorem run_make_rowN {P : Program} (t e : TypeId) (i : TypeInfo) (z : Value) (ht : P.underlying t = some (.slice e)) (hi : P.info? e = some i) (hz : i.zero = some z)
  (kl kc : IntKind) (n c : Nat) (hnc : n<=c) (hbytes : i.bytes * c<=281474976710656) (h63 : c<=9223372036854775807) (w : World) :
  (Instr.makeSlice t (.int kl (n : Int)) (.int kc (c : Int))).run P w = .ok (.slice (some ⟨w.heap.size,0,none⟩) n c) (w.alloc (.cells (madeCells z.cells (c * i.size)) e)):=by
 have hb : (i.bytes : Int) * (c : Int)<=281474976710656:=by
  have h : ((i.bytes * c : Nat) : Int)<=281474976710656:=by omega
  rwa [Int.natCast_mul] at h
 have hr:=run_make (P:=P) w t e i z ht hi hz kl kc n c (by omega) (by omega) hb (by omega)
 simp only [Int.toNat_natCast] at hr
 exact hr
theorem madeU (n : Nat) : madeCells (Value.int .u32 0).cells (n * 1) = limbCells (List.replicate n 0):=by
 apply Array.ext
 ·simp [madeCells,limbCells]
 ·intro i h1 h2
  simp [madeCells,limbCells,Nat.mod_one,Value.cells]
theorem mkU (m : Int) (n : Nat) (hm : m = n) (h : n<=70368744177664) (W : World) :
  (Instr.makeSlice 64 (.int .i64 m) (.int .i64 m)).run Tryz.prog W = .ok (.slice (some ⟨W.heap.size,0,none⟩) n n) (W.alloc (.cells (limbCells (List.replicate n 0)) tU)):=by
 subst hm
 obtain ⟨i0,hi,hz0,hz1,hz2⟩:=info_parts Tryz.infoU
 have:=run_make_rowN (P:=Tryz.prog) 64 tU i0 _ Tryz.underlying64 hi hz0 .i64 .i64 n n (Nat.le_refl _) (by rw [hz2]; omega) (by omega) W
 rw [this,hz1,madeU]
theorem LBlk.made (w : World) (xs : List Nat) : LBlk (w.alloc (.cells (limbCells xs) tU)) w.heap.size xs:=heap_alloc_new w _
def IntW (w : World) (v : Value) (z : Int) : Prop:=
 ∃neg ao n cap xs,v = .agg #[.bool neg,.slice ao n cap]/\xs.length = n/\n<=cap/\cap<=9223372036854775807/\LimbsAt w ao xs/\Normal xs/\z = sgn neg (nat xs)
def IntV (w : World) (v : Value) (z : Int) : Prop:=
 ∃neg ao n cap xs,v = .agg #[.bool neg,.slice ao n cap]/\xs.length = n/\n<=cap/\cap<=9223372036854775807/\LimbsAt w ao xs/\Normal xs/\z = sgn neg (nat xs)/\(n = 0->neg = false)
theorem IntV.weak {w : World} {v : Value} {z : Int} (h : IntV w v z) : IntW w v z:=by
 obtain ⟨neg,ao,n,cap,xs,h1,h2,h3,h4,h5,h6,h7,_⟩:=h
 exact ⟨neg,ao,n,cap,xs,h1,h2,h3,h4,h5,h6,h7⟩
theorem IntW.ext {w w' : World} {v : Value} {z : Int} (h : IntW w v z) (e : LExt w w') : IntW w' v z:=by
 obtain ⟨neg,ao,n,cap,xs,h1,h2,h3,h4,h5,h6⟩:=h
 exact ⟨neg,ao,n,cap,xs,h1,h2,h3,h4,h5.ext e,h6⟩
theorem IntV.ext {w w' : World} {v : Value} {z : Int} (h : IntV w v z) (e : LExt w w') : IntV w' v z:=by
 obtain ⟨neg,ao,n,cap,xs,h1,h2,h3,h4,h5,h6⟩:=h
 exact ⟨neg,ao,n,cap,xs,h1,h2,h3,h4,h5.ext e,h6⟩
theorem IntV.below {w w' : World} {B : Nat} {v : Value} {z : Int} (h : IntV w v z) (hb : Below B w w') (hB : w.heap.size<=B) : IntV w' v z:=h.ext (LExt.below hb hB)
def Sm (z : Int) : Prop:=z.natAbs < B32 ^ LIM
theorem Sm.len {neg : Bool} {xs : List Nat} (h : Sm (sgn neg (nat xs))) (hn : Normal xs) : xs.length<=LIM:=by
 unfold Sm at h
 rw [natAbs_sgn] at h
 cases hx : xs.length with
 | zero=>omega
 | succ n=>
  have h1:=nat_ge hn hx
  rcases Nat.lt_or_ge n LIM with h2 | h2
  ·omega
  ·have:=pow_mono h2; omega
theorem Sm.of_pow {z : Int} {k : Nat} (h : z.natAbs < B32 ^ k) (hk : k<=LIM) : Sm z:=Nat.lt_of_lt_of_le h (pow_mono hk)
theorem Sm.mono {z y : Int} (h : Sm z) (hy : y.natAbs<=z.natAbs) : Sm y:=Nat.lt_of_le_of_lt hy h
def RetInt (w : World) (z : Int) (e : Ending) (w' : World) : Prop:=∃v,e = .returned v/\IntV w' v z/\Below w.heap.size w w'
def RetLimbs (w : World) (n : Nat) (e : Ending) (w' : World) : Prop:=
 ∃ao len cap xs,e = .returned (.slice ao len cap)/\xs.length = len/\len<=cap/\cap<=9223372036854775807/\LimbsAt w' ao xs/\nat xs = n/\Below w.heap.size w w'
theorem wp_world {P : Program} {c : Code} {Q : Exit->Act->World->Prop} {a : Act} {w : World} (h : ∀W0,Hid (W0 = w)->Code.wp P c Q a W0) : Code.wp P c Q a w:=h w rfl
theorem kc_drew {w : World} {a : Addr} {v : Value} (h : w.cell? a = some v) : w.drew.cell? a = some v:=h
theorem kc_below {w w1 : World} {b o : Nat} {v : Value} (h : w.cell? ⟨b,o,none⟩ = some v) (hb : Below w.heap.size w w1) : w1.cell? ⟨b,o,none⟩ = some v:=
 (hb.cell (p:=⟨b,o,none⟩) (World.block_lt_of_cell? w _ h)).trans h
theorem kc_set {w : World} {b o r i : Nat} {v u : Value} (h : w.cell? ⟨b,o,none⟩ = some v) (hne : b ≠ r) : (w.setCell ⟨r,i,none⟩ u).cell? ⟨b,o,none⟩ = some v:=
 (World.cell?_setCell_other w _ _ u (fun e=>hne (by injection e with e1; exact e1.symm))).trans h
theorem nx {w W W' : World} (h : Below w.heap.size w W) (hb : Below W.heap.size W W') : Below w.heap.size w W':=h.trans (hb.mono h.size)
theorem lx {w W : World} (h : Below w.heap.size w W) : LExt w W:=LExt.below h (Nat.le_refl _)
theorem dr (w : World) : Below w.heap.size w w.drew:=(Below.refl _ _).drew
theorem drN (w : World) (n : Nat) : Below w.heap.size w (w.drewN n):=⟨rfl,rfl,rfl,Nat.le_refl _,fun _ _=>rfl⟩
def Blk (w : World) (g : Nat) (t : TypeId) (cs : Array Value) : Prop:=w.heap[g]? = some (.cells cs t (0,0))
section
variable {w w' : World} {g : Nat} {t : TypeId} {cs : Array Value}
theorem Blk.lt (h : Blk w g t cs) : g < w.heap.size:=(Array.getElem?_eq_some_iff.1 h).1
theorem Blk.cell (h : Blk w g t cs) (i : Nat) : w.cell? ⟨g,i,none⟩ = cs[i]?:=cell_of_row w g i cs t (0,0) h
theorem Blk.frozen (h : Blk w g t cs) (i : Nat) : w.frozen? ⟨g,i,none⟩ = false:=frozen_of_row w g i cs t h
theorem Blk.new (w : World) (t : TypeId) (cs : Array Value) : Blk (w.alloc (.cells cs t)) w.heap.size t cs:=heap_alloc_new w _
theorem Blk.drew (h : Blk w g t cs) : Blk w.drew g t cs:=h
theorem Blk.drewN (h : Blk w g t cs) (n : Nat) : Blk (w.drewN n) g t cs:=h
theorem Blk.alloc (h : Blk w g t cs) (o : Obj) : Blk (w.alloc o) g t cs:=(Below.heap_alloc w o g h.lt).trans h
theorem Blk.set_ (h : Blk w g t cs) (i : Nat) (u : Value) : Blk (w.setCell ⟨g,i,none⟩ u) g t (cs.setIfInBounds i u):=by
 unfold Blk at h ⊢
 simp [World.setCell,Array.getElem?_modify,h]
theorem Blk.far (h : Blk w g t cs) {r : Nat} (hp : g ≠ r) (i : Nat) (u : Value) : Blk (w.setCell ⟨r,i,none⟩ u) g t cs:=(Below.heap_setCell w ⟨r,i,none⟩ u g hp).trans h
theorem Blk.below (h : Blk w g t cs) (hb : Below w.heap.size w w') : Blk w' g t cs:=(hb.block g h.lt).trans h
theorem Blk.at_ (e : Hid (w' = w)) (h : Blk w g t cs) : Blk w' g t cs:=by rw [e.out]; exact h
theorem Blk.lext (h : Blk w g t cs) (hne : t ≠ tU) (i : Nat) (u : Value) : LExt w (w.setCell ⟨g,i,none⟩ u):=fun b c fz hb=>by
 have hg : b ≠ g:=by
  rintro rfl
  unfold Blk at h
  rw [h] at hb
  injection hb with hb
  injection hb with _ ht
  exact hne ht
 exact (Below.heap_setCell w ⟨g,i,none⟩ u b hg).trans hb
theorem bset {B : Nat} {a : World} (h : Below B a w) (hp : B<=g) (i : Nat) (u : Value) : Below B a (w.setCell ⟨g,i,none⟩ u):=h.setCell (p:=⟨g,i,none⟩) hp u
theorem Blk.two {c0 c1 : Value} (h : Blk w g t #[c0,c1]) : w.cell? ⟨g,0,none⟩ = some c0/\w.cell? ⟨g,1,none⟩ = some c1/\w.frozen? ⟨g,0,none⟩ = false/\w.frozen? ⟨g,1,none⟩ = false:=
 ⟨h.cell 0,h.cell 1,h.frozen 0,h.frozen 1⟩
theorem Blk.three {c0 c1 c2 : Value} (h : Blk w g t #[c0,c1,c2]) : w.cell? ⟨g,0,none⟩ = some c0/\w.cell? ⟨g,1,none⟩ = some c1/\w.cell? ⟨g,2,none⟩ = some c2 ∧
  w.frozen? ⟨g,0,none⟩ = false/\w.frozen? ⟨g,1,none⟩ = false/\w.frozen? ⟨g,2,none⟩ = false:=
 ⟨h.cell 0,h.cell 1,h.cell 2,h.frozen 0,h.frozen 1,h.frozen 2⟩
end
theorem Blk.put2 {w : World} {r : Nat} {T : TypeId} {c0 c1 : Value} (h : Blk w r T #[c0,c1]) (x y : Value) : Blk ((w.setCell ⟨r,0,none⟩ x).setCell ⟨r,1,none⟩ y) r T #[x,y]:=by
 simpa using (h.set_ 0 x).set_ 1 y
theorem Blk.lext2 {w : World} {r : Nat} {T : TypeId} {cs : Array Value} (h : Blk w r T cs) (hne : T ≠ tU) (x y : Value) : LExt w ((w.setCell ⟨r,0,none⟩ x).setCell ⟨r,1,none⟩ y):=
 (h.lext hne 0 _).trans ((h.set_ 0 _).lext hne 1 _)
theorem Tryz.sizeI : (Tryz.prog.info? 66).map (·.size) = some 2:=by kernel_rfl
theorem bodyPost_int {fn : Func} {a : Act} {w W : World} {z : Int} {r : Nat} {v : Array Value} {p : Tmp} (h : fn.results = #[.cell p 66]) (hd : a.defers = [])
  (hp : a.tmps.getD p undef = .pointer (some ⟨r,0,none⟩)) (hb : Blk W r 66 v) (hv : IntV W (.agg v) z) (hbel : Below w.heap.size w W) : bodyPost Tryz.prog fn (RetInt w z) .ret a W:=by
 obtain ⟨neg,ao,n,cap,xs,h1,h2⟩:=hv
 injection h1 with h1
 subst h1
 exact bodyPost_ret (results_cell_row h _ W r _ _ _ _ hp hb Tryz.underlying66 rfl (by rw [Tryz.sizeI]; rfl)) hd ⟨_,rfl,⟨neg,ao,n,cap,xs,rfl,h2⟩,hbel⟩
section
variable {w W0 : World} {T1 T2 T3 T4 T5 : TypeId} {A B C D E : Array Value}
theorem world1 (h : Hid (W0 = w.alloc (.cells A T1))) : Below w.heap.size w W0/\Blk W0 w.heap.size T1 A/\w.heap.size < W0.heap.size:=by
 rw [h.out]
 exact ⟨(Below.refl _ _).alloc (Nat.le_refl _) _,Blk.new _ _ _,by simp⟩
theorem world2 (h : Hid (W0 = (w.alloc (.cells A T1)).alloc (.cells B T2))) : Below w.heap.size w W0/\Blk W0 w.heap.size T1 A/\Blk W0 (w.heap.size + 1) T2 B/\w.heap.size + 1 < W0.heap.size:=by
 obtain ⟨h1,h2,h3⟩:=world1 (w:=w.alloc (.cells A T1)) (W0:=W0) (A:=B) (T1:=T2) h
 obtain ⟨k1,k2,k3⟩:=world1 (w:=w) (W0:=w.alloc (.cells A T1)) (A:=A) (T1:=T1) rfl
 simp only [World.size_alloc] at h2 h3
 exact ⟨nx k1 h1,k2.below h1,h2,h3⟩
theorem world3 (h : Hid (W0 = ((w.alloc (.cells A T1)).alloc (.cells B T2)).alloc (.cells C T3))) :
  Below w.heap.size w W0/\Blk W0 w.heap.size T1 A/\Blk W0 (w.heap.size + 1) T2 B/\Blk W0 (w.heap.size + 1 + 1) T3 C/\w.heap.size + 1 + 1 < W0.heap.size:=by
 obtain ⟨h1,h2,h3⟩:=world1 (w:=(w.alloc (.cells A T1)).alloc (.cells B T2)) (W0:=W0) h
 obtain ⟨k1,k2,k3,k4⟩:=world2 (w:=w) (W0:=(w.alloc (.cells A T1)).alloc (.cells B T2)) rfl
 simp only [World.size_alloc] at h2 h3
 exact ⟨nx k1 h1,k2.below h1,k3.below h1,h2,h3⟩
theorem world4 (h : Hid (W0 = (((w.alloc (.cells A T1)).alloc (.cells B T2)).alloc (.cells C T3)).alloc (.cells D T4))) :
  Below w.heap.size w W0/\Blk W0 w.heap.size T1 A/\Blk W0 (w.heap.size + 1) T2 B/\Blk W0 (w.heap.size + 1 + 1) T3 C/\Blk W0 (w.heap.size + 1 + 1 + 1) T4 D/\w.heap.size + 1 + 1 + 1 < W0.heap.size:=by
 obtain ⟨h1,h2,h3⟩:=world1 (w:=((w.alloc (.cells A T1)).alloc (.cells B T2)).alloc (.cells C T3)) (W0:=W0) h
 obtain ⟨k1,k2,k3,k4,k5⟩:=world3 (w:=w) (W0:=((w.alloc (.cells A T1)).alloc (.cells B T2)).alloc (.cells C T3)) rfl
 simp only [World.size_alloc] at h2 h3
 exact ⟨nx k1 h1,k2.below h1,k3.below h1,k4.below h1,h2,h3⟩
end
set_option maxHeartbeats 400000 in
theorem trim_any (ao : Option Addr) (n cap : Nat) (xs : List Nat) (w : World) (hn : xs.length = n) (hl : n<=cap) (hcap : cap<=9223372036854775807) (hx : LimbsAt w ao xs) :
  Calls Tryz.prog 110 #[.slice ao n cap] w fun e w'=>
   e = .returned (.slice ao (topLen xs n) (topLen xs n))/\w = w':=by
 have HN:=Lib.hid hn
 have hle:=topLen_le xs n
 have hlen : xs.length<=n:=by omega
 have hlen' : n<=xs.length:=by omega
 clear hn
 go_enter Tryz.func110,Tryz.ntmps110
 go_wp2
 go_step3
 go_wp2
 go_step3
 go_wp2
 go_loop [3] (fun v=>∃k : Nat,k<=n/\v = .int .i64 k/\Hid (topLen xs k = topLen xs n)) (fun v=>(intOf v).toNat)
 case atStart=>exact ⟨n,Nat.le_refl _,rfl,rfl⟩
 case round=>
  obtain ⟨k,hk,rfl,ht⟩:=hrel
  cases k with
  | zero=>
   have e : topLen xs n = 0:=ht.out.symm
   go_wp2
   go_ret
   exact ⟨by simp [e],rfl⟩
  | succ k=>
   obtain ⟨b,off,x,rfl,_,hx32,HX,hck⟩:=hx.limb (k:=k) oM
   by_cases hz : x = 0
   ·have ht' : Hid (topLen xs k = topLen xs n):=by
     have:=ht.out; rw [show topLen xs (k + 1) = if xs.getD k 0 = 0 then topLen xs k else k + 1 from rfl,if_pos (HX.out.trans hz)] at this; exact this
    subst hz
    clear ht
    go_wp2
    go_round
    case rel=>exact ⟨k,by omega,by go_num,ht'⟩
    case measure=>simp [intOf]
   ·have ht' : Hid (topLen xs n = k + 1):=by
     have:=ht.out; rw [show topLen xs (k + 1) = if xs.getD k 0 = 0 then topLen xs k else k + 1 from rfl,if_neg (by rw [HX.out]; exact hz)] at this; exact this.symm
    have hzz : ((x : Int) == 0) = false:=by simpa using hz
    clear hz ht
    go_wp2
    go_ret
    exact ⟨by simp [ht'.out],rfl⟩
set_option maxHeartbeats 400000 in
set_option maxRecDepth 20000 in
theorem plus_any (ao1 ao2 : Option Addr) (n1 cap1 n2 cap2 : Nat) (xs ys : List Nat) (w : World) (hn1 : xs.length = n1) (hn2 : ys.length = n2) (hl1 : n1<=cap1) (hl2 : n2<=cap2)
  (hc1 : cap1<=9223372036854775807) (hc2 : cap2<=9223372036854775807) (hb1 : n1<=4 * LIM) (hb2 : n2<=4 * LIM) (hx1 : LimbsAt w ao1 xs) (hx2 : LimbsAt w ao2 ys) :
  Calls Tryz.prog 126 #[.slice ao1 n1 cap1,.slice ao2 n2 cap2] w (RetLimbs w (nat xs + nat ys)):=by
 have HN1:=Lib.hid hn1
 have HN2:=Lib.hid hn2
 have hlen1 : xs.length<=n1:=by omega
 have hlen1' : n1<=xs.length:=by omega
 have hlen2 : ys.length<=n2:=by omega
 have hlen2' : n2<=ys.length:=by omega
 clear hn1 hn2
 rw [LIM_eq] at hb1 hb2
 by_cases hlt : n1 < n2
 case pos=>
  have hle : n1<=n2:=by omega
  have hmk:=fun W=>mkU ((n2 : Int) + 1) (n2 + 1) oM oM W
  go_enter Tryz.func126,Tryz.ntmps126
  go_wp2
  clear hmk
  go_loopw [6,21] (fun c i wr=>∃(k d : Nat) (zs : List Nat),k<=n2/\i = .int .i64 k/\c = .int .u64 d/\d<=1/\LBlk wr w.heap.size zs/\Below w.heap.size w wr/\n2 < zs.length ∧
    Hid (zs.length = n2 + 1/\Limbs zs/\nat (zs.take k) + d * B32 ^ k = nat (ys.take k) + nat (xs.take k))) (fun _ i _=>n2 - (intOf i).toNat)
  case atStart=>exact ⟨0,0,List.replicate (n2 + 1) 0,by omega,rfl,rfl,by omega,LBlk.made _ _,(Below.refl _ _).alloc (Nat.le_refl _) _,by simp,⟨by simp,fun x hx=>by rw [List.eq_of_mem_replicate hx]; exact B32_pos,by simp⟩⟩
  case round=>
   obtain ⟨k,d,zs,hk,rfl,rfl,hd,hblk,hbel,hlz,HH⟩:=hrel
   have hfr:=hblk.frozen k
   by_cases hkn : k < n2
   ·obtain ⟨b,off,x,rfl,hbw,hx32,HX,hck⟩:=hx2.limb (k:=k) oM
    have hck':=(hbel.cell (p:=⟨b,off + k,none⟩) hbw).trans hck
    have hcz:=hblk.cell (k:=k) oM
    clear hck
    by_cases hk2 : k < n1
    ·obtain ⟨b2,off2,y,rfl,hbw2,hy32,HY,hcy⟩:=hx1.limb (k:=k) oM
     have hcy':=(hbel.cell (p:=⟨b2,off2 + k,none⟩) hbw2).trans hcy
     clear hcy
     go_wp2
     go_roundw
     case rel=>exact ⟨k + 1,(d + x + y) / 4294967296,zs.set k ((d + x + y) % 4294967296),by omega,by go_num,by go_num,by omega,hblk.set' _ _ _ oM,hbel.setCell (Nat.le_refl _) _,by simpa using hlz,
       ⟨by simpa using HH.out.1,HH.out.2.1.set _ _ (Nat.mod_lt _ oM),plus_step HH.out.2.2 oM HX.out HY.out⟩⟩
     case measure=>simp [intOf]; omega
    ·have HY : xs.getD k 0 = 0:=by rw [List.getD_eq_getElem?_getD,List.getElem?_eq_none oM]; rfl
     have HY':=Lib.hid HY
     clear HY
     go_wp2
     go_roundw
     case rel=>exact ⟨k + 1,(d + x) / 4294967296,zs.set k ((d + x) % 4294967296),by omega,by go_num,by go_num,by omega,hblk.set' _ _ _ oM,hbel.setCell (Nat.le_refl _) _,by simpa using hlz,
       ⟨by simpa using HH.out.1,HH.out.2.1.set _ _ (Nat.mod_lt _ oM),plus_step HH.out.2.2 oM HX.out HY'.out⟩⟩
     case measure=>simp [intOf]; omega
   ·obtain rfl : n2 = k:=by omega
    have hcz:=hblk.cell (k:=n2) oM
    go_wp2
    go_ret
    refine ⟨_,_,_,zs.set n2 d,rfl,by simpa using HH.out.1,by omega,by omega,(hblk.set' _ _ d oM).at_ (HH.out.2.1.set _ _ (by unfold B32; omega)),?_,hbel.setCell (Nat.le_refl _) _⟩
    have h1:=HH.out.2.2
    have h2:=nat_take_set zs n2 d hlz
    rw [nat_take_all _ (by simp [HH.out.1]),h1,nat_take_all ys oM,nat_take_all xs oM] at h2
    omega
 case neg=>
  have hle : n2<=n1:=by omega
  have hmk:=fun W=>mkU ((n1 : Int) + 1) (n1 + 1) oM oM W
  go_enter Tryz.func126,Tryz.ntmps126
  go_wp2
  clear hmk
  go_loopw [6,21] (fun c i wr=>∃(k d : Nat) (zs : List Nat),k<=n1/\i = .int .i64 k/\c = .int .u64 d/\d<=1/\LBlk wr w.heap.size zs/\Below w.heap.size w wr/\n1 < zs.length ∧
    Hid (zs.length = n1 + 1/\Limbs zs/\nat (zs.take k) + d * B32 ^ k = nat (xs.take k) + nat (ys.take k))) (fun _ i _=>n1 - (intOf i).toNat)
  case atStart=>exact ⟨0,0,List.replicate (n1 + 1) 0,by omega,rfl,rfl,by omega,LBlk.made _ _,(Below.refl _ _).alloc (Nat.le_refl _) _,by simp,⟨by simp,fun x hx=>by rw [List.eq_of_mem_replicate hx]; exact B32_pos,by simp⟩⟩
  case round=>
   obtain ⟨k,d,zs,hk,rfl,rfl,hd,hblk,hbel,hlz,HH⟩:=hrel
   have hfr:=hblk.frozen k
   by_cases hkn : k < n1
   ·obtain ⟨b,off,x,rfl,hbw,hx32,HX,hck⟩:=hx1.limb (k:=k) oM
    have hck':=(hbel.cell (p:=⟨b,off + k,none⟩) hbw).trans hck
    have hcz:=hblk.cell (k:=k) oM
    clear hck
    by_cases hk2 : k < n2
    ·obtain ⟨b2,off2,y,rfl,hbw2,hy32,HY,hcy⟩:=hx2.limb (k:=k) oM
     have hcy':=(hbel.cell (p:=⟨b2,off2 + k,none⟩) hbw2).trans hcy
     clear hcy
     go_wp2
     go_roundw
     case rel=>exact ⟨k + 1,(d + x + y) / 4294967296,zs.set k ((d + x + y) % 4294967296),by omega,by go_num,by go_num,by omega,hblk.set' _ _ _ oM,hbel.setCell (Nat.le_refl _) _,by simpa using hlz,
       ⟨by simpa using HH.out.1,HH.out.2.1.set _ _ (Nat.mod_lt _ oM),plus_step HH.out.2.2 oM HX.out HY.out⟩⟩
     case measure=>simp [intOf]; omega
    ·have HY : ys.getD k 0 = 0:=by rw [List.getD_eq_getElem?_getD,List.getElem?_eq_none oM]; rfl
     have HY':=Lib.hid HY
     clear HY
     go_wp2
     go_roundw
     case rel=>exact ⟨k + 1,(d + x) / 4294967296,zs.set k ((d + x) % 4294967296),by omega,by go_num,by go_num,by omega,hblk.set' _ _ _ oM,hbel.setCell (Nat.le_refl _) _,by simpa using hlz,
       ⟨by simpa using HH.out.1,HH.out.2.1.set _ _ (Nat.mod_lt _ oM),plus_step HH.out.2.2 oM HX.out HY'.out⟩⟩
     case measure=>simp [intOf]; omega
   ·obtain rfl : n1 = k:=by omega
    have hcz:=hblk.cell (k:=n1) oM
    go_wp2
    go_ret
    refine ⟨_,_,_,zs.set n1 d,rfl,by simpa using HH.out.1,by omega,by omega,(hblk.set' _ _ d oM).at_ (HH.out.2.1.set _ _ (by unfold B32; omega)),?_,hbel.setCell (Nat.le_refl _) _⟩
    have h1:=HH.out.2.2
    have h2:=nat_take_set zs n1 d hlz
    rw [nat_take_all _ (by simp [HH.out.1]),h1,nat_take_all xs oM,nat_take_all ys oM] at h2
    omega
set_option maxHeartbeats 400000 in
theorem cmpInt_any (a b : Int) (w : World) :
  Calls Tryz.prog 117 #[.int .i64 a,.int .i64 b] w fun e w'=>e = .returned (.int .i64 (cmpI a b))/\w = w':=by
 by_cases h1 : a < b
 ·have h1' : ¬ b < a:=by omega
  have e : cmpI a b = -1:=by unfold cmpI; rw [if_pos h1]
  have E:=Lib.hid e
  clear e
  go_enter Tryz.func117,Tryz.ntmps117
  go_wp2_with (go_in)
  go_ret
  exact ⟨by rw [E.out]; rfl,rfl⟩
 ·by_cases h2 : b < a
  ·have e : cmpI a b = 1:=by unfold cmpI; rw [if_neg h1,if_pos h2]
   have E:=Lib.hid e
   clear e
   go_enter Tryz.func117,Tryz.ntmps117
   go_wp2_with (go_in)
   go_ret
   exact ⟨by rw [E.out]; rfl,rfl⟩
  ·have e : cmpI a b = 0:=by unfold cmpI; rw [if_neg h1,if_neg h2]
   have E:=Lib.hid e
   clear e
   go_enter Tryz.func117,Tryz.ntmps117
   go_wp2_with (go_in)
   go_ret
   exact ⟨by rw [E.out]; rfl,rfl⟩
set_option maxHeartbeats 400000 in
theorem cmpU32_any (a b : Int) (w : World) :
  Calls Tryz.prog 132 #[.int .u32 a,.int .u32 b] w fun e w'=>e = .returned (.int .i64 (cmpI a b))/\w = w':=by
 by_cases h1 : a < b
 ·have h1' : ¬ b < a:=by omega
  have e : cmpI a b = -1:=by unfold cmpI; rw [if_pos h1]
  have E:=Lib.hid e
  clear e
  go_enter Tryz.func132,Tryz.ntmps132
  go_wp2_with (go_in)
  go_ret
  exact ⟨by rw [E.out]; rfl,rfl⟩
 ·by_cases h2 : b < a
  ·have e : cmpI a b = 1:=by unfold cmpI; rw [if_neg h1,if_pos h2]
   have E:=Lib.hid e
   clear e
   go_enter Tryz.func132,Tryz.ntmps132
   go_wp2_with (go_in)
   go_ret
   exact ⟨by rw [E.out]; rfl,rfl⟩
  ·have e : cmpI a b = 0:=by unfold cmpI; rw [if_neg h1,if_neg h2]
   have E:=Lib.hid e
   clear e
   go_enter Tryz.func132,Tryz.ntmps132
   go_wp2_with (go_in)
   go_ret
   exact ⟨by rw [E.out]; rfl,rfl⟩
theorem cmpU32_is (a b c : Int) (w : World) (h : cmpI a b = c) :
  Calls Tryz.prog 132 #[.int .u32 a,.int .u32 b] w fun e w'=>e = .returned (.int .i64 c)/\w' = w:=
 (cmpU32_any a b w).mono fun _ _ ⟨he,hw⟩=>⟨by rw [he,h],hw.symm⟩
theorem cmpI_lt {a b : Int} (h : a < b) : cmpI a b = -1:=by unfold cmpI; rw [if_pos h]
theorem cmpI_gt {a b : Int} (h : b < a) : cmpI a b = 1:=by unfold cmpI; rw [if_neg oM,if_pos h]
theorem cmpI_eq {a b : Int} (h : a = b) : cmpI a b = 0:=by unfold cmpI; rw [if_neg oM,if_neg oM]
set_option maxHeartbeats 400000 in
theorem compare_any (ao1 ao2 : Option Addr) (n1 cap1 n2 cap2 : Nat) (xs ys : List Nat) (w : World) (hn1 : xs.length = n1) (hn2 : ys.length = n2) (hl1 : n1<=cap1) (hl2 : n2<=cap2)
  (hc1 : cap1<=9223372036854775807) (hc2 : cap2<=9223372036854775807) (hx1 : LimbsAt w ao1 xs) (hx2 : LimbsAt w ao2 ys) (hN1 : Normal xs) (hN2 : Normal ys) :
  Calls Tryz.prog 118 #[.slice ao1 n1 cap1,.slice ao2 n2 cap2] w fun e w'=>e = .returned (.int .i64 (cmpI (nat xs) (nat ys)))/\∃q,w' = w.drewN q:=by
 have HN1:=Lib.hid hn1
 have HN2:=Lib.hid hn2
 by_cases hne : n1 = n2
 ·subst hne
  have ec : ((cmpI (n1 : Int) (n1 : Int)) != 0) = false:=by unfold cmpI; simp
  have hlen1 : xs.length<=n1:=by omega
  have hlen1' : n1<=xs.length:=by omega
  have hlen2 : ys.length<=n1:=by omega
  have hlen2' : n1<=ys.length:=by omega
  clear hn1 hn2
  go_enter Tryz.func118,Tryz.ntmps118
  go_wp2_with (go_at_call 117; refine (cmpInt_any _ _ _).mono ?_; rintro e w' ⟨rfl,rfl⟩)
  clear ec
  go_loopw [6] (fun i wr=>∃k q : Nat,k<=n1/\i = .int .i64 ((k : Int) - 1)/\Hid (xs.drop k = ys.drop k)/\Hid (wr = w.drewN q)) (fun i _=>(intOf i + 1).toNat)
  case atStart=>exact ⟨n1,0,Nat.le_refl _,rfl,by show _ = _; rw [List.drop_eq_nil_of_le oM,List.drop_eq_nil_of_le oM],rfl⟩
  case round=>
   obtain ⟨k,q,hk,rfl,HD,HW⟩:=hrel
   cases k with
   | zero=>
    have e0 : cmpI (nat xs : Int) (nat ys : Int) = 0:=by
     have : xs = ys:=by simpa using HD.out
     subst this; unfold cmpI; simp
    have E:=Lib.hid e0
    clear e0
    go_wp2
    go_ret
    exact ⟨by rw [E.out]; rfl,_,HW.out⟩
   | succ k=>
    obtain ⟨b,off,x,rfl,hbw,hx32,HX,hck⟩:=hx1.limb (k:=k) oM
    obtain ⟨b2,off2,y,rfl,hbw2,hy32,HY,hcy⟩:=hx2.limb (k:=k) oM
    have hck' : wr.cell? ⟨b,off + k,none⟩ = some (.int .u32 (x : Nat)):=by rw [HW.out]; exact hck
    have hcy' : wr.cell? ⟨b2,off2 + k,none⟩ = some (.int .u32 (y : Nat)):=by rw [HW.out]; exact hcy
    have ek : IntKind.i64.wrap ((k : Int) + 1 - 1) = k:=by rw [IntWalk.i64_in _ oM]; omega
    clear hck hcy
    rcases Nat.lt_trichotomy x y with hxy | hxy | hxy
    ·have E : Hid (cmpI (nat xs) (nat ys) = -1):=cmpI_lt (by have:=cmp_lt hx1.1 oM oM HD.out HX.out HY.out hxy; omega)
     have hcall:=fun W=>cmpU32_is x y (-1) W (cmpI_lt oM)
     go_wp2
     go_quiet ((go_at_call 132; exact Calls.quiet_of_same (hcall _)))
     go_wp2
     go_ret
     exact ⟨by rw [E.out]; rfl,_,by rw [HW.out,World.drewN_drewN]⟩
    ·subst hxy
     have HD' : Hid (xs.drop k = ys.drop k):=by
      show _ = _
      rw [List.drop_eq_getElem_cons (l:=xs) (i:=k) oM,List.drop_eq_getElem_cons (l:=ys) (i:=k) oM,HD.out]
      have h1:=HX.out; have h2:=HY.out
      rw [List.getD_eq_getElem?_getD,List.getElem?_eq_getElem oM] at h1 h2
      simp at h1 h2
      rw [h1,h2]
     have hcall:=fun W=>cmpU32_is x x 0 W (cmpI_eq rfl)
     clear HD HX HY
     go_wp2
     go_quiet ((go_at_call 132; exact Calls.quiet_of_same (hcall _)))
     go_wp2
     go_roundw
     case rel=>exact ⟨k,_,by omega,by go_num,HD',by show _ = _; rw [HW.out,World.drewN_drewN]⟩
     case measure=>simp [intOf]
    ·have E : Hid (cmpI (nat xs) (nat ys) = 1):=cmpI_gt (by have:=cmp_lt hx2.1 oM oM HD.out.symm HY.out HX.out hxy; omega)
     have hcall:=fun W=>cmpU32_is x y 1 W (cmpI_gt oM)
     go_wp2
     go_quiet ((go_at_call 132; exact Calls.quiet_of_same (hcall _)))
     go_wp2
     go_ret
     exact ⟨by rw [E.out]; rfl,_,by rw [HW.out,World.drewN_drewN]⟩
 ·rcases Nat.lt_or_gt_of_ne hne with h | h
  ·have e1 : cmpI (n1 : Int) (n2 : Int) = -1:=cmpI_lt oM
   have E : Hid (cmpI (nat xs) (nat ys) = -1):=cmpI_lt (by have:=cmp_len hx1.1 hN2 oM; omega)
   have hcall:=fun W=>(cmpInt_any n1 n2 W)
   rw [e1] at hcall
   clear e1
   go_enter Tryz.func118,Tryz.ntmps118
   go_wp2_with (go_at_call 117; refine (hcall _).mono ?_; rintro e w' ⟨rfl,rfl⟩)
   go_ret
   exact ⟨by rw [E.out]; rfl,0,rfl⟩
  ·have e1 : cmpI (n1 : Int) (n2 : Int) = 1:=cmpI_gt oM
   have E : Hid (cmpI (nat xs) (nat ys) = 1):=cmpI_gt (by have:=cmp_len hx2.1 hN1 oM; omega)
   have hcall:=fun W=>(cmpInt_any n1 n2 W)
   rw [e1] at hcall
   clear e1
   go_enter Tryz.func118,Tryz.ntmps118
   go_wp2_with (go_at_call 117; refine (hcall _).mono ?_; rintro e w' ⟨rfl,rfl⟩)
   go_ret
   exact ⟨by rw [E.out]; rfl,0,rfl⟩
theorem minus_step {xs ys zs : List Nat} {k d x y v e : Nat} (h : nat (zs.take k) + nat (ys.take k) = nat (xs.take k) + d * B32 ^ k) (hk : k < zs.length)
  (hx : xs.getD k 0 = x) (hy : ys.getD k 0 = y) (hv : v + y + d = x + e * 4294967296) :
  nat ((zs.set k v).take (k + 1)) + nat (ys.take (k + 1)) = nat (xs.take (k + 1)) + e * B32 ^ (k + 1):=by
 rw [nat_take_set _ _ _ hk,nat_take_succ,nat_take_succ,hx,hy,Nat.pow_succ,B32_eq]
 rw [B32_eq] at h
 generalize 4294967296 ^ k = p at *
 have e1 : (v + y + d) * p = (x + e * 4294967296) * p:=by rw [hv]
 rw [Nat.add_mul,Nat.add_mul,Nat.add_mul,Nat.mul_assoc,Nat.mul_comm 4294967296 p] at e1
 omega
theorem sub_borrow (x y d : Nat) (hx : x < 4294967296) (hy : y < 4294967296) (hd : d<=1) :
  ∃v e : Nat,IntKind.u32.wrap (IntKind.u64.wrap (IntKind.u64.wrap ((x : Int) - d) - y)) = v/\IntKind.u64.wrap (IntKind.u64.wrap ((x : Int) - d) - y) / 9223372036854775808 = e/\v < 4294967296/\e<=1/\v + y + d = x + e * 4294967296:=by
 simp only [IntKind.wrap_u64,IntKind.wrap_u32]
 by_cases h : y + d<=x
 ·exact ⟨x - d - y,0,by omega,by omega,by omega,by omega,by omega⟩
 ·exact ⟨x + 4294967296 - d - y,1,by omega,by omega,by omega,by omega,by omega⟩
theorem sub_borrow0 (x d : Nat) (hx : x < 4294967296) (hd : d<=1) :
  ∃v e : Nat,IntKind.u32.wrap (IntKind.u64.wrap ((x : Int) - d)) = v/\IntKind.u64.wrap ((x : Int) - d) / 9223372036854775808 = e/\v < 4294967296/\e<=1/\v + 0 + d = x + e * 4294967296:=by
 simp only [IntKind.wrap_u64,IntKind.wrap_u32]
 by_cases h : d<=x
 ·exact ⟨x - d,0,by omega,by omega,by omega,by omega,by omega⟩
 ·exact ⟨x + 4294967296 - d,1,by omega,by omega,by omega,by omega,by omega⟩
set_option maxHeartbeats 400000 in
set_option maxRecDepth 20000 in
theorem minus_any (ao1 ao2 : Option Addr) (n1 cap1 n2 cap2 : Nat) (xs ys : List Nat) (w : World) (hn1 : xs.length = n1) (hn2 : ys.length = n2) (hl1 : n1<=cap1) (hl2 : n2<=cap2)
  (hc1 : cap1<=9223372036854775807) (hc2 : cap2<=9223372036854775807) (hb1 : n1<=4 * LIM) (hx1 : LimbsAt w ao1 xs) (hx2 : LimbsAt w ao2 ys) (hle : n2<=n1) (hval : nat ys<=nat xs) :
  Calls Tryz.prog 127 #[.slice ao1 n1 cap1,.slice ao2 n2 cap2] w (RetLimbs w (nat xs - nat ys)):=by
 have HN1:=Lib.hid hn1
 have HN2:=Lib.hid hn2
 have HV:=Lib.hid hval
 have hlen1 : xs.length<=n1:=by omega
 have hlen1' : n1<=xs.length:=by omega
 have hlen2 : ys.length<=n2:=by omega
 have hlen2' : n2<=ys.length:=by omega
 clear hn1 hn2 hval
 rw [LIM_eq] at hb1
 have hmk:=fun W=>mkU (n1 : Int) n1 oM oM W
 go_enter Tryz.func127,Tryz.ntmps127
 go_wp2
 clear hmk
 go_loopw [6,14] (fun c i wr=>∃(k d : Nat) (zs : List Nat),k<=n1/\i = .int .i64 k/\c = .int .u64 d/\d<=1/\LBlk wr w.heap.size zs/\Below w.heap.size w wr/\n1<=zs.length ∧
   Hid (zs.length = n1/\Limbs zs/\nat (zs.take k) + nat (ys.take k) = nat (xs.take k) + d * B32 ^ k)) (fun _ i _=>n1 - (intOf i).toNat)
 case atStart=>exact ⟨0,0,List.replicate n1 0,by omega,rfl,rfl,by omega,LBlk.made _ _,(Below.refl _ _).alloc (Nat.le_refl _) _,by simp,⟨by simp,fun x hx=>by rw [List.eq_of_mem_replicate hx]; exact B32_pos,by simp⟩⟩
 case round=>
  obtain ⟨k,d,zs,hk,rfl,rfl,hd,hblk,hbel,hlz,HH⟩:=hrel
  have hfr:=hblk.frozen k
  by_cases hkn : k < n1
  ·obtain ⟨b,off,x,rfl,hbw,hx32,HX,hck⟩:=hx1.limb (k:=k) oM
   have hck':=(hbel.cell (p:=⟨b,off + k,none⟩) hbw).trans hck
   have hcz:=hblk.cell (k:=k) oM
   clear hck
   by_cases hk2 : k < n2
   ·obtain ⟨b2,off2,y,rfl,hbw2,hy32,HY,hcy⟩:=hx2.limb (k:=k) oM
    have hcy':=(hbel.cell (p:=⟨b2,off2 + k,none⟩) hbw2).trans hcy
    clear hcy
    go_wp2
    go_roundw
    obtain ⟨v,e,e1,e2,e3,e4,e5⟩:=sub_borrow x y d hx32 hy32 hd
    case rel=>exact ⟨k + 1,e,zs.set k v,by omega,by go_num,by rw [e2],by omega,hblk.set' _ _ v (by first | exact e1 | omega),hbel.setCell (Nat.le_refl _) _,by simpa using hlz,
      ⟨by simpa using HH.out.1,HH.out.2.1.set _ _ e3,minus_step HH.out.2.2 oM HX.out HY.out e5⟩⟩
    case measure=>simp [intOf]; omega
   ·have HY : ys.getD k 0 = 0:=by rw [List.getD_eq_getElem?_getD,List.getElem?_eq_none oM]; rfl
    have HY':=Lib.hid HY
    clear HY
    go_wp2
    go_roundw
    obtain ⟨v,e,e1,e2,e3,e4,e5⟩:=sub_borrow0 x d hx32 hd
    case rel=>exact ⟨k + 1,e,zs.set k v,by omega,by go_num,by rw [e2],by omega,hblk.set' _ _ v (by first | exact e1 | omega),hbel.setCell (Nat.le_refl _) _,by simpa using hlz,
      ⟨by simpa using HH.out.1,HH.out.2.1.set _ _ e3,minus_step HH.out.2.2 oM HX.out HY'.out e5⟩⟩
    case measure=>simp [intOf]; omega
  ·obtain rfl : n1 = k:=by omega
   go_wp2
   go_ret
   have h1:=HH.out.2.2
   rw [nat_take_all xs hlen1,nat_take_all ys oM,nat_take_all zs (by rw [HH.out.1]; omega)] at h1
   have h2:=nat_lt HH.out.2.1
   rw [HH.out.1] at h2
   have h3:=HV.out
   refine ⟨_,_,_,zs,rfl,HH.out.1,by omega,by omega,hblk.at_ HH.out.2.1,?_,hbel⟩
   generalize B32 ^ n1 = p at h1 h2
   have h4 : d = 0 ∨ d = 1:=by omega
   rcases h4 with rfl | rfl <;> omega
theorem times_step {ys zs zs0 : List Nat} {i k c x y z : Nat} (h : nat (zs.take (i + k)) + c * B32 ^ (i + k) = nat (zs0.take (i + k)) + x * B32 ^ i * nat (ys.take k)) (hk : i + k < zs.length)
    (hy : ys.getD k 0 = y) (hz : zs.getD (i + k) 0 = z) (hz0 : zs0.getD (i + k) 0 = z) :
    nat ((zs.set (i + k) ((c + (x * y + z)) % 4294967296)).take (i + (k + 1))) + (c + (x * y + z)) / 4294967296 * B32 ^ (i + (k + 1)) = nat (zs0.take (i + (k + 1))) + x * B32 ^ i * nat (ys.take (k + 1)):=by
  rw [show i + (k + 1) = i + k + 1 from rfl,nat_take_set _ _ _ hk,nat_take_succ zs0,nat_take_succ ys,hy,hz0,Nat.mul_add,Nat.pow_succ,B32_eq]
  rw [B32_eq] at h
  have e1 : x * 4294967296 ^ i * (y * 4294967296 ^ k) = x * y * 4294967296 ^ (i + k):=by rw [Nat.pow_add]; simp only [Nat.mul_assoc,Nat.mul_comm,Nat.mul_left_comm]
  rw [e1]
  generalize 4294967296 ^ (i + k) = p at *
  generalize x * 4294967296 ^ i * nat (ys.take k) = t at *
  generalize x * y = m at *
  have e:=Nat.div_add_mod (c + (m + z)) 4294967296
  generalize (c + (m + z)) / 4294967296 = q at *
  generalize (c + (m + z)) % 4294967296 = r at *
  have e2 : r * p + q * (p * 4294967296) = (c + (m + z)) * p:=by rw [<-e,Nat.add_mul,Nat.mul_comm 4294967296 q,Nat.mul_assoc,Nat.mul_comm 4294967296 p,Nat.add_comm]
  rw [Nat.add_mul,Nat.add_mul] at e2
  omega
theorem mul_lt32 {x y : Nat} (hx : x < 4294967296) (hy : y < 4294967296) : x * y<=18446744065119617025:=by
  have h1 : x * y<=4294967295 * 4294967295:=Nat.mul_le_mul oM oM
  omega
theorem mul_lt32i {x y : Nat} (hx : x < 4294967296) (hy : y < 4294967296) : (x : Int) * (y : Int)<=18446744065119617025/\0<=(x : Int) * (y : Int):=by
  have h:=mul_lt32 hx hy
  rw [<-Int.natCast_mul]
  generalize x * y = m at *
  omega
theorem getD_drop_eq {xs ys : List Nat} {k : Nat} (h : xs.drop k = ys.drop k) {j : Nat} (hj : k<=j) : xs.getD j 0 = ys.getD j 0:=by
  have:=congrArg (fun l=>l.getD (j - k) 0) h
  simp only [List.getD_eq_getElem?_getD,List.getElem?_drop] at this
  rw [show k + (j - k) = j by omega] at this
  simpa [List.getD_eq_getElem?_getD] using this
theorem drop_set_succ (zs : List Nat) (k v : Nat) : (zs.set k v).drop (k + 1) = zs.drop (k + 1):=by
  rw [List.drop_set_of_lt oM]
theorem drop_succ_eq {xs ys : List Nat} {k : Nat} (h : xs.drop k = ys.drop k) : xs.drop (k + 1) = ys.drop (k + 1):=by
  have:=congrArg List.tail h
  simpa using this
set_option maxHeartbeats 1000000 in
set_option maxRecDepth 20000 in
theorem times_any (ao1 ao2 : Option Addr) (n1 cap1 n2 cap2 : Nat) (xs ys : List Nat) (w : World) (hn1 : xs.length = n1) (hn2 : ys.length = n2)
    (hb1 : n1<=4 * LIM) (hb2 : n2<=4 * LIM) (hx1 : LimbsAt w ao1 xs) (hx2 : LimbsAt w ao2 ys) :
    Calls Tryz.prog 112 #[.slice ao1 n1 cap1,.slice ao2 n2 cap2] w (RetLimbs w (nat xs * nat ys)):=by
  have HN1:=Lib.hid hn1
  have HN2:=Lib.hid hn2
  have hlen1 : xs.length<=n1:=by omega
  have hlen1' : n1<=xs.length:=by omega
  have hlen2 : ys.length<=n2:=by omega
  have hlen2' : n2<=ys.length:=by omega
  clear hn1 hn2
  rw [LIM_eq] at hb1 hb2
  have hmk:=fun W=>mkU ((n1 : Int) + n2) (n1 + n2) oM oM W
  go_enter Tryz.func112,Tryz.ntmps112
  go_wp2
  clear hmk
  go_loopw [19] (fun i wr=>∃(k : Nat) (zs : List Nat),k<=n1/\i = .int .i64 k/\LBlk wr w.heap.size zs/\Below w.heap.size w wr/\n1 + n2<=zs.length ∧
      Hid (zs.length = n1 + n2/\Limbs zs/\nat (zs.take (k + n2)) = nat (xs.take k) * nat ys)) (fun i _=>n1 - (intOf i).toNat)
  case atStart=>exact ⟨0,List.replicate (n1 + n2) 0,by omega,rfl,LBlk.made _ _,(Below.refl _ _).alloc (Nat.le_refl _) _,by simp,⟨by simp,fun x hx=>by rw [List.eq_of_mem_replicate hx]; exact B32_pos,by
    have : ∀m,nat (List.replicate m 0) = 0:=fun m=>by induction m with
      | zero=>rfl
      | succ m ih=>rw [List.replicate_succ,nat_cons,ih]; rfl
    rw [List.take_replicate,this]; simp⟩⟩
  case round=>
    obtain ⟨k,zs0,hk,rfl,hblk0,hbel0,hlz0,HH0⟩:=hrel
    obtain ⟨wo,rfl⟩ : ∃wo : World,wo = wr:=⟨_,rfl⟩
    by_cases hkn : k < n1
    · obtain ⟨b,off,x,rfl,hbw,hx32,HX,hck⟩:=hx1.limb (k:=k) oM
      have hck':=(hbel0.cell (p:=⟨b,off + k,none⟩) hbw).trans hck
      clear hck
      go_wp2
      go_loopw [8,26] (fun cv i wr=>∃(j c : Nat) (zs : List Nat),j<=n2/\i = .int .i64 j/\cv = .int .u64 c/\c < 4294967296/\LBlk wr w.heap.size zs/\Below w.heap.size w wr/\n1 + n2<=zs.length ∧
          Hid (zs.length = n1 + n2/\Limbs zs/\zs.drop (k + j) = zs0.drop (k + j)/\nat (zs.take (k + j)) + c * B32 ^ (k + j) = nat (zs0.take (k + j)) + x * B32 ^ k * nat (ys.take j))) (fun _ i _=>n2 - (intOf i).toNat)
      case atStart=>exact ⟨0,0,zs0,by omega,rfl,rfl,by omega,hblk0,hbel0,hlz0,⟨HH0.out.1,HH0.out.2.1,rfl,by simp⟩⟩
      case round=>
        obtain ⟨j,c,zs,hj,rfl,rfl,hc,hblk,hbel,hlz,HH⟩:=hrel
        have hfr:=hblk.frozen (k + j)
        by_cases hjn : j < n2
        · obtain ⟨b2,off2,y,rfl,hbw2,hy32,HY,hcy⟩:=hx2.limb (k:=j) oM
          have hcy':=(hbel.cell (p:=⟨b2,off2 + j,none⟩) hbw2).trans hcy
          clear hcy
          obtain ⟨z,HZ⟩ : ∃z,zs.getD (k + j) 0 = z:=⟨_,rfl⟩
          have hz32 : z < 4294967296:=by rw [<-HZ]; exact HH.out.2.1.get _
          have hcz:=hblk.cell (k:=k + j) oM
          rw [HZ] at hcz
          have HZ':=Lib.hid HZ
          clear HZ
          have hm1:=mul_lt32 hx32 hy32
          obtain ⟨hm2,hm3⟩:=mul_lt32i hx32 hy32
          go_wp2
          go_roundw
          case rel=>
            have ec : (((c + (x * y + z)) / 4294967296 : Nat) : Int) = ((c : Int) + ((x : Int) * (y : Int) + (z : Int))) / 4294967296:=by simp
            have hlt : c + (x * y + z) < 18446744073709551616:=by generalize x * y = m at *; omega
            refine ⟨j + 1,(c + (x * y + z)) / 4294967296,zs.set (k + j) ((c + (x * y + z)) % 4294967296),by omega,by go_num,by rw [ec],by generalize x * y = m at *; omega,hblk.set' _ _ _ sI,hbel.setCell (Nat.le_refl _) _,by simpa using hlz,
              ⟨by simpa using HH.out.1,HH.out.2.1.set _ _ (Nat.mod_lt _ oM),?_,times_step HH.out.2.2.2 oM HY.out HZ'.out ((getD_drop_eq HH.out.2.2.1 (Nat.le_refl _)).symm.trans HZ'.out)⟩⟩
            rw [show k + (j + 1) = k + j + 1 from rfl,drop_set_succ]
            exact drop_succ_eq HH.out.2.2.1
          case measure=>simp [intOf]; omega
        · obtain rfl : n2 = j:=by omega
          have hcz:=hblk.cell (k:=k + n2) oM
          go_wp2
          go_roundw
          case rel=>
            refine ⟨k + 1,zs.set (k + n2) c,by omega,by go_num,hblk.set' _ _ _ rfl,hbel.setCell (Nat.le_refl _) _,by simpa using hlz,⟨by simpa using HH.out.1,HH.out.2.1.set _ _ hc,?_⟩⟩
            have h1:=HH.out.2.2.2
            have h2:=HH0.out.2.2
            rw [h2,nat_take_all ys oM] at h1
            rw [show k + 1 + n2 = k + n2 + 1 by omega,nat_take_set _ _ _ oM,h1,nat_take_succ xs,HX.out,Nat.add_mul]
          case measure=>simp [intOf]; omega
    · obtain rfl : n1 = k:=by omega
      go_wp2
      go_ret
      have h1:=HH0.out.2.2
      rw [nat_take_all xs hlen1,nat_take_all zs0 (by rw [HH0.out.1]; omega)] at h1
      exact ⟨_,_,_,zs0,rfl,HH0.out.1,by omega,by omega,hblk0.at_ HH0.out.2.1,h1,hbel0⟩
set_option maxHeartbeats 400000 in
theorem value_any (neg : Bool) (ao : Option Addr) (n cap : Nat) (xs : List Nat) (w : World) (hn : xs.length = n) (hl : n<=cap) (hcap : cap<=9223372036854775807) (hx : LimbsAt w ao xs) :
  Calls Tryz.prog 97 #[.bool neg,.slice ao n cap] w (RetInt w (sgn neg (nat xs))):=by
 have HN:=Lib.hid hn
 have htl:=topLen_le xs n
 obtain ⟨t,HT⟩ : ∃t,topLen xs n = t:=⟨_,rfl⟩
 rw [HT] at htl
 have hcall:=fun W hw=>trim_any ao n cap xs W hn hl hcap hw
 rw [HT] at hcall
 have HT':=Lib.hid HT
 clear HT hn
 have hnorm : Normal (xs.take t):=by
  have h1:=trimmed_normal xs
  unfold trimmed at h1
  rw [HN.out,HT'.out] at h1
  exact h1
 have hval : Hid (nat (xs.take t) = nat xs):=by
  have h1:=trimmed_nat xs
  unfold trimmed at h1
  rw [HN.out,HT'.out] at h1
  exact h1
 by_cases h0 : t = 0
 ·subst h0
  go_enter Tryz.func97,Tryz.ntmps97
  go_wp2_with (go_at_call 110; refine (hcall _ ?_).mono ?_; exact hx.ext (LExt.below ((Below.refl _ _).alloc (Nat.le_refl _) _) (Nat.le_refl _)); rintro e w' ⟨rfl,rfl⟩)
  refine bodyPost_ret (v:=.agg #[.bool false,.slice none 0 0]) (by simp [results,Tryz.results97,go_sem]) rfl ?_
  refine ⟨_,rfl,⟨false,none,0,0,[],rfl,rfl,by omega,by omega,LimbsAt.nil _ _,Normal.nil,?_,by simp⟩,(Below.refl _ _).alloc (Nat.le_refl _) _⟩
  have:=hval.out
  simp at this
  rw [<-this]
  simp [sgn_zero]
 ·have ht0 : ((t : Int) == 0) = false:=by simpa using h0
  go_enter Tryz.func97,Tryz.ntmps97
  go_wp2_with (go_at_call 110; refine (hcall _ ?_).mono ?_; exact hx.ext (LExt.below ((Below.refl _ _).alloc (Nat.le_refl _) _) (Nat.le_refl _)); rintro e w' ⟨rfl,rfl⟩)
  refine bodyPost_ret (v:=.agg #[.bool neg,.slice ao t t]) (by simp [results,Tryz.results97,go_sem]) rfl ?_
  have hB : Below w.heap.size w (w.alloc (.cells #[.bool neg,.slice ao t t] 66)):=(Below.refl _ _).alloc (Nat.le_refl _) _
  exact ⟨_,rfl,⟨neg,ao,t,t,xs.take t,rfl,by rw [List.length_take,HN.out]; omega,by omega,by omega,(hx.take t).ext (LExt.below hB (Nat.le_refl _)),hnorm,by rw [hval.out],by omega⟩,hB⟩
theorem LimbsAt.two (w : World) (a b : Nat) (ha : a < 4294967296) (hb : b < 4294967296) (m k : Int) (hm : m = a) (hk : k = b) :
  LimbsAt (w.alloc (.cells #[.int .u32 m,.int .u32 k] tU)) (some ⟨w.heap.size,0,none⟩) [a,b]:=by
 subst hm; subst hk
 exact (LBlk.made w [a,b]).at_ (fun x hx=>by simp at hx; unfold B32; omega)
theorem LimbsAt.one (w : World) (a : Nat) (ha : a < 4294967296) (m : Int) (hm : m = a) :
  LimbsAt (w.alloc (.cells #[.int .u32 m] tU)) (some ⟨w.heap.size,0,none⟩) [a]:=by
 subst hm
 exact (LBlk.made w [a]).at_ (fun x hx=>by simp at hx; unfold B32; omega)
set_option maxHeartbeats 400000 in
theorem limbs_any (u : Nat) (w : World) (hu : u < 18446744073709551616) :
  Calls Tryz.prog 98 #[.int .u64 (u : Nat)] w (RetLimbs w u):=by
 go_enter Tryz.func98,Tryz.ntmps98
 go_wp2
 go_ret
 exact ⟨_,_,_,[u % 4294967296,u / 4294967296],rfl,rfl,by omega,by omega,LimbsAt.two w _ _ oM oM _ _ (by simp [IntKind.wrap_u32]) (by simp [IntKind.wrap_u32]),by simp [nat_cons,B32_eq]; omega,(Below.refl _ _).alloc (Nat.le_refl _) _⟩
set_option maxHeartbeats 400000 in
theorem sign_any (v : Value) (z : Int) (w : World) (h : IntW w v z) :
  Calls Tryz.prog 86 #[v] w fun e w'=>e = .returned (.int .i64 (cmpI z 0))/\Below w.heap.size w w':=by
 obtain ⟨neg,ao,n,cap,xs,rfl,hn,hl,hcap,hx,hN,hz⟩:=h
 have hcall:=fun W hw=>trim_any ao n cap xs W hn hl hcap hw
 rw [<-hn,topLen_of_normal hN,hn] at hcall
 by_cases h0 : n = 0
 ·have E : Hid (cmpI z 0 = 0):=by
   have : xs = []:=List.eq_nil_of_length_eq_zero oM
   subst this
   exact cmpI_eq (by rw [hz]; simp [sgn_zero])
  clear hz hn
  subst h0
  go_enter Tryz.func86,Tryz.ntmps86
  go_wp2_with (go_at_call 110; refine (hcall _ ?_).mono ?_; exact hx.ext (LExt.below ((Below.refl _ _).alloc (Nat.le_refl _) _) (Nat.le_refl _)); rintro e w' ⟨rfl,rfl⟩)
  go_ret
  exact ⟨by rw [E.out]; rfl,(Below.refl _ _).alloc (Nat.le_refl _) _⟩
 ·have hp : 0 < nat xs:=nat_pos hN (by rintro rfl; simp at hn; omega)
  have h0' : ((n : Int) == 0) = false:=by simpa using h0
  cases neg with
  | true=>
   have E : Hid (cmpI z 0 = -1):=cmpI_lt (by rw [hz]; simp; omega)
   clear hz hn
   go_enter Tryz.func86,Tryz.ntmps86
   go_wp2_with (go_at_call 110; refine (hcall _ ?_).mono ?_; exact hx.ext (LExt.below ((Below.refl _ _).alloc (Nat.le_refl _) _) (Nat.le_refl _)); rintro e w' ⟨rfl,rfl⟩)
   go_ret
   exact ⟨by rw [E.out]; rfl,(Below.refl _ _).alloc (Nat.le_refl _) _⟩
  | false=>
   have E : Hid (cmpI z 0 = 1):=cmpI_gt (by rw [hz]; simp; omega)
   clear hz hn
   go_enter Tryz.func86,Tryz.ntmps86
   go_wp2_with (go_at_call 110; refine (hcall _ ?_).mono ?_; exact hx.ext (LExt.below ((Below.refl _ _).alloc (Nat.le_refl _) _) (Nat.le_refl _)); rintro e w' ⟨rfl,rfl⟩)
   go_ret
   exact ⟨by rw [E.out]; rfl,(Below.refl _ _).alloc (Nat.le_refl _) _⟩
set_option maxHeartbeats 400000 in
theorem of_any (n : Int) (w : World) (h1 : -9223372036854775808<=n) (h2 : n<=9223372036854775807) :
  Calls Tryz.prog 50 #[.int .i64 n] w (RetInt w n):=by
 by_cases hn : n < 0
 ·have e : IntKind.u64.wrap (-IntKind.u64.wrap n) = ((n.natAbs : Nat) : Int):=by simp only [IntKind.wrap_u64]; omega
  go_enter Tryz.func50,Tryz.ntmps50
  go_wp2_with fail
  refine (limbs_any n.natAbs _ oM).mono ?_
  rintro e1 w1 ⟨ao,len,cap,zs,rfl,hz1,hz2,hz3,hz4,hz5,hb1⟩
  have br1:=(Blk.new w 66 #[.bool false,.slice none 0 0]).below hb1
  go_wp2_with fail
  refine (value_any true ao len cap zs _ hz1 hz2 hz3 hz4).mono ?_
  rintro e2 w2 ⟨v,rfl,hv,hb2⟩
  have br2:=br1.below hb2
  obtain ⟨k1,k2,k3,k4⟩:=br2.two
  obtain ⟨vn,va,vl,vc,vx,rfl,hv2⟩:=hv
  go_wp2_with fail
  refine bodyPost_int rfl rfl rfl (br2.put2 _ _) ?_ (bset (bset (nx (nx ((Below.refl _ _).alloc (Nat.le_refl _) _) hb1) hb2) oM 0 _) oM 1 _)
  refine IntV.ext ?_ (br2.lext2 dE _ _)
  have e3 : sgn true (nat zs) = n:=by rw [hz5]; simp; omega
  rw [<-e3]
  exact ⟨vn,va,vl,vc,vx,rfl,hv2⟩
 ·obtain ⟨m,rfl⟩:=Int.eq_ofNat_of_zero_le (show 0<=n by omega)
  go_enter Tryz.func50,Tryz.ntmps50
  go_wp2_with fail
  refine (limbs_any m _ oM).mono ?_
  rintro e1 w1 ⟨ao,len,cap,zs,rfl,hz1,hz2,hz3,hz4,hz5,hb1⟩
  have br1:=(Blk.new w 66 #[.bool false,.slice none 0 0]).below hb1
  go_wp2_with fail
  refine (value_any false ao len cap zs _ hz1 hz2 hz3 hz4).mono ?_
  rintro e2 w2 ⟨v,rfl,hv,hb2⟩
  have br2:=br1.below hb2
  obtain ⟨k1,k2,k3,k4⟩:=br2.two
  obtain ⟨vn,va,vl,vc,vx,rfl,hv2⟩:=hv
  go_wp2_with fail
  refine bodyPost_int rfl rfl rfl (br2.put2 _ _) ?_ (bset (bset (nx (nx ((Below.refl _ _).alloc (Nat.le_refl _) _) hb1) hb2) oM 0 _) oM 1 _)
  refine IntV.ext ?_ (br2.lext2 dE _ _)
  have e3 : sgn false (nat zs) = m:=by rw [hz5]; simp
  rw [<-e3]
  exact ⟨vn,va,vl,vc,vx,rfl,hv2⟩
theorem cmpI_nonneg {a b : Int} (h : ¬ a < b) : 0<=cmpI a b:=by
 unfold cmpI; rw [if_neg h]; split <;> omega
theorem sgn_add (neg : Bool) (a b : Nat) : sgn neg (a + b) = sgn neg a + sgn neg b:=by cases neg <;> simp <;> omega
theorem sgn_sub1 {n1 n2 : Bool} (h : n1 ≠ n2) (a b : Nat) (hl : b<=a) : sgn n1 (a - b) = sgn n1 a + sgn n2 b:=by
 cases n1 <;> cases n2 <;> simp at h ⊢ <;> omega
theorem sgn_sub2 {n1 n2 : Bool} (h : n1 ≠ n2) (a b : Nat) (hl : a<=b) : sgn n2 (b - a) = sgn n1 a + sgn n2 b:=by
 cases n1 <;> cases n2 <;> simp at h ⊢ <;> omega
set_option maxHeartbeats 1000000 in
theorem add_any (v1 v2 : Value) (z1 z2 : Int) (w : World) (h1 : IntW w v1 z1) (h2 : IntW w v2 z2) (s1 : Sm z1) (s2 : Sm z2) :
  Calls Tryz.prog 111 #[v1,v2] w (RetInt w (z1 + z2)):=by
 obtain ⟨neg1,ao1,n1,cap1,xs,rfl,hn1,hl1,hc1,hx1,hN1,hz1⟩:=h1
 obtain ⟨neg2,ao2,n2,cap2,ys,rfl,hn2,hl2,hc2,hx2,hN2,hz2⟩:=h2
 have hq1 : n1<=4 * LIM:=by
  have : n1<=LIM:=by rw [<-hn1]; exact Sm.len (neg:=neg1) (by rw [<-hz1]; exact s1) hN1
  omega
 have hq2 : n2<=4 * LIM:=by
  have : n2<=LIM:=by rw [<-hn2]; exact Sm.len (neg:=neg2) (by rw [<-hz2]; exact s2) hN2
  omega
 have hcall1:=fun W hw=>trim_any ao1 n1 cap1 xs W hn1 hl1 hc1 hw
 rw [<-hn1,topLen_of_normal hN1,hn1] at hcall1
 have hcall2:=fun W hw=>trim_any ao2 n2 cap2 ys W hn2 hl2 hc2 hw
 rw [<-hn2,topLen_of_normal hN2,hn2] at hcall2
 have HN1:=Lib.hid hn1
 have HN2:=Lib.hid hn2
 have HZ1:=Lib.hid hz1
 have HZ2:=Lib.hid hz2
 clear hn1 hn2 hz1 hz2 s1 s2
 have Hcall1:=Lib.hid hcall1
 by_cases hs : neg1 = neg2
 ·subst hs
  go_enter Tryz.func111,Tryz.ntmps111
  go_wp2_with fail
  refine wp_world ?_
  intro W0 hW0
  obtain ⟨hB0,bx1,bx2,br,hs0⟩:=world3 hW0
  have hx1':=hx1.ext (lx hB0)
  have hx2':=hx2.ext (lx hB0)
  obtain ⟨c1,c2,c3,c4⟩:=bx1.two
  obtain ⟨d1,d2,d3,d4⟩:=bx2.two
  go_quiet ((first | (go_at_call_of 110 ao1; exact Calls.quiet_of_same ((hcall1 _ (hx1'.ext (lx (drN _ _)))).mono (by rintro e w' ⟨rfl,rfl⟩; exact ⟨rfl,rfl⟩))) | (go_at_call_of 110 ao2; exact Calls.quiet_of_same ((hcall2 _ (hx2'.ext (lx (drN _ _)))).mono (by rintro e w' ⟨rfl,rfl⟩; exact ⟨rfl,rfl⟩)))))
  go_wp2_with fail
  refine wp_world ?_
  intro W1 hW1
  have hB1 : Below w.heap.size w W1:=by rw [hW1.out]; exact nx hB0 (drN _ _)
  have bx1':=Blk.at_ hW1 bx1
  have bx2':=Blk.at_ hW1 bx2
  have br':=Blk.at_ hW1 br
  have lx1:=lx (nx hB1 (dr W1))
  clear c1 c2 c3 c4 d1 d2 d3 d4
  obtain ⟨c1,c2,c3,c4⟩:=bx1'.two
  obtain ⟨d1,d2,d3,d4⟩:=bx2'.two
  go_region_held3 (fun w'=>w'.cell? ⟨w.heap.size,0,none⟩ = some (.bool neg1))
   ((((try go_split_ands); (repeat' apply And.intro)) <;> first | exact kc_drew (by assumption) | exact kc_below (by assumption) hb1 | exact kc_below (by assumption) hb2 | exact kc_set (kc_set (by assumption) oM) oM))
   (first
    | ((go_at_call 126; refine (plus_any ao1 ao2 n1 n1 n2 n2 xs ys _ HN1.out HN2.out (Nat.le_refl _) (Nat.le_refl _) oM oM hq1 hq2 (hx1.ext lx1) (hx2.ext lx1)).mono ?_; rintro e w1 ⟨ao,len,cap,zs,rfl,hz1,hz2,hz3,hz4,hz5,hb1⟩; have br1:=br'.drew.below hb1))
    | ((go_at_call 97; refine (value_any neg1 ao len cap zs _ hz1 hz2 hz3 hz4).mono ?_; rintro e w2 ⟨v,rfl,hv,hb2⟩; have br2:=br1.below hb2; obtain ⟨e1,e2,e3,e4⟩:=br2.two; obtain ⟨vn,va,vl,vc,vx,rfl,hv2⟩:=hv)))
  go_wp2_with fail
  refine bodyPost_int rfl rfl rfl (br2.put2 _ _) ?_ (bset (bset (nx (nx (nx hB1 (dr W1)) hb1) hb2) oM 0 _) oM 1 _)
  refine IntV.ext ?_ (br2.lext2 dE _ _)
  rw [hz5] at hv2
  rw [HZ1.out,HZ2.out,<-sgn_add]
  exact ⟨vn,va,vl,vc,vx,rfl,hv2⟩
 ·have hs' : (neg1 == neg2) = false:=by simpa using hs
  have Hs:=Lib.hid hs
  clear hs
  by_cases hlt : nat xs < nat ys
  ·have hcmp:=fun W h1 h2=>compare_any ao1 ao2 n1 n1 n2 n2 xs ys W HN1.out HN2.out (Nat.le_refl _) (Nat.le_refl _) oM oM h1 h2 hN1 hN2
   rw [cmpI_lt oM] at hcmp
   go_enter Tryz.func111,Tryz.ntmps111
   go_wp2_with fail
   refine wp_world ?_
   intro W0 hW0
   obtain ⟨hB0,bx1,bx2,br,hs0⟩:=world3 hW0
   have hx1':=hx1.ext (lx hB0)
   have hx2':=hx2.ext (lx hB0)
   obtain ⟨c1,c2,c3,c4⟩:=bx1.two
   obtain ⟨d1,d2,d3,d4⟩:=bx2.two
   go_quiet ((first | (go_at_call_of 110 ao1; exact Calls.quiet_of_same ((hcall1 _ (hx1'.ext (lx (drN _ _)))).mono (by rintro e w' ⟨rfl,rfl⟩; exact ⟨rfl,rfl⟩))) | (go_at_call_of 110 ao2; exact Calls.quiet_of_same ((hcall2 _ (hx2'.ext (lx (drN _ _)))).mono (by rintro e w' ⟨rfl,rfl⟩; exact ⟨rfl,rfl⟩)))))
   have hx1'':=hx1'.ext (lx (drN W0 nq))
   have hx2'':=hx2'.ext (lx (drN W0 nq))
   go_wp2_with (go_at_call 118; refine (hcmp _ hx1'' hx2'').mono ?_; rintro e w' ⟨rfl,q,rfl⟩)
   refine wp_world ?_
   intro W1 hW1
   have hB1 : Below w.heap.size w W1:=by rw [hW1.out]; exact nx hB0 (drN _ _)
   have bx1':=Blk.at_ hW1 bx1
   have bx2':=Blk.at_ hW1 bx2
   have br':=Blk.at_ hW1 br
   have lx1:=lx (nx hB1 (dr W1))
   clear c1 c2 c3 c4 d1 d2 d3 d4
   obtain ⟨c1,c2,c3,c4⟩:=bx1'.two
   obtain ⟨d1,d2,d3,d4⟩:=bx2'.two
   go_region_held3 (fun w'=>w'.cell? ⟨(w.heap.size + 1),0,none⟩ = some (.bool neg2))
    ((((try go_split_ands); (repeat' apply And.intro)) <;> first | exact kc_drew (by assumption) | exact kc_below (by assumption) hb1 | exact kc_below (by assumption) hb2 | exact kc_set (kc_set (by assumption) oM) oM))
    (first
     | ((go_at_call 127; refine (minus_any ao2 ao1 n2 n2 n1 n1 ys xs _ HN2.out HN1.out (Nat.le_refl _) (Nat.le_refl _) oM oM hq2 (hx2.ext lx1) (hx1.ext lx1) (by rw [<-HN1.out,<-HN2.out]; exact nat_length hx2.1 hN1 oM) oM).mono ?_; rintro e w1 ⟨ao,len,cap,zs,rfl,hz1,hz2,hz3,hz4,hz5,hb1⟩; have br1:=br'.drew.below hb1))
     | ((go_at_call 97; refine (value_any neg2 ao len cap zs _ hz1 hz2 hz3 hz4).mono ?_; rintro e w2 ⟨v,rfl,hv,hb2⟩; have br2:=br1.below hb2; obtain ⟨e1,e2,e3,e4⟩:=br2.two; obtain ⟨vn,va,vl,vc,vx,rfl,hv2⟩:=hv)))
   go_wp2_with fail
   refine bodyPost_int rfl rfl rfl (br2.put2 _ _) ?_ (bset (bset (nx (nx (nx hB1 (dr W1)) hb1) hb2) oM 0 _) oM 1 _)
   refine IntV.ext ?_ (br2.lext2 dE _ _)
   rw [hz5] at hv2
   rw [HZ1.out,HZ2.out,<-sgn_sub2 Hs.out _ _ oM]
   exact ⟨vn,va,vl,vc,vx,rfl,hv2⟩
  ·have hcmp:=fun W h1 h2=>compare_any ao1 ao2 n1 n1 n2 n2 xs ys W HN1.out HN2.out (Nat.le_refl _) (Nat.le_refl _) oM oM h1 h2 hN1 hN2
   obtain ⟨cc,hcc,hcc0⟩ : ∃cc : Int,cmpI (nat xs) (nat ys) = cc/\0<=cc:=⟨_,rfl,cmpI_nonneg oM⟩
   rw [hcc] at hcmp
   clear hcc
   go_enter Tryz.func111,Tryz.ntmps111
   go_wp2_with fail
   refine wp_world ?_
   intro W0 hW0
   obtain ⟨hB0,bx1,bx2,br,hs0⟩:=world3 hW0
   have hx1':=hx1.ext (lx hB0)
   have hx2':=hx2.ext (lx hB0)
   obtain ⟨c1,c2,c3,c4⟩:=bx1.two
   obtain ⟨d1,d2,d3,d4⟩:=bx2.two
   go_quiet ((first | (go_at_call_of 110 ao1; exact Calls.quiet_of_same ((hcall1 _ (hx1'.ext (lx (drN _ _)))).mono (by rintro e w' ⟨rfl,rfl⟩; exact ⟨rfl,rfl⟩))) | (go_at_call_of 110 ao2; exact Calls.quiet_of_same ((hcall2 _ (hx2'.ext (lx (drN _ _)))).mono (by rintro e w' ⟨rfl,rfl⟩; exact ⟨rfl,rfl⟩)))))
   have hx1'':=hx1'.ext (lx (drN W0 nq))
   have hx2'':=hx2'.ext (lx (drN W0 nq))
   go_wp2_with (go_at_call 118; refine (hcmp _ hx1'' hx2'').mono ?_; rintro e w' ⟨rfl,q,rfl⟩)
   refine wp_world ?_
   intro W1 hW1
   have hB1 : Below w.heap.size w W1:=by rw [hW1.out]; exact nx hB0 (drN _ _)
   have bx1':=Blk.at_ hW1 bx1
   have bx2':=Blk.at_ hW1 bx2
   have br':=Blk.at_ hW1 br
   have lx1:=lx (nx hB1 (dr W1))
   clear c1 c2 c3 c4 d1 d2 d3 d4
   obtain ⟨c1,c2,c3,c4⟩:=bx1'.two
   obtain ⟨d1,d2,d3,d4⟩:=bx2'.two
   go_region_held3 (fun w'=>w'.cell? ⟨w.heap.size,0,none⟩ = some (.bool neg1))
    ((((try go_split_ands); (repeat' apply And.intro)) <;> first | exact kc_drew (by assumption) | exact kc_below (by assumption) hb1 | exact kc_below (by assumption) hb2 | exact kc_set (kc_set (by assumption) oM) oM))
    (first
     | ((go_at_call 127; refine (minus_any ao1 ao2 n1 n1 n2 n2 xs ys _ HN1.out HN2.out (Nat.le_refl _) (Nat.le_refl _) oM oM hq1 (hx1.ext lx1) (hx2.ext lx1) (by rw [<-HN1.out,<-HN2.out]; exact nat_length hx1.1 hN2 oM) oM).mono ?_; rintro e w1 ⟨ao,len,cap,zs,rfl,hz1,hz2,hz3,hz4,hz5,hb1⟩; have br1:=br'.drew.below hb1))
     | ((go_at_call 97; refine (value_any neg1 ao len cap zs _ hz1 hz2 hz3 hz4).mono ?_; rintro e w2 ⟨v,rfl,hv,hb2⟩; have br2:=br1.below hb2; obtain ⟨e1,e2,e3,e4⟩:=br2.two; obtain ⟨vn,va,vl,vc,vx,rfl,hv2⟩:=hv)))
   go_wp2_with fail
   refine bodyPost_int rfl rfl rfl (br2.put2 _ _) ?_ (bset (bset (nx (nx (nx hB1 (dr W1)) hb1) hb2) oM 0 _) oM 1 _)
   refine IntV.ext ?_ (br2.lext2 dE _ _)
   rw [hz5] at hv2
   rw [HZ1.out,HZ2.out,<-sgn_sub1 Hs.out _ _ oM]
   exact ⟨vn,va,vl,vc,vx,rfl,hv2⟩
def OwnL (w : World) (base : Nat) (v : Value) (xs : List Nat) : Prop:=Limbs xs/\w.ownsRow base tU 1 v xs.length (xs.map fun n=>Value.int .u32 (n : Nat))
theorem OwnL.at_ {w : World} {base : Nat} {v : Value} {xs : List Nat} (h : OwnL w base v xs) :
  ∃ao cap,v = .slice ao xs.length cap/\xs.length<=cap/\cap<=9223372036854775807/\LimbsAt w ao xs:=by
 obtain ⟨hl,h1,h2⟩:=h
 rcases h2 with ⟨rfl,h0⟩ | ⟨g,cap,cur,rfl,hg,hh,hn,hc,hs,ht⟩
 ·have : xs = []:=List.eq_nil_of_length_eq_zero h0
  subst this
  exact ⟨none,0,rfl,by simp,by omega,LimbsAt.nil _ _⟩
 ·refine ⟨some ⟨g,0,none⟩,cap,rfl,hn,hc,hl,fun _=>⟨g,0,cur,_,rfl,hh,fun k x hk=>?_⟩⟩
  have hk' : (xs.map fun n=>Value.int .u32 (n : Nat))[k]? = some (.int .u32 (x : Nat)):=by simp [hk]
  rw [<-ht,List.getElem?_take] at hk'
  split at hk'
  ·simpa using hk'
  ·cases hk'
theorem OwnL.nil (w : World) (base : Nat) : OwnL w base (.slice none 0 0) []:=⟨Limbs.nil,World.ownsRow_nil _ _ _ _⟩
theorem OwnL.empty (w : World) (base : Nat) (h : base<=w.heap.size) : OwnL (w.alloc (.cells #[] tU)) base (.slice (some ⟨w.heap.size,0,none⟩) 0 0) []:=
 ⟨Limbs.nil,by simp,.inr ⟨w.heap.size,0,#[],rfl,h,heap_alloc_new w _,Nat.le_refl _,by simp [maxLen],rfl,rfl⟩⟩
theorem OwnL.alloc {w : World} {base : Nat} {v : Value} {xs : List Nat} (h : OwnL w base v xs) (o : Obj) : OwnL (w.alloc o) base v xs:=⟨h.1,h.2.alloc o⟩
theorem OwnL.keep {w w' : World} {base : Nat} {v : Value} {xs : List Nat} (h : OwnL w base v xs) (hb : Below w.heap.size w w') : OwnL w' base v xs:=
 ⟨h.1,h.2.kept (row:=none) ⟨hb.os,hb.tape,hb.output,hb.size,fun k hk _=>hb.block k hk⟩ (by cases hv : v.ownBlock <;> simp)⟩
theorem run_append_nil_any {P : Program} {w : World} (base : Nat) (t ty e : TypeId) (i : TypeInfo) (size : Nat) (ht : P.underlying t = some (.slice e)) (hi : P.info? e = some i)
  (v : Value) (n : Nat) (xs : List Value) (hown : w.ownsRow base e size v n xs) (c : Nat) : (Builtin.append_ #[t,t] ty #[v,.slice none 0 c]).run P w = .ok v w:=by
 rcases hown.2 with ⟨rfl,rfl⟩ | ⟨g,cap,cur,rfl,_,_,hnc,_⟩
 ·simp [Builtin.append_,run_underlying ht,sizeOf,typeInfo,hi,Builtin.lenOf,Builtin.firstCells]
 ·simp [Builtin.append_,run_underlying ht,sizeOf,typeInfo,hi,Builtin.lenOf,Builtin.firstCells,hnc,storeCells]
set_option maxRecDepth 20000 in
theorem appU {w : World} {ops : Array Oper} {rest : List Oper} {o : Oper} {a : Act} {Q : Exit->Act->World->Prop} (hgd : o.guard = none) (s x : Operand)
  (ho : o.op = .call { callee:=.builtin .append,args:=#[s,x],argTypes:=#[64,64] })
  (base : Nat) (v : Value) (xs : List Nat) (hs : a.eval s = v) (hown : OwnL w base v xs) (ao : Option Addr) (m c : Nat) (ys : List Nat) (hx : a.eval x = .slice ao m c) (hy : LimbsAt w ao ys) (hm : ys.length = m)
  (hlen : xs.length + m<=35184372088832) (hbase : base<=w.heap.size)
  (h : ∀v' w',OwnL w' base v' (xs ++ ys)->w.grownBy w' v.ownBlock->wpList Tryz.prog ops Q rest (a.put o.dst v') w') : wpList Tryz.prog ops Q (o :: rest) a w:=by
 obtain ⟨i0,hi,hz0,hz1,hz2⟩:=info_parts Tryz.infoU
 cases ao with
 | none=>
  have hy0 : ys = []:=by
   by_cases h0 : ys = []
   ·exact h0
   ·obtain ⟨_,_,_,_,h1,_⟩:=hy.2 h0
    cases h1
  subst hy0
  simp at hm
  subst hm
  refine wpList_plain hgd fun K hK=>?_
  have hrun:=run_append_nil_any (P:=Tryz.prog) (w:=w) base 64 o.type tU i0 1 Tryz.underlying64 hi v xs.length _ hown.2 c
  unfold Oper.wp
  simp only [execOp,ho,resolve,invoke,builtin,Sem.run_bind,Sem.run_pure,Result.andThen_ok,List.map_toArray,List.map_cons,List.map_nil,hs,hx,hrun]
  exact hK _ _ (h v w (by simpa using hown) (World.grownBy.refl w _))
 | some ad=>
  refine wpList_append_own w hgd s x 64 ho base tU i0 _ 1 4 Tryz.underlying64 hi hz0 hz1 hz2 rfl oM v xs.length _ hs hown.2 ad m c (ys.map fun n=>Value.int .u32 (n : Nat)) hx (by simp [hm]) ?_ ?_ (by simp [maxLen]; omega) oM hbase ?_
  ·intro j u hj
   simp only [List.getElem?_map,Option.map_eq_some_iff] at hj
   obtain ⟨x',hj,rfl⟩:=hj
   obtain ⟨b,off,cs,fz,h1,h2,h3⟩:=hy.2 (by rintro rfl; simp at hj)
   injection h1 with h1
   subst h1
   rw [Addr.add_lit,cell_of_row w b (off + j) cs tU fz h2]
   exact h3 j x' hj
  ·intro u hu
   simp only [List.mem_map] at hu
   obtain ⟨x',_,rfl⟩:=hu
   rfl
  ·intro v' w' h1 h2 _
   refine h v' w' ⟨hown.1.append hy.1,?_⟩ h2
   simpa [hm] using h1
def RetList (w : World) (xs : List Nat) (e : Ending) (w' : World) : Prop:=
 ∃ao len cap,e = .returned (.slice ao len cap)/\xs.length = len/\len<=cap/\cap<=9223372036854775807/\LimbsAt w' ao xs/\Below w.heap.size w w'
set_option maxHeartbeats 400000 in
theorem cloneU_any (ao : Option Addr) (n cap : Nat) (xs : List Nat) (w : World) (hn : xs.length = n) (hb : n<=4 * LIM) (hx : LimbsAt w ao xs) :
  Calls Tryz.prog 115 #[.slice ao n cap] w (RetList w xs):=by
 have heq:=fun W=>Lib.run_eql_slice_nil (P:=Tryz.prog) W 64 tU ao n cap 0 0 Tryz.underlying64
 rw [LIM_eq] at hb
 cases ao with
 | none=>
  have hy0 : xs = []:=by
   by_cases h0 : xs = []
   ·exact h0
   ·obtain ⟨_,_,_,_,h1,_⟩:=hx.2 h0
    cases h1
  subst hy0
  clear hn
  go_enter Tryz.func115,Tryz.ntmps115
  go_wp2
  go_ret
  exact ⟨none,0,0,rfl,rfl,by omega,by omega,LimbsAt.nil _ _,Below.refl _ _⟩
 | some ad=>
  have HN:=Lib.hid hn
  clear hn
  go_enter Tryz.func115,Tryz.ntmps115
  go_wp2_with (at_builtin; refine appU rfl _ _ rfl w.heap.size (.slice (some ⟨w.heap.size,0,none⟩) 0 0) [] rfl (OwnL.empty w _ (Nat.le_refl _)) (some ad) n cap xs rfl (hx.ext (lx ((Below.refl _ _).alloc (Nat.le_refl _) _))) HN.out (by simp; omega) sI ?_; intro v' w' hown hgr)
  have hB : Below w.heap.size w w':=((Below.refl _ _).alloc (Nat.le_refl _) _).grown hgr sI (fun k hk=>by simp [Value.ownBlock] at hk; omega)
  go_ret
  obtain ⟨ao',cap',hv,h1,h2,h3⟩:=hown.at_
  exact ⟨ao',_,cap',by rw [hv]; rfl,rfl,h1,h2,h3,hB⟩
theorem IntW.len {w : World} {v : Value} {z : Int} (h : IntW w v z) (s : Sm z) :
  ∃neg ao n cap xs,v = .agg #[.bool neg,.slice ao n cap]/\xs.length = n/\n<=cap/\cap<=9223372036854775807/\LimbsAt w ao xs/\Normal xs/\z = sgn neg (nat xs)/\n<=LIM:=by
 obtain ⟨neg,ao,n,cap,xs,h1,h2,h3,h4,h5,h6,h7⟩:=h
 exact ⟨neg,ao,n,cap,xs,h1,h2,h3,h4,h5,h6,h7,by rw [<-h2]; exact Sm.len (neg:=neg) (by rw [<-h7]; exact s) h6⟩
theorem sgn_not (b : Bool) (n : Nat) : sgn (!b) n = - sgn b n:=by cases b <;> simp
theorem sgn_mul (a b : Bool) (m n : Nat) : sgn (a != b) (m * n) = sgn a m * sgn b n:=by
 cases a <;> cases b <;> simp [Int.neg_mul,Int.mul_neg]
set_option maxHeartbeats 1000000 in
theorem mul_any (v1 v2 : Value) (z1 z2 : Int) (w : World) (h1 : IntW w v1 z1) (h2 : IntW w v2 z2) (s1 : Sm z1) (s2 : Sm z2) : Calls Tryz.prog 91 #[v1,v2] w (RetInt w (z1 * z2)):=by
 obtain ⟨neg1,ao1,n1,cap1,xs,rfl,hn1,hl1,hc1,hx1,hN1,hz1,hq1⟩:=h1.len s1
 obtain ⟨neg2,ao2,n2,cap2,ys,rfl,hn2,hl2,hc2,hx2,hN2,hz2,hq2⟩:=h2.len s2
 have hcall1:=fun W hw=>trim_any ao1 n1 cap1 xs W hn1 hl1 hc1 hw
 rw [<-hn1,topLen_of_normal hN1,hn1] at hcall1
 have hcall2:=fun W hw=>trim_any ao2 n2 cap2 ys W hn2 hl2 hc2 hw
 rw [<-hn2,topLen_of_normal hN2,hn2] at hcall2
 have HN1:=Lib.hid hn1
 have HN2:=Lib.hid hn2
 have HZ1:=Lib.hid hz1
 have HZ2:=Lib.hid hz2
 clear hn1 hn2 hz1 hz2 s1 s2 h1 h2
 go_enter Tryz.func91,Tryz.ntmps91
 go_upto_region 1 with (fail)
 refine wp_world ?_
 intro W0 hW0
 obtain ⟨hB0,bx1,bx2,br,hs0⟩:=world3 hW0
 obtain ⟨c1,c2,c3,c4⟩:=bx1.two
 obtain ⟨d1,d2,d3,d4⟩:=bx2.two
 obtain ⟨r1,r2,r3,r4⟩:=br.two
 have hxd1:=hx1.ext (lx (nx hB0 (dr W0)))
 have hxd2:=hx2.ext (lx (nx hB0 (dr W0)))
 go_region_held3 (fun w'=>w'.cell? ⟨w.heap.size,0,none⟩ = some (.bool neg1)/\w'.cell? ⟨w.heap.size,1,none⟩ = some (.slice ao1 n1 cap1)/\w'.cell? ⟨w.heap.size + 1,0,none⟩ = some (.bool neg2)/\w'.cell? ⟨w.heap.size + 1,1,none⟩ = some (.slice ao2 n2 cap2))
  ((((try go_split_ands); (repeat' apply And.intro)) <;> first | exact kc_drew (by assumption) | exact kc_below (by assumption) hb1 | exact kc_below (by assumption) hb2 | assumption | exact kc_set (kc_set (by assumption) oM) oM))
  (first
   | (go_at_call_of 110 ao1; refine (hcall1 _ hxd1).mono ?_; rintro e w' ⟨rfl,rfl⟩)
   | (go_at_call_of 110 ao2; refine (hcall2 _ hxd2).mono ?_; rintro e w' ⟨rfl,rfl⟩)
   | (go_at_call 112; refine (times_any ao1 ao2 n1 n1 n2 n2 xs ys _ HN1.out HN2.out oM oM hxd1 hxd2).mono ?_; rintro e w1 ⟨ao',len,cap',zs,rfl,hz1,hz2,hz3,hz4,hz5,hb1⟩; have br1:=br.drew.below hb1)
   | (go_at_call 97; refine (value_any (neg1 != neg2) ao' len cap' zs _ hz1 hz2 hz3 hz4).mono ?_; rintro e w2 ⟨v,rfl,hv,hb2⟩; have br2:=br1.below hb2; obtain ⟨e1,e2,e3,e4⟩:=br2.two; obtain ⟨vn,va,vl,vc,vx,rfl,hv2⟩:=hv))
 go_wp2_with fail
 refine bodyPost_int rfl rfl rfl (br2.put2 _ _) ?_ (bset (bset (nx (nx (nx hB0 (dr W0)) hb1) hb2) oM 0 _) oM 1 _)
 refine IntV.ext ?_ (br2.lext2 dE _ _)
 rw [HZ1.out,HZ2.out,<-sgn_mul,<-hz5]
 exact ⟨vn,va,vl,vc,vx,rfl,hv2⟩
set_option maxHeartbeats 1000000 in
theorem valid_any (v1 : Value) (z : Int) (w : World) (h1 : IntV w v1 z) : Calls Tryz.prog 85 #[v1] w fun e w'=>e = .returned (.bool true)/\Below w.heap.size w w':=by
  obtain ⟨neg,ao,n,cap,xs,rfl,hn,hl,hc,hx,hN,hz,hpos⟩:=h1
  have HN:=Lib.hid hn
  clear hz
  cases n with
  | zero=>
    obtain rfl:=hpos rfl
    clear hn
    go_enter Tryz.func85,Tryz.ntmps85
    go_wp2
    go_ret
    exact ⟨rfl,(Below.refl _ _).alloc (Nat.le_refl _) _⟩
  | succ n=>
    obtain ⟨b,off,x,rfl,hbw,hx32,HX,hck⟩:=hx.limb (k:=n) oM
    have hx0 : ((x : Int) != 0) = true:=by
      have:=hN n hn
      rw [HX.out] at this
      simpa using this
    clear hn hpos
    go_enter Tryz.func85,Tryz.ntmps85
    go_wp2
    go_ret
    exact ⟨rfl,(Below.refl _ _).alloc (Nat.le_refl _) _⟩
theorem cmpI_bd (a b : Int) : -1<=cmpI a b/\cmpI a b<=1:=by
  unfold cmpI
  by_cases h1 : a < b
  · rw [if_pos h1]; omega
  · rw [if_neg h1]; by_cases h2 : b < a
    · rw [if_pos h2]; omega
    · rw [if_neg h2]; omega
theorem cmpI_inv {a b : Int} : (cmpI a b = -1->a < b)/\(cmpI a b = 0->a = b)/\(cmpI a b = 1->b < a):=by
  rcases Int.lt_trichotomy a b with h | h | h
  · rw [cmpI_lt h]; omega
  · rw [cmpI_eq h]; omega
  · rw [cmpI_gt h]; omega
theorem cmp_signs_ne {a b : Int} (h : cmpI a 0 ≠ cmpI b 0) : cmpI (cmpI a 0) (cmpI b 0) = cmpI a b:=by
  rcases Int.lt_trichotomy a 0 with ha | ha | ha <;> rcases Int.lt_trichotomy b 0 with hb | hb | hb
  all_goals first
    | (exfalso; apply h; first | rw [cmpI_lt ha,cmpI_lt hb] | rw [cmpI_eq ha,cmpI_eq hb] | rw [cmpI_gt ha,cmpI_gt hb]; done)
    | (first | rw [cmpI_lt ha] | rw [cmpI_eq ha] | rw [cmpI_gt ha]
       first | rw [cmpI_lt hb] | rw [cmpI_eq hb] | rw [cmpI_gt hb]
       first | (rw [cmpI_lt (show a < b by omega)]; rfl) | (rw [cmpI_gt (show b < a by omega)]; rfl))
theorem cmp_signs_eq {a b : Int} (h : cmpI a 0 = cmpI b 0) : cmpI a 0 * cmpI (a.natAbs : Nat) (b.natAbs : Nat) = cmpI a b:=by
  rcases Int.lt_trichotomy a 0 with ha | ha | ha
  · rw [cmpI_lt ha] at h ⊢
    have hb : b < 0:=cmpI_inv.1 h.symm
    rcases Int.lt_trichotomy a b with h1 | h1 | h1
    · rw [cmpI_lt h1,cmpI_gt oM]; rfl
    · rw [cmpI_eq h1,cmpI_eq oM]; rfl
    · rw [cmpI_gt h1,cmpI_lt oM]; rfl
  · rw [cmpI_eq ha] at h ⊢
    have hb : b = 0:=cmpI_inv.2.1 h.symm
    rw [Int.zero_mul,cmpI_eq (show a = b by omega)]
  · rw [cmpI_gt ha] at h ⊢
    have hb : 0 < b:=cmpI_inv.2.2 h.symm
    rw [Int.one_mul]
    rcases Int.lt_trichotomy a b with h1 | h1 | h1
    · rw [cmpI_lt h1,cmpI_lt oM]
    · rw [cmpI_eq h1,cmpI_eq oM]
    · rw [cmpI_gt h1,cmpI_gt oM]
theorem i64_small (n : Int) (h1 : -1<=n) (h2 : n<=1) : IntKind.i64.wrap n = n:=IntWalk.i64_in n ⟨by omega,by omega⟩
set_option maxHeartbeats 2000000 in
theorem cmp_any (v1 v2 : Value) (z1 z2 : Int) (w : World) (h1 : IntW w v1 z1) (h2 : IntW w v2 z2) : Calls Tryz.prog 96 #[v1,v2] w fun e w'=>e = .returned (.int .i64 (cmpI z1 z2))/\Below w.heap.size w w':=by
  have H1:=Lib.hid h1
  have H2:=Lib.hid h2
  obtain ⟨neg1,ao1,n1,cap1,xs,rfl,hn1,hl1,hc1,hx1,hN1,hz1⟩:=h1
  obtain ⟨neg2,ao2,n2,cap2,ys,rfl,hn2,hl2,hc2,hx2,hN2,hz2⟩:=h2
  have hcall1:=fun W hw=>trim_any ao1 n1 cap1 xs W hn1 hl1 hc1 hw
  rw [<-hn1,topLen_of_normal hN1,hn1] at hcall1
  have hcall2:=fun W hw=>trim_any ao2 n2 cap2 ys W hn2 hl2 hc2 hw
  rw [<-hn2,topLen_of_normal hN2,hn2] at hcall2
  obtain ⟨s,hs⟩ : ∃s,cmpI z1 0 = s:=⟨_,rfl⟩
  obtain ⟨t,ht⟩ : ∃t,cmpI z2 0 = t:=⟨_,rfl⟩
  obtain ⟨c,hc⟩ : ∃c,cmpI (nat xs) (nat ys) = c:=⟨_,rfl⟩
  have hsb:=cmpI_bd z1 0
  have htb:=cmpI_bd z2 0
  have hcb:=cmpI_bd (nat xs) (nat ys)
  have hsg1:=fun W hw=>sign_any (.agg #[.bool neg1,.slice ao1 n1 cap1]) z1 W hw
  have hsg2:=fun W hw=>sign_any (.agg #[.bool neg2,.slice ao2 n2 cap2]) z2 W hw
  have hcmp:=fun W h1 h2=>compare_any ao1 ao2 n1 n1 n2 n2 xs ys W hn1 hn2 (Nat.le_refl _) (Nat.le_refl _) oM oM h1 h2 hN1 hN2
  rw [hs] at hsg1 hsb
  rw [ht] at hsg2 htb
  rw [hc] at hcmp hcb
  have hres : Hid ((s ≠ t->cmpI s t = cmpI z1 z2)/\(s = t->s * c = cmpI z1 z2)):=by
    subst hs; subst ht; subst hc
    refine ⟨fun h=>cmp_signs_ne h,fun h=>?_⟩
    have:=cmp_signs_eq h
    rw [hz1,hz2,natAbs_sgn,natAbs_sgn] at this
    rw [hz1,hz2]; exact this
  clear hn1 hn2 hz1 hz2 hs ht hc
  go_enter Tryz.func96,Tryz.ntmps96
  go_upto_region 1 with (fail)
  refine wp_world ?_
  intro W0 hW0
  obtain ⟨hB0,bx1,bx2,hs0⟩:=world2 hW0
  obtain ⟨c1,c2,c3,c4⟩:=bx1.two
  obtain ⟨d1,d2,d3,d4⟩:=bx2.two
  have lx1:=lx (nx hB0 (dr W0))
  go_region_held3 (fun w'=>w'.cell? ⟨w.heap.size,0,none⟩ = some (.bool neg1)/\w'.cell? ⟨w.heap.size,1,none⟩ = some (.slice ao1 n1 cap1)/\w'.cell? ⟨w.heap.size + 1,0,none⟩ = some (.bool neg2)/\w'.cell? ⟨w.heap.size + 1,1,none⟩ = some (.slice ao2 n2 cap2))
    ((((try go_split_ands); (repeat' apply And.intro)) <;> first | exact kc_drew (by assumption) | exact kc_below (by assumption) hb1 | exact kc_below (by assumption) hb2 | assumption))
    (first
      | (go_at_call_of 86 ao1; refine (hsg1 _ (H1.out.ext lx1)).mono ?_; rintro e w1 ⟨rfl,hb1⟩)
      | (go_at_call_of 86 ao2; refine (hsg2 _ (H2.out.ext (lx (nx (nx hB0 (dr W0)) hb1)))).mono ?_; rintro e w2 ⟨rfl,hb2⟩))
  have hB2:=nx (nx (nx hB0 (dr W0)) hb1) hb2
  by_cases hst : s = t
  · subst hst
    have e0 : ((s : Int) != s) = false:=by simp
    have HR : Hid (s * c = cmpI z1 z2):=hres.out.2 rfl
    clear hres
    have hq:=fun W=>hcmp W
    have bx1':=(bx1.drew.below hb1).below hb2
    have bx2':=(bx2.drew.below hb1).below hb2
    clear c1 c2 c3 c4 d1 d2 d3 d4
    go_wp2_with fail
    obtain ⟨c1,c2,c3,c4⟩:=bx1'.two
    obtain ⟨d1,d2,d3,d4⟩:=bx2'.two
    have hxd1:=hx1.ext (lx (nx hB2 (dr w2)))
    have hxd2:=hx2.ext (lx (nx hB2 (dr w2)))
    go_region_held3 (fun w'=>w'.cell? ⟨w.heap.size,1,none⟩ = some (.slice ao1 n1 cap1)/\w'.cell? ⟨w.heap.size + 1,1,none⟩ = some (.slice ao2 n2 cap2))
      ((((try go_split_ands); (repeat' apply And.intro)) <;> first | exact kc_drew (by assumption) | exact kc_below (by assumption) (drN _ _) | assumption))
      (first
        | (go_at_call_of 110 ao1; refine (hcall1 _ hxd1).mono ?_; rintro e w' ⟨rfl,rfl⟩)
        | (go_at_call_of 110 ao2; refine (hcall2 _ hxd2).mono ?_; rintro e w' ⟨rfl,rfl⟩)
        | (go_at_call 118; refine (hcmp _ hxd1 hxd2).mono ?_; rintro e w' ⟨rfl,q,rfl⟩))
    go_wp2_with fail
    go_ret
    have hr:=HR.out
    have hbd:=cmpI_bd z1 z2
    refine ⟨?_,nx hB2 (drN _ _)⟩
    rw [<-hr] at hbd ⊢
    first | rfl | (show _ = Ending.returned (.int .i64 _); simp [IntWalk.wrap64_in _ ⟨show -9223372036854775808<=s * c by omega,by omega⟩,i64_small _ hbd.1 hbd.2])
  · have e0 : ((s : Int) != t) = true:=by simpa using hst
    have E:=hres.out.1 hst
    have hci:=fun W=>cmpInt_any s t W
    rw [E] at hci
    clear E hst
    go_wp2_with (go_at_call 117; refine (hci _).mono ?_; rintro e w' ⟨rfl,rfl⟩)
    go_ret
    exact ⟨rfl,hB2⟩
theorem wrap32_nat (n : Nat) (h : n < 4294967296) : IntKind.u32.wrap (n : Int) = n:=by rw [IntKind.wrap_u32]; omega
theorem nat_drop_get (xs : List Nat) (k : Nat) (h : k < xs.length) : nat (xs.drop k) = xs.getD k 0 + B32 * nat (xs.drop (k + 1)):=by
 rw [List.drop_eq_getElem_cons h,nat_cons,List.getD_eq_getElem?_getD,List.getElem?_eq_getElem h]; rfl
theorem short_step {xs zs : List Nat} {k r d x : Nat} (h : nat (xs.drop (k + 1)) = nat (zs.drop (k + 1)) * d + r) (hk : k < xs.length) (hkz : k < zs.length) (hx : xs.getD k 0 = x) :
  nat (xs.drop k) = nat ((zs.set k ((r * 4294967296 + x) / d)).drop k) * d + (r * 4294967296 + x) % d:=by
 rw [nat_drop_get xs k hk,nat_drop_get _ k (by simpa using hkz),hx,h,drop_set_succ,List.getD_eq_getElem?_getD,List.getElem?_set_self hkz,B32_eq]
 simp only [Option.getD_some]
 have e:=Nat.div_add_mod (r * 4294967296 + x) d
 generalize (r * 4294967296 + x) / d = q at *
 generalize (r * 4294967296 + x) % d = s at *
 generalize nat (List.drop (k + 1) zs) = z at *
 rw [Nat.add_mul,Nat.mul_comm q d,Nat.mul_add,Nat.mul_assoc]
 omega
end Go.Proofs.YtjdemlfceaikgaaGreat

namespace Go.Proofs.YtjdemlfceaikgaaGreat
open Go.Shelf Go.RowKit
def Tryz.lays128_ren : Go.Shelf.Ren:=⟨fun | 128=>167 | n=>n,fun | 51=>96 | 3=>3 | 4=>4 | 46=>133 | 5=>5 | 9=>9 | n=>n,fun | n=>n⟩
end Go.Proofs.YtjdemlfceaikgaaGreat

namespace Go.Proofs.YtjdemlfceaikgaaGreat
open Go.RowKit

end Go.Proofs.YtjdemlfceaikgaaGreat

namespace Go.Proofs.YtjdemlfceaikgaaGreat
def seg (us : List Nat) (off k : Nat) : List Nat:=(us.drop off).take k
theorem Limbs.drop {xs : List Nat} (h : Limbs xs) (k : Nat) : Limbs (xs.drop k):=fun x hx=>h x (List.mem_of_mem_drop hx)
def put (us : List Nat) (off : Nat) (ms : List Nat) : List Nat:=us.take off ++ ms ++ us.drop (off + ms.length)
theorem put_length {us ms : List Nat} {off : Nat} (h : off + ms.length<=us.length) : (put us off ms).length = us.length:=by unfold put; simp; omega
theorem put_limbs {us ms : List Nat} {off : Nat} (h : Limbs us) (hm : Limbs ms) : Limbs (put us off ms):=((h.take off).append hm).append (h.drop _)
section
variable {U V Q h v2 u2 top p Ul Vl : Nat} (hU : U = (top * 4294967296 + u2) * p + Ul) (hV : V = (h * 4294967296 + v2) * p + Vl) (hp : 0 < p) (hUl : Ul < p) (hVl : Vl < p)
 (hu2 : u2 < 4294967296) (hv2 : v2 < 4294967296) (hh : 2147483648<=h) (hh2 : h < 4294967296) (hQ : Q * V<=U) (hQB : Q < 4294967296) (hUV : U < V * 4294967296)
include hU hV hp hUl hVl hu2 hv2 hh hh2 hQ hQB hUV
omit hUl hu2 hh hh2 hQ hQB hUV in
end
end Go.Proofs.YtjdemlfceaikgaaGreat

namespace Go.Proofs.YtjdemlfceaikgaaGreat
open Go.RowKit
def RetDigit (w : World) (g off n : Nat) (ua vs : List Nat) (e : Ending) (w' : World) : Prop:=
 ∃(q : Nat) (rs : List Nat),e = .returned (.int .u32 (q : Nat))/\q < 4294967296/\rs.length = n + 1/\Limbs rs/\nat (seg ua off (n + 1)) = q * nat vs + nat rs/\nat rs < nat vs/\LBlk w' g (put ua off rs)/\w.grownBy w' (some g)
end Go.Proofs.YtjdemlfceaikgaaGreat
