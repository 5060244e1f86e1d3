/- The arguments of torsionlaw13's statements, opened. torsionref05.Transpose; torsionref13: combine, combineColumns. torsionref13: combine, combineColumns. torsionref13.Changed: what it yields is P F Q, and back. The steps of torsionlaw13's statements, opened. torsionref12.Form: what its operations keep, and how the numbers grow. Plain Lean. -/
import Derived.ChangeArms
import Derived.ProofKit
import Derived.OpenShut
import Derived.Test.YtgnmdddaiefooaaGreatE16
import Derived.Test.YtgnmdddaiefooaaGreatE17
import Derived.Test.YtgnmdddaiefooaaGreatE35
import Derived.Test.YtgnmdddaiefooaaGreatE42
set_option linter.unusedVariables false
set_option linter.unusedSimpArgs false
set_option linter.unusedSectionVars false
set_option maxHeartbeats 16000000
set_option maxRecDepth 100000
namespace Go.Proofs.YtgnmdddaiefooaaGreat
open Go.ChangeShapes Go.WideShapes Go.ChangeAt Go.RowKit
theorem Tryz.own : ownKnob Tryz.prog.godebug = none:=by kernel_rfl
theorem Tryz.laidOut : laidOutB Tryz.prog = true:=by kernel_rfl
theorem cells5 : Tryz.prog.cellsOf 5 = 1:=by kernel_rfl
theorem open_i8 {H : Type} {enc : TypeId × Value->H} {w : World} {f : Nat} {cs : List Value} {y : DataW H × List MemPlace} (hf : DataW.trod enc Tryz.prog w 0 (fun _=>true) true f 22 cs = some y) (hlt : ∀x ∈ y.2,x.block < w.heap.size) :
  ∃ao n cap ls,cs = [.slice ao n cap]/\I8V w (.slice ao n cap) ls:=by
 rcases open_ints Tryz.underlying22 Tryz.underlying73 kR hf with ⟨e1,-⟩ | ⟨a,len,cap,zs,e1,-,hl,hm,hzl,e2,hcell,hwf⟩
 ·exact ⟨none,0,0,[],e1,none,0,0,rfl,rfl,xgf _,by omega,fun z hz=>(by cases hz),fun h=>absurd rfl h⟩
 ·simp only [if_true] at hzl
  unfold maxLen at hm;refine ⟨some a,len,cap,zs.take len,e1,some a,len,cap,rfl,by simp; omega,hl,by omega,fun z hz=>?_,fun h=>?_⟩
  ·have:=hwf z (List.mem_of_mem_take hz)
   exact bounds_i8 this
  ·have hpos : 0 < zs.length:=by
    rcases Nat.eq_zero_or_pos zs.length with h0 | h0
    ·exact absurd (by rw [List.eq_nil_of_length_eq_zero h0]; simp) h
    ·exact h0
   obtain ⟨b,off,rfl,hj⟩:=ints_at hcell hpos;refine ⟨b,off,rfl,?_,fun k z hk=>?_⟩
   ·exact hlt (.cell b off) (by rw [e2]; exact MemPlace.mem_row.2 ⟨0,hpos,rfl⟩)
   ·obtain ⟨h1,h2⟩:=xge.1 hk
    rw [List.getElem_take] at h2;have hkz : k < zs.length:=by
     simp at h1;omega
    rw [hj k hkz,<-h2];simp [hkz]
theorem open_raw {H : Type} {enc : TypeId × Value->H} {w : World} {b0 : Nat} {r : Reach} {v : Value} {d : DataW H} {ps : List MemPlace} (hval : Value.okWide Tryz.prog w r b0 24 v)
  (h : DataW.Trod enc Tryz.prog w 0 (fun _=>true) true 24 v d ps) (hlt : ∀x ∈ ps,x.block < w.heap.size) : ∃(a b : Nat) (sv : Value) (ls : List Int),v = .agg #[.int .u8 a,.int .u8 b,sv]/\a<=255/\b<=255/\I8V w sv ls:=by
 simp only [Value.okWide,Tryz.underlying24] at hval;obtain ⟨cs,rfl,hsz,-⟩:=hval;obtain ⟨fuel,hf⟩:=h;obtain ⟨xs,m,h0,h1,h2,h3,h4⟩:=DataW.trod_struct Tryz.underlying24 hf;have c24 : Tryz.prog.cellsOf 24 = 3:=by kernel_rfl
 have c22 : Tryz.prog.cellsOf 22 = 1:=by kernel_rfl
 have g0 : DataW.trod enc Tryz.prog w 0 (fun _=>true) true m 5 (List.take (Tryz.prog.cellsOf 5) (List.drop 0 (Value.agg cs).cells.toList)) = xs[0]?:=h4 0 _ rfl;have g1 : DataW.trod enc Tryz.prog w 0 (fun _=>true) true m 5 (List.take (Tryz.prog.cellsOf 5) (List.drop 1 (Value.agg cs).cells.toList)) = xs[1]?:=h4 1 _ rfl;have g2 : DataW.trod enc Tryz.prog w 0 (fun _=>true) true m 22 (List.take (Tryz.prog.cellsOf 22) (List.drop 2 (Value.agg cs).cells.toList)) = xs[2]?:=h4 2 _ rfl;rw [c24] at h2;rw [cells5] at g0 g1;rw [c22] at g2;simp only [Value.cells] at g0 g1 g2 h2;obtain ⟨cl⟩:=cs;match xs,h3 with
 | [y0,y1,y2],_=>
  match cl,h2 with
  | [k0,k1,k2],_=>
   simp at g0 g1 g2;obtain ⟨a,ha,-,wa⟩:=DataW.trod_int Tryz.underlying5 g0;obtain ⟨b,hb,-,wb⟩:=DataW.trod_int Tryz.underlying5 g1;simp only [Prod.mk.injEq] at h1;obtain ⟨ao,n,cap,ls,hk,hI⟩:=open_i8 g2 (fun x hx=>hlt x (by rw [h1.2]; simp [hx]));simp at ha hb hk;subst ha;subst hb;subst hk;have wa:=bounds_u8 wa;have wb:=bounds_u8 wb;exact ⟨a.toNat,b.toNat,_,ls,by rw [Int.toNat_of_nonneg wa.1,Int.toNat_of_nonneg wb.1],by omega,by omega,hI⟩
end Go.Proofs.YtgnmdddaiefooaaGreat

namespace Go.Proofs.YtgnmdddaiefooaaGreat
open Go.RowKit

def addC (F : Nat->Nat->Int) (i j : Nat) (k : Int) : Nat->Nat->Int:=fun a b=>if b = i then F a i + k * F a j else F a b
def addFu (F : Nat->Nat->Int) (i j : Nat) (k : Int) (c : Nat) : Nat->Nat->Int:=fun a b=>if a = i/\b < c then F i b + k * F j b else F a b
def addCu (F : Nat->Nat->Int) (i j : Nat) (k : Int) (c : Nat) : Nat->Nat->Int:=fun a b=>if b = i/\a < c then F a i + k * F a j else F a b
def StV (w : World) (v : Value) (ls : List (Nat × Nat × Nat × Int)) : Prop:=
 ∃ao n cap,v = .slice ao n cap/\ls.length = n/\n<=cap/\cap<=9223372036854775807/\(∀s ∈ ls,s.1<=255/\s.2.1<=255/\s.2.2.1<=255/\-128<=s.2.2.2/\s.2.2.2<=127) ∧
  (ls ≠ []->∃b off,ao = some ⟨b,off,none⟩/\b < w.heap.size/\∀(k : Nat) (s : Nat × Nat × Nat × Int),ls[k]? = some s->w.cell? ⟨b,off + k * 4,none⟩ = some (.int .u8 s.1)/\w.cell? ⟨b,off + k * 4 + 1,none⟩ = some (.int .u8 s.2.1)/\w.cell? ⟨b,off + k * 4 + 2,none⟩ = some (.int .u8 s.2.2.1)/\w.cell? ⟨b,off + k * 4 + 3,none⟩ = some (.int .i8 s.2.2.2))
theorem StV.cell {w : World} {ao : Option Addr} {n cap : Nat} {ls : List (Nat × Nat × Nat × Int)} (h : StV w (.slice ao n cap) ls) {k : Nat} (hk : k < ls.length) :
  ∃b off,∃p q r : Nat,∃z : Int,ao = some ⟨b,off,none⟩/\b < w.heap.size/\p<=255/\q<=255/\r<=255/\-128<=z/\z<=127/\w.cell? ⟨b,off + k * 4,none⟩ = some (.int .u8 p)/\w.cell? ⟨b,off + k * 4 + 1,none⟩ = some (.int .u8 q)/\w.cell? ⟨b,off + k * 4 + 2,none⟩ = some (.int .u8 r)/\w.cell? ⟨b,off + k * 4 + 3,none⟩ = some (.int .i8 z):=by
 obtain ⟨ao',n',cap',h1,h2,h3,h4,h5,h6⟩:=h;injection h1 with e1 e2 e3
 subst e1;obtain ⟨b,off,e,hb,hc⟩:=h6 (by rintro rfl; simp at hk);have hz:=xga hk;obtain ⟨g1,g2,g3,g4,g5⟩:=h5 _ (xgd hz);obtain ⟨c1,c2,c3,c4⟩:=hc _ _ hz;exact ⟨b,off,_,_,_,_,e,hb,g1,g2,g3,g4,g5,c1,c2,c3,c4⟩
theorem StV.below {w w' : World} {v : Value} {ls : List (Nat × Nat × Nat × Int)} (h : StV w v ls) (hb : Below w.heap.size w w') : StV w' v ls:=by
 obtain ⟨ao,n,cap,h1,h2,h3,h4,h5,h6⟩:=h;refine ⟨ao,n,cap,h1,h2,h3,h4,h5,fun hne=>?_⟩;obtain ⟨b,off,e,hlt,hc⟩:=h6 hne;refine ⟨b,off,e,Nat.lt_of_lt_of_le hlt hb.size,fun k s hz=>?_⟩;obtain ⟨c1,c2,c3,c4⟩:=hc k s hz;exact ⟨(hb.cell (p:=⟨b,off + k * 4,none⟩) hlt).trans c1,(hb.cell (p:=⟨b,off + k * 4 + 1,none⟩) hlt).trans c2,(hb.cell (p:=⟨b,off + k * 4 + 2,none⟩) hlt).trans c3,(hb.cell (p:=⟨b,off + k * 4 + 3,none⟩) hlt).trans c4⟩
theorem Fac.refl (R C : Nat) (F : Nat->Nat->Int) : Fac R C F F:=⟨idf,idf,fun a ha b hb=>by
 rw [<-idf_sum ha fun s=>sumN C fun t=>F s t * idf t b,sum_idf hb]⟩
theorem Fac.congr {R C : Nat} {F G G' : Nat->Nat->Int} (h : Fac R C F G) (e : ∀a,a < R->∀b,b < C->G' a b = G a b) : Fac R C F G':=by
 obtain ⟨P,Q,h⟩:=h;exact ⟨P,Q,fun a ha b hb=>(e a ha b hb).trans (h a ha b hb)⟩
theorem Fac.trans {R C : Nat} {F G H : Nat->Nat->Int} (h : Fac R C F G) (k : Fac R C G H) : Fac R C F H:=by
 obtain ⟨P,Q,h⟩:=h;obtain ⟨P',Q',k⟩:=k;refine ⟨fun a s=>sumN R fun m=>P' a m * P m s,fun t b=>sumN C fun m=>Q t m * Q' m b,fun a ha b hb=>?_⟩;rw [k a ha b hb];have e1 : ∀m,m < R->sumN C (fun t=>G m t * Q' t b) = sumN R fun s=>P m s * sumN C fun t=>F s t * sumN C fun m'=>Q t m' * Q' m' b:=fun m hm=>by
  have e2 : ∀t,t < C->G m t * Q' t b = sumN R fun s=>P m s * sumN C fun t'=>F s t' * (Q t' t * Q' t b):=fun t ht=>by
   rw [h m hm t ht,<-sumN_mulr];refine sumN_congr fun s _=>?_
   rw [Int.mul_assoc,<-sumN_mulr];congr 1;exact sumN_congr fun t' _=>Int.mul_assoc _ _ _
  rw [sumN_congr e2,sumN_swap];refine sumN_congr fun s _=>?_
  rw [sumN_mul,sumN_swap];congr 1;exact sumN_congr fun t' _=>sumN_mul _ _ _
 have e3 : ∀m,m < R->P' a m * sumN C (fun t=>G m t * Q' t b) = sumN R fun s=>(P' a m * P m s) * sumN C fun t=>F s t * sumN C fun m'=>Q t m' * Q' m' b:=fun m hm=>by
  rw [e1 m hm,<-sumN_mul];exact sumN_congr fun s _=>(Int.mul_assoc _ _ _).symm
 rw [sumN_congr e3,sumN_swap];exact sumN_congr fun s _=>sumN_mulr _ _ _
theorem Fac.rows {R C : Nat} {F G P : Nat->Nat->Int} (h : ∀a,a < R->∀b,b < C->G a b = sumN R fun s=>P a s * F s b) : Fac R C F G:=⟨P,idf,fun a ha b hb=>by
 rw [h a ha b hb];exact sumN_congr fun s _=>by rw [sum_idf hb fun t=>F s t]⟩
theorem Fac.tr {R C : Nat} {F G : Nat->Nat->Int} (h : Fac R C F G) : Fac C R (trF F) (trF G):=by
 obtain ⟨P,Q,h⟩:=h;refine ⟨fun a s=>Q s a,fun t b=>P b t,fun a ha b hb=>?_⟩;show G b a = _;rw [h b hb a ha];simp only [<-sumN_mul];rw [sumN_swap];refine sumN_congr fun t _=>sumN_congr fun s _=>?_
 show P b s * (F s t * Q t a) = Q t a * (F s t * P b s);grind
theorem Fac.ops {R C : Nat} {l : List Op} (hl : okOps R l) (F : Nat->Nat->Int) : Fac R C F (opsF l F)/\Fac R C (opsF l F) F:=
 ⟨Fac.rows (P:=opsF l idf) fun a ha b _=>ops_mat hl F a ha b,Fac.rows (P:=fun a s=>opsD l idf s a) fun a ha b _=>ops_back hl F a ha b⟩
structure ChI (R C M i : Nat) (F0 F : Nat->Nat->Int) : Prop where
 to_ : Fac R C F0 F
 back : Fac R C F F0
 le : leM (M * 3 ^ i) R C F
theorem ChI.next {R C M i : Nat} {F0 F G : Nat->Nat->Int} (h : ChI R C M i F0 F) (h1 : Fac R C F G) (h2 : Fac R C G F) (h3 : leM (M * 3 ^ i * 3) R C G) : ChI R C M (i + 1) F0 G:=
 ⟨h.to_.trans h1,h2.trans h.back,by rwa [Nat.pow_succ,<-Nat.mul_assoc]⟩
theorem ChI.same {R C M i : Nat} {F0 F : Nat->Nat->Int} (h : ChI R C M i F0 F) : ChI R C M (i + 1) F0 F:=h.next (Fac.refl _ _ _) (Fac.refl _ _ _) (h.le.mono oM)
theorem ChI.add {R C M i x y : Nat} {k : Int} {F0 F : Nat->Nat->Int} (h : ChI R C M i F0 F) (hx : x < R) (hy : y < R) (hxy : x ≠ y) (hk : k.natAbs<=2) : ChI R C M (i + 1) F0 (addF F x y k):=by
 obtain ⟨h1,h2⟩:=Fac.ops (C:=C) (l:=[.add x y k]) (okOps.cons ⟨hx,hy,hxy⟩ okOps.nil) F;exact h.next h1 h2 ((leM_add h.le hx hy).mono (Nat.mul_le_mul_left _ oM))
theorem ChI.swap {R C M i x y : Nat} {F0 F : Nat->Nat->Int} (h : ChI R C M i F0 F) (hx : x < R) (hy : y < R) : ChI R C M (i + 1) F0 (fun a b=>F (swp x y a) b):=by
 obtain ⟨h1,h2⟩:=Fac.ops (C:=C) (l:=[.swap x y]) (okOps.cons ⟨hx,hy⟩ okOps.nil) F;exact h.next h1 h2 fun a ha b hb=>Nat.le_trans (h.le _ (swp_lt hx hy ha) b hb) oM
def swnF (F : Nat->Nat->Int) (x y : Nat) : Nat->Nat->Int:=fun a b=>if b = x then -(F a y) else if b = y then F a x else F a b
def swnU (F : Nat->Nat->Int) (x y r : Nat) : Nat->Nat->Int:=fun a b=>if a < r then swnF F x y a b else F a b
theorem Blk.ne {w : World} {a b : Nat} {T T' : TypeId} {cs cs' : Array Value} (h : Blk w a T cs) (k : Blk w b T' cs') (hT : T ≠ T') : a ≠ b:=by
 rintro rfl;unfold Blk at h k;rw [h] at k;injection k with k
 injection k with k1 k2
 exact hT k2
theorem RowsO.blk {w : World} {base g n cap C : Nat} {bs : List Nat} {M : List (List Int)} (h : RowsO w base (.slice (some ⟨g,0,none⟩) n cap) C bs M) : base<=g/\∃cs,Blk w g tR cs:=by
 rcases h.own.2 with ⟨e,-⟩ | ⟨g',cap',cur,e,e2,e3,-⟩
 ·cases e
 ·injection e with e8 e9 e10
  injection e8 with e8
  injection e8 with e8
  subst e8;exact ⟨e2,cur,e3⟩
theorem Only.below {S : List Nat} {B : Nat} {w a b : World} (h : Below B w a) (ho : Only S a b) (hS : ∀k ∈ S,B<=k) (hsz : B<=a.heap.size) : Below B w b:=
 ⟨ho.bel.os.trans h.os,ho.bel.tape.trans h.tape,ho.bel.output.trans h.output,Nat.le_trans h.size ho.bel.size,fun k hk=>(ho.old k oM (fun hh=>by have:=hS k hh; omega)).trans (h.block k hk)⟩
theorem Only.blk {S : List Nat} {w w' : World} {g : Nat} {T : TypeId} {cs : Array Value} (h : Blk w g T cs) (ho : Only S w w') (hg : g ∉ S) : Blk w' g T cs:=(ho.old g h.lt hg).trans h
end Go.Proofs.YtgnmdddaiefooaaGreat

namespace Go.Proofs.YtgnmdddaiefooaaGreat
open Go.ChangeShapes Go.WideShapes Go.ChangeAt Go.RowKit

end Go.Proofs.YtgnmdddaiefooaaGreat

namespace Go.Proofs.YtgnmdddaiefooaaGreat
open Go.RowKit
def gx (E M : Nat) : Nat:=(2 * M) ^ E / 2
theorem gx_two {E M : Nat} (hE : 1<=E) : 2 * gx E M = (2 * M) ^ E:=by
 obtain ⟨e,rfl⟩ : ∃e,E = e + 1:=⟨E - 1,by omega⟩;have h : (2 * M) ^ (e + 1) = 2 * (M * (2 * M) ^ e):=by rw [Nat.pow_succ,Nat.mul_comm ((2 * M) ^ e),Nat.mul_assoc]
 unfold gx;rw [h,Nat.mul_div_cancel_left _ oM]
theorem gx_one (M : Nat) : gx 1 M = M:=by
 have:=gx_two (E:=1) (M:=M) oM;rw [Nat.pow_one] at this;omega
theorem gx_mono {a b M : Nat} (hM : 1<=M) (h : a<=b) : gx a M<=gx b M:=Nat.div_le_div_right (Nat.pow_le_pow_right oM h)
theorem gx_ge {E M : Nat} (hM : 1<=M) (hE : 1<=E) : M<=gx E M:=by have:=gx_mono hM hE; rwa [gx_one] at this
theorem gx_gx {a b M : Nat} (ha : 1<=a) : gx b (gx a M) = gx (a * b) M:=by
 have h:=gx_two (M:=M) ha;unfold gx at h ⊢
 rw [h,<-Nat.pow_mul]
theorem gx_sq (M : Nat) : gx 2 M = 2 * M * M:=by
 have h:=gx_two (E:=2) (M:=M) oM;rw [Nat.pow_two,Nat.mul_assoc 2 M (2 * M),Nat.mul_left_comm M 2 M,<-Nat.mul_assoc 2 M M] at h;omega
theorem gx_five (m : Nat) : gx 5 m = 16 * (m * m * m * m * m):=by
 have h:=gx_two (E:=5) (M:=m) oM;rw [Nat.mul_pow] at h;simp only [Nat.pow_succ,Nat.pow_zero,Nat.one_mul] at h;omega
theorem gx_gk (k M : Nat) : gx (2 ^ k) M = gk k M:=by
 have h1:=gx_two (E:=2 ^ k) (M:=M) (Nat.pow_pos oM);have h2:=gk_pow k M;omega
theorem div_abs (a b : Int) : (a / b).natAbs<=a.natAbs:=Int.natAbs_ediv_le_natAbs a b
structure KCore (n C : Nat) (x0 : Bst) (c r : Nat) (κ : Nat->Nat) (x : Bst) : Prop where
 ops : ∃l,okOps n l/\x = opsB l x0
 rn : r<=n
 ech : Ech C r κ x.s
 lt : ∀k,k < r->κ k < c
 red : RedOn (fun _ _=>True) r κ x.s
 zero : ∀a,r<=a->a < n->∀t,t < c->t < C->x.s a t = 0
section
variable {n C Ct M0 B : Nat} {x0 x : Bst} {c r : Nat} {κ : Nat->Nat}
theorem KCore.op (h : KCore n C x0 c r κ x) {o : Op} (ho : o.ok n) (hl : ∀a,a < r->∀t,(∀b,r<=b->b < n->x.s b t = 0) ∨ True->(o.b x).s a t = x.s a t) (hz : ∀t,(∀b,r<=b->b < n->x.s b t = 0)->∀a,r<=a->a < n->(o.b x).s a t = 0) : KCore n C x0 c r κ (o.b x):=by
 obtain ⟨l,l1,l2⟩:=h.ops;refine ⟨opsB_ex l1 l2 (okOps.cons ho okOps.nil) rfl,h.rn,⟨h.ech.lt,fun k hk=>?_,fun k hk t ht=>?_,h.ech.inc⟩,h.lt,fun i j h1 h2 h3=>?_,fun a h1 h2 t h3 h4=>?_⟩
 ·rw [hl k hk _ (.inr trivial)]; exact h.ech.pos k hk
 ·rw [hl k hk _ (.inr trivial)]; exact h.ech.zero k hk t ht
 ·rw [hl i oM _ (.inr trivial),hl j h2 _ (.inr trivial)]; exact h.red i j h1 h2 h3
 ·exact hz t (fun b g1 g2=>h.zero b g1 g2 t h3 h4) a h1 h2
theorem KCore.add (h : KCore n C x0 c r κ x) {i j : Nat} (k : Int) (hi : i < n) (hj : j < n) (hij : i ≠ j) (hri : r<=i) (hrj : r<=j) : KCore n C x0 c r κ (x.add i j k):=by
 refine h.op (o:=.add i j k) ⟨hi,hj,hij⟩ (fun a ha t _=>?_) (fun t ht a h1 h2=>?_)
 ·show addF x.s i j k a t = _
  unfold addF; rw [if_neg oM]
 ·show addF x.s i j k a t = _
  unfold addF; split
  ·rw [ht i hri hi,ht j hrj hj]; omega
  ·exact ht a h1 h2
theorem KCore.swap (h : KCore n C x0 c r κ x) {i j : Nat} (hi : i < n) (hj : j < n) (hri : r<=i) (hrj : r<=j) : KCore n C x0 c r κ (x.swap i j):=by
 refine h.op (o:=.swap i j) ⟨hi,hj⟩ (fun a ha t _=>?_) (fun t ht a h1 h2=>?_)
 ·show x.s (swp i j a) t = _
  rw [show swp i j a = a by unfold swp; rw [if_neg oM,if_neg oM]]
 ·show x.s (swp i j a) t = _
  refine ht _ ?_ (swp_lt hi hj h2);unfold swp; split <;> (try split) <;> omega
theorem KCore.neg (h : KCore n C x0 c r κ x) {i : Nat} (hi : i < n) (hri : r<=i) : KCore n C x0 c r κ (x.neg i):=by
 refine h.op (o:=.neg i) hi (fun a ha t _=>?_) (fun t ht a h1 h2=>?_)
 ·show negF x.s i a t = _
  unfold negF; rw [if_neg oM]
 ·show negF x.s i a t = _
  unfold negF; split
  ·rw [ht a h1 h2]; rfl
  ·exact ht a h1 h2
theorem KCore.redAdd (h : KCore n C x0 c r κ x) {i : Nat} (k : Int) (hi : i < r) (hr : r < n) (hc : c < C) : KCore n C x0 c r κ (x.add i r k):=by
 obtain ⟨l,l1,l2⟩:=h.ops;have hz : ∀t,t < c->x.s r t = 0:=fun t ht=>h.zero r (xgf _) hr t ht oM
 have hs : ∀a t,t < c->(x.add i r k).s a t = x.s a t:=fun a t ht=>by
  show addF x.s i r k a t = _;unfold addF; split
  ·rename_i e; rw [hz t ht,Int.mul_zero,Int.add_zero,e]
  ·rfl
 refine ⟨opsB_ex l1 l2 (okOps.cons (o:=.add i r k) ⟨by omega,hr,by omega⟩ okOps.nil) rfl,h.rn,⟨h.ech.lt,fun k hk=>?_,fun k hk t ht=>?_,h.ech.inc⟩,h.lt,fun i j h1 h2 h3=>?_,fun a h1 h2 t h3 h4=>?_⟩
 ·rw [hs _ _ (h.lt _ hk)]; exact h.ech.pos _ hk
 ·rw [hs _ _ (by have:=h.lt _ hk; omega)]; exact h.ech.zero _ hk t ht
 ·rw [hs _ _ (h.lt _ h2),hs _ _ (h.lt _ h2)]; exact h.red i j h1 h2 h3
 ·rw [hs _ _ h3]; exact h.zero a h1 h2 t h3 h4
structure KI (n C Ct b0 : Nat) (x0 : Bst) (c r : Nat) (κ : Nat->Nat) (i : Nat) (x : Bst) : Prop where
 core : KCore n C x0 c r κ x
 col : ∀a,r < a->a < i->x.s a c = 0
 same : x.s r c = 0->leB b0 n C Ct x
def EBd (n C Ct m : Nat) (X Y : Int) (x : Bst) : Prop:=
 leB m n C Ct x ∨ (0<=Y/\X.natAbs<=m/\Y.natAbs<=m/\leB (2 * m * m) n C Ct x) ∨ (0<=X/\0<=Y/\∃a,1<=a/\leB a n C Ct x/\a<=gx 5 m/\a * (2 * X.natAbs * Y.natAbs)<=gx 5 m)
theorem five_a {m : Nat} (hm : 1<=m) : 2 * m * m * (1 + m)<=gx 5 m/\2 * m * m * (1 + m) * (2 * m * m)<=gx 5 m/\m * (1 + m)<=2 * m * m/\2 * m * m<=gx 5 m/\m<=gx 5 m:=by
 rw [gx_five];have h1 : m * 1<=m * m:=Nat.mul_le_mul_left _ hm;have h2 : m * m * 1<=m * m * m:=Nat.mul_le_mul_left _ hm;have h3 : m * m * m * 1<=m * m * m * m:=Nat.mul_le_mul_left _ hm;have h4 : m * m * m * m * 1<=m * m * m * m * m:=Nat.mul_le_mul_left _ hm;have e1 : 2 * m * m * (1 + m) = 2 * (m * m) + 2 * (m * m * m):=by
  rw [Nat.mul_add,Nat.mul_one,Nat.mul_assoc 2 m m,Nat.mul_assoc 2 (m * m) m]
 have e2 : 2 * m * m * (1 + m) * (2 * m * m) = 4 * (m * m * m * m) + 4 * (m * m * m * m * m):=by
  have a1 : m * m * m * m = m * m * (m * m):=Nat.mul_assoc _ _ _;rw [e1,a1,Nat.mul_assoc 2 m m];generalize m * m = s;have a2 : 2 * s * (2 * s) = 4 * (s * s):=by rw [Nat.mul_mul_mul_comm]
  have a3 : 2 * (s * m) * (2 * s) = 4 * (s * s * m):=by rw [Nat.mul_mul_mul_comm,Nat.mul_right_comm s m s]
  rw [Nat.add_mul,a2,a3]
 have e3 : m * (1 + m) = m + m * m:=by rw [Nat.mul_add,Nat.mul_one]
 have e4 : 2 * m * m = 2 * (m * m):=Nat.mul_assoc _ _ _;rw [e2,e1,e3,e4];refine ⟨by omega,by omega,by omega,by omega,by omega⟩
theorem EBd.le {m : Nat} {X Y : Int} (hm : 1<=m) (h : EBd n C Ct m X Y x) : leB (gx 5 m) n C Ct x:=by
 obtain ⟨-,-,-,h4,h5⟩:=five_a hm;rcases h with h | ⟨-,-,-,h⟩ | ⟨-,-,a,-,h,h2,-⟩
 ·exact h.mono h5
 ·exact h.mono h4
 ·exact h.mono h2
theorem leB_swap {m i j : Nat} (h : leB m n C Ct x) (hi : i < n) (hj : j < n) : leB m n C Ct (x.swap i j):=by
 have:=leB_b (o:=.swap i j) h ⟨hi,hj⟩;rwa [show Op.g (.swap i j) = 1 from rfl,Nat.mul_one] at this
theorem leB_neg {m i : Nat} (h : leB m n C Ct x) (hi : i < n) : leB m n C Ct (x.neg i):=by
 have:=leB_b (o:=.neg i) h hi;rwa [show Op.g (.neg i) = 1 from rfl,Nat.mul_one] at this
theorem swap_at (x : Bst) (i j t : Nat) : (x.swap i j).s i t = x.s j t/\(x.swap i j).s j t = x.s i t/\∀a,a ≠ i->a ≠ j->(x.swap i j).s a t = x.s a t:=by
 refine ⟨?_,?_,fun a h1 h2=>?_⟩
 ·show x.s (swp i j i) t = _
  unfold swp; rw [if_pos rfl]
 ·show x.s (swp i j j) t = _
  unfold swp; split
  ·rename_i e; rw [e]
  ·rw [if_pos rfl]
 ·show x.s (swp i j a) t = _
  unfold swp; rw [if_neg h1,if_neg h2]
theorem KI.swap0 {b0 i m : Nat} (h : KI n C Ct b0 x0 c r κ i x) (hri : r < i) (hi : i < n) (hX : x.s r c = 0) (hY : x.s i c ≠ 0) (he : EBd n C Ct m (x.s r c) (x.s i c) x) :
  KI n C Ct b0 x0 c r κ i (x.swap r i)/\EBd n C Ct m ((x.swap r i).s r c) ((x.swap r i).s i c) (x.swap r i)/\(x.swap r i).s i c = 0:=by
 obtain ⟨s1,s2,s3⟩:=swap_at x r i c;have hr : r < n:=by omega
 rw [s1,s2];refine ⟨⟨h.core.swap hr hi (xgf _) oM,fun a h1 h2=>?_,fun e=>?_⟩,?_,hX⟩
 ·rw [s3 a oM oM]; exact h.col a h1 h2
 ·rw [s1] at e; exact absurd e hY
 ·rw [hX]
  rcases he with h | ⟨h1,h2,h3,h4⟩ | ⟨h1,h2,a,h3,h4,h5,h6⟩
  ·exact .inl (leB_swap h hr hi)
  ·exact .inr (.inl ⟨by omega,h3,by simp,leB_swap h4 hr hi⟩)
  ·exact .inr (.inr ⟨h2,by omega,a,h3,leB_swap h4 hr hi,h5,by simp⟩)
theorem pot_le {X Y q r : Nat} (h : X = q * Y + r) : (1 + q) * (2 * Y * r)<=2 * X * Y ∨ Y < r:=by
 rcases Nat.lt_or_ge Y r with h1 | h1
 ·exact .inr h1
 ·refine .inl ?_
  have h2 : q * r<=q * Y:=Nat.mul_le_mul_left _ h1;have h3 : (1 + q) * r<=X:=by rw [Nat.add_mul,Nat.one_mul]; omega
  have h4 : (1 + q) * (2 * Y * r) = 2 * Y * ((1 + q) * r):=by rw [Nat.mul_left_comm]
  have h5 : 2 * X * Y = 2 * Y * X:=by rw [Nat.mul_assoc,Nat.mul_assoc,Nat.mul_comm X]
  rw [h4,h5];exact Nat.mul_le_mul_left _ h3
theorem KI.step {b0 i m : Nat} (h : KI n C Ct b0 x0 c r κ i x) (hri : r < i) (hi : i < n) (hc : c < C) (hm : 1<=m) (hX : x.s r c ≠ 0) (hY : x.s i c ≠ 0) (he : EBd n C Ct m (x.s r c) (x.s i c) x) (hB : gx 5 m < B) :
  okAdd B n C Ct x r i (-(x.s r c / x.s i c))/\KI n C Ct b0 x0 c r κ i ((x.add r i (-(x.s r c / x.s i c))).swap r i)/\EBd n C Ct m (((x.add r i (-(x.s r c / x.s i c))).swap r i).s r c) (((x.add r i (-(x.s r c / x.s i c))).swap r i).s i c) ((x.add r i (-(x.s r c / x.s i c))).swap r i) ∧
   (((x.add r i (-(x.s r c / x.s i c))).swap r i).s i c).natAbs < (x.s i c).natAbs:=by
 have hr : r < n:=by omega
 obtain ⟨f1,f2,f3,f4,f5⟩:=five_a hm;have hdm:=Int.mul_ediv_add_emod (x.s r c) (x.s i c);have hr0:=Int.emod_nonneg (x.s r c) hY;have hrl:=Int.emod_lt (x.s r c) hY;have hqX:=div_abs (x.s r c) (x.s i c);obtain ⟨q,hq⟩ : ∃q,x.s r c / x.s i c = q:=⟨_,rfl⟩;obtain ⟨p,hp⟩ : ∃p,x.s r c % x.s i c = p:=⟨_,rfl⟩;rw [hq] at hqX hdm ⊢
 rw [hp] at hdm hr0 hrl;have hsr : (x.add r i (-q)).s r c = p:=by
  show addF x.s r i (-q) r c = _;unfold addF; rw [if_pos rfl,Int.neg_mul,Int.mul_comm q]; omega
 have hsi : ∀a,a ≠ r->(x.add r i (-q)).s a c = x.s a c:=fun a ha=>by
  show addF x.s r i (-q) a c = _;unfold addF; rw [if_neg ha]
 obtain ⟨s1,s2,s3⟩:=swap_at (x.add r i (-q)) r i c;rw [hsi i oM] at s1;rw [hsr] at s2;have hoa : (Op.add r i (-q)).ok n:=⟨hr,hi,by omega⟩;have hg : ∀{a : Nat},leB a n C Ct x->leB (a * (1 + q.natAbs)) n C Ct ((x.add r i (-q)).swap r i):=fun h=>by
  have:=leB_b h hoa;rw [show (Op.add r i (-q)).g = 1 + q.natAbs by simp [Op.g]] at this;exact leB_swap this hr hi
 have hk : ∀{a : Nat},1<=a->leB a n C Ct x->a * (1 + q.natAbs)<=gx 5 m->okAdd B n C Ct x r i (-q):=fun h1 h2 h3=>okAdd_of h2 hr hi oM h1 (by rw [Int.natAbs_neg]; omega)
 have hKI : KI n C Ct b0 x0 c r κ i ((x.add r i (-q)).swap r i):=⟨(h.core.add _ hr hi oM (xgf _) oM).swap hr hi (xgf _) oM,fun a h1 h2=>by
   rw [s3 a oM oM,hsi a oM]; exact h.col a h1 h2,fun e=>by rw [s1] at e; exact absurd e hY⟩
 rw [s1,s2];have hlast : p.natAbs < (x.s i c).natAbs:=by omega
 rcases he with he | ⟨e1,e2,e3,e4⟩ | ⟨e1,e2,a,e3,e4,e5,e6⟩
 ·have bX:=he.1 r hr c hc
  have bY:=he.1 i hi c hc;have hb : m * (1 + q.natAbs)<=2 * m * m:=Nat.le_trans (Nat.mul_le_mul_left _ oM) f3;exact ⟨hk hm he oM,hKI,.inr (.inl ⟨hr0,bY,by omega,(hg he).mono hb⟩),hlast⟩
 ·have hb : 2 * m * m * (1 + q.natAbs)<=2 * m * m * (1 + m):=Nat.mul_le_mul_left _ oM
  have h1 : 1<=2 * m * m:=Nat.le_trans hm (gk_one hm);have hy : (x.s i c).natAbs * p.natAbs<=m * m:=Nat.mul_le_mul e3 oM;refine ⟨hk h1 e4 oM,hKI,.inr (.inr ⟨e1,hr0,_,Nat.mul_pos h1 oM,hg e4,by omega,?_⟩),hlast⟩;refine Nat.le_trans (Nat.mul_le_mul hb ?_) f2;rw [Nat.mul_assoc,Nat.mul_assoc];exact Nat.mul_le_mul_left _ hy
 ·have hY0 : 0 < x.s i c:=by omega
  have hq0 : 0<=q:=by rw [<-hq]; exact Int.ediv_nonneg e1 e2
  have hXe : (x.s r c).natAbs = q.natAbs * (x.s i c).natAbs + p.natAbs:=by
   have h5 : ((q.natAbs * (x.s i c).natAbs + p.natAbs : Nat) : Int) = x.s r c:=by
    rw [Int.natCast_add,Int.natCast_mul,Int.natAbs_of_nonneg hq0,Int.natAbs_of_nonneg e2,Int.natAbs_of_nonneg hr0,Int.mul_comm]; exact hdm
   omega
  have hp1 : 1 + q.natAbs<=2 * (x.s r c).natAbs * (x.s i c).natAbs:=by
   have g1 : 2 * (x.s r c).natAbs * 1<=2 * (x.s r c).natAbs * (x.s i c).natAbs:=Nat.mul_le_mul_left _ oM;omega
  have hp2 : (1 + q.natAbs) * (2 * (x.s i c).natAbs * p.natAbs)<=2 * (x.s r c).natAbs * (x.s i c).natAbs:=by
   rcases pot_le hXe with g | g
   ·exact g
   ·omega
  have b1 : a * (1 + q.natAbs)<=gx 5 m:=Nat.le_trans (Nat.mul_le_mul_left _ hp1) e6;refine ⟨hk e3 e4 b1,hKI,.inr (.inr ⟨e2,hr0,_,Nat.mul_pos e3 oM,hg e4,b1,?_⟩),hlast⟩;rw [Nat.mul_assoc];exact Nat.le_trans (Nat.mul_le_mul_left _ hp2) e6
def eE (n : Nat) : Nat->Nat
 | 0=>1
 | r + 1=>eE n r * 5 ^ (n - (r + 1)) * 2 ^ r
theorem eE_pos (n : Nat) : ∀r,1<=eE n r
 | 0=>xgf _
 | r + 1=>Nat.mul_pos (Nat.mul_pos (eE_pos n r) (Nat.pow_pos oM)) (Nat.pow_pos oM)
theorem eE_mono (n : Nat) {a b : Nat} (h : a<=b) : eE n a<=eE n b:=by
 obtain ⟨d,rfl⟩:=Nat.exists_eq_add_of_le h;clear h;induction d with
 | zero=>exact xgf _
 | succ d ih=>
  refine Nat.le_trans ih ?_;show _<=eE n (a + d) * _ * _;rw [Nat.mul_assoc];exact Nat.le_mul_of_pos_right _ (Nat.mul_pos (Nat.pow_pos oM) (Nat.pow_pos oM))
theorem eE_le {n r : Nat} (hn : n<=4) (hr : r<=n) : eE n r<=2 ^ 20:=by
 refine Nat.le_trans (eE_mono n hr) ?_;rcases (by omega : n = 0 ∨ n = 1 ∨ n = 2 ∨ n = 3 ∨ n = 4) with rfl | rfl | rfl | rfl | rfl <;> decide
def eI (n r i : Nat) : Nat:=eE n r * 5 ^ (i - (r + 1))
theorem eI_pos (n r i : Nat) : 1<=eI n r i:=Nat.mul_pos (eE_pos n r) (Nat.pow_pos oM)
theorem eI_start (n r : Nat) : eI n r (r + 1) = eE n r:=by unfold eI; rw [Nat.sub_self,Nat.pow_zero,Nat.mul_one]
theorem eI_succ {n r i : Nat} (h : r < i) : eI n r (i + 1) = eI n r i * 5:=by
 unfold eI;rw [show i + 1 - (r + 1) = (i - (r + 1)) + 1 by omega,Nat.pow_succ,Nat.mul_assoc]
theorem eI_last (n r j : Nat) (hr : r < n) (hj : j<=r) : eI n r n * 2 ^ j<=eE n (r + 1):=by
 show _<=eE n r * 5 ^ (n - (r + 1)) * 2 ^ r;exact Nat.mul_le_mul_left _ (Nat.pow_le_pow_right oM hj)
theorem eI_le {n r i : Nat} (hr : r < n) (hi : i<=n) : eI n r i<=eE n (r + 1):=by
 refine Nat.le_trans ?_ (eI_last n r 0 hr oM);rw [Nat.pow_zero,Nat.mul_one];exact Nat.mul_le_mul_left _ (Nat.pow_le_pow_right oM oM)
def KO (n C Ct M0 : Nat) (x0 : Bst) (c r : Nat) (κ : Nat->Nat) (x : Bst) : Prop:=KCore n C x0 c r κ x/\leB (gx (eE n r) M0) n C Ct x
def KR (n C Ct M0 : Nat) (x0 : Bst) (c r : Nat) (κ : Nat->Nat) (i : Nat) (x : Bst) : Prop:=KI n C Ct (gx (eE n r) M0) x0 c r κ i x/\leB (gx (eI n r i) M0) n C Ct x
def KEu (n C Ct M0 : Nat) (x0 : Bst) (c r : Nat) (κ : Nat->Nat) (i : Nat) (x : Bst) : Prop:=KI n C Ct (gx (eE n r) M0) x0 c r κ i x/\EBd n C Ct (gx (eI n r i) M0) (x.s r c) (x.s i c) x
theorem KO.start (M1 : leB M0 n C Ct x0) : KO n C Ct M0 x0 0 0 κ x0:=
 ⟨⟨⟨[],okOps.nil,rfl⟩,Nat.zero_le _,⟨fun k hk=>by omega,fun k hk=>by omega,fun k hk=>by omega,fun k l _ hl=>by omega⟩,fun k hk=>by omega,fun i j _ hj=>by omega,fun a _ _ t ht=>by omega⟩,by
  show leB (gx 1 M0) n C Ct x0
  rw [gx_one]; exact M1⟩
theorem KO.enter (h : KO n C Ct M0 x0 c r κ x) : KR n C Ct M0 x0 c r κ (r + 1) x:=⟨⟨h.1,fun a h1 h2=>by omega,fun _=>h.2⟩,by rw [eI_start]; exact h.2⟩
theorem KR.enter {i : Nat} (h : KR n C Ct M0 x0 c r κ i x) : KEu n C Ct M0 x0 c r κ i x:=⟨h.1,.inl h.2⟩
theorem KEu.exit {i : Nat} (hM0 : 1<=M0) (h : KEu n C Ct M0 x0 c r κ i x) (hri : r < i) (hY : x.s i c = 0) : KR n C Ct M0 x0 c r κ (i + 1) x:=by
 refine ⟨⟨h.1.core,fun a h1 h2=>?_,h.1.same⟩,?_⟩
 ·by_cases e : a = i
  ·rw [e]; exact hY
  ·exact h.1.col a h1 oM
 ·rw [eI_succ hri,<-gx_gx (eI_pos _ _ _)]
  exact h.2.le (Nat.le_trans hM0 (gx_ge hM0 (eI_pos _ _ _)))
theorem KR.none (h : KR n C Ct M0 x0 c r κ n x) (hX : x.s r c = 0) : KO n C Ct M0 x0 (c + 1) r κ x:=by
 obtain ⟨h1,h2⟩:=h;refine ⟨⟨h1.core.ops,h1.core.rn,h1.core.ech,fun k hk=>Nat.lt_succ_of_lt (h1.core.lt k hk),h1.core.red,fun a g1 g2 t g3 g4=>?_⟩,h1.same hX⟩;by_cases e : t = c
 ·subst e
  by_cases e2 : a = r
  ·rw [e2]; exact hX
  ·exact h1.col a oM g2
 ·exact h1.core.zero a g1 g2 t oM g4
structure KD (n C Ct M0 : Nat) (x0 : Bst) (c r : Nat) (κ : Nat->Nat) (i : Nat) (x : Bst) : Prop where
 core : KCore n C x0 c r κ x
 pos : 0 < x.s r c
 col : ∀a,r < a->a < n->x.s a c = 0
 red : ∀a,a < i->0<=x.s a c/\x.s a c < x.s r c
 bd : leB (gx (eI n r n * 2 ^ i) M0) n C Ct x
theorem KR.pos (h : KR n C Ct M0 x0 c r κ n x) (hX : 0 < x.s r c) : KD n C Ct M0 x0 c r κ 0 x:=
 ⟨h.1.core,hX,fun a h1 h2=>h.1.col a h1 h2,fun a ha=>by omega,by rw [Nat.pow_zero,Nat.mul_one]; exact h.2⟩
theorem KR.neg (h : KR n C Ct M0 x0 c r κ n x) (hr : r < n) (hX : x.s r c < 0) : KD n C Ct M0 x0 c r κ 0 (x.neg r):=by
 have hs : ∀a t,(x.neg r).s a t = if a = r then -(x.s a t) else x.s a t:=fun a t=>rfl
 refine ⟨h.1.core.neg hr (xgf _),?_,fun a h1 h2=>?_,fun a ha=>by omega,?_⟩
 ·rw [hs,if_pos rfl]; omega
 ·rw [hs,if_neg oM]; exact h.1.col a h1 h2
 ·rw [Nat.pow_zero,Nat.mul_one]; exact leB_neg h.2 hr
theorem KD.step {i : Nat} (hM0 : 1<=M0) (h : KD n C Ct M0 x0 c r κ i x) (hi : i < r) (hr : r < n) (hc : c < C) (hB : gx (eE n (r + 1)) M0 < B) :
  okAdd B n C Ct x i r (-(x.s i c / x.s r c))/\KD n C Ct M0 x0 c r κ (i + 1) (x.add i r (-(x.s i c / x.s r c))):=by
 obtain ⟨h1,h2,h3,h4,h5⟩:=h;have hdm:=Int.mul_ediv_add_emod (x.s i c) (x.s r c);have hr0:=Int.emod_nonneg (x.s i c) (b:=x.s r c) oM;have hrl:=Int.emod_lt_of_pos (x.s i c) h2;have hq:=div_abs (x.s i c) (x.s r c);obtain ⟨q,hq'⟩ : ∃q,x.s i c / x.s r c = q:=⟨_,rfl⟩;rw [hq'] at hdm hq ⊢
 have hep : 1<=eI n r n * 2 ^ i:=Nat.mul_pos (eI_pos _ _ _) (Nat.pow_pos oM);have hm1 : 1<=gx (eI n r n * 2 ^ i) M0:=Nat.le_trans hM0 (gx_ge hM0 hep);have hqm : q.natAbs<=gx (eI n r n * 2 ^ i) M0:=Nat.le_trans hq (h5.1 i oM c hc);have hst:=one_step hm1 hqm;have hgg : 2 * gx (eI n r n * 2 ^ i) M0 * gx (eI n r n * 2 ^ i) M0 = gx (eI n r n * 2 ^ (i + 1)) M0:=by
  rw [<-gx_sq,gx_gx hep,Nat.pow_succ,Nat.mul_assoc]
 have hle : gx (eI n r n * 2 ^ (i + 1)) M0<=gx (eE n (r + 1)) M0:=gx_mono hM0 (eI_last n r (i + 1) hr oM);have hs : ∀a t,(x.add i r (-q)).s a t = if a = i then x.s i t + -q * x.s r t else x.s a t:=fun a t=>rfl
 have hb:=leB_b (o:=.add i r (-q)) h5 ⟨by omega,hr,by omega⟩;rw [show (Op.add i r (-q)).g = 1 + q.natAbs by simp [Op.g]] at hb;refine ⟨okAdd_of h5 oM hr oM hm1 (by rw [Int.natAbs_neg]; omega),⟨h1.redAdd _ hi hr hc,?_,fun a g1 g2=>?_,fun a ha=>?_,hb.mono oM⟩⟩
 ·rw [hs,if_neg oM]; exact h2
 ·rw [hs,if_neg oM]; exact h3 a g1 g2
 ·rw [hs,hs,if_neg (show ¬ r = i by omega)]
  split
  ·rename_i e
   rw [Int.neg_mul,Int.mul_comm q];constructor <;> omega
  ·exact h4 a oM
theorem KD.exit (hM0 : 1<=M0) (h : KD n C Ct M0 x0 c r κ r x) (hr : r < n) (hc : c < C) : KO n C Ct M0 x0 (c + 1) (r + 1) (fun k=>if k = r then c else κ k) x:=by
 obtain ⟨h1,h2,h3,h4,h5⟩:=h;have e1 : ∀k,k < r->(if k = r then c else κ k) = κ k:=fun k hk=>if_neg oM
 refine ⟨⟨h1.ops,hr,⟨fun k hk=>?_,fun k hk=>?_,fun k hk t ht=>?_,fun k l h hl=>?_⟩,fun k hk=>?_,fun i j g1 g2 _=>?_,fun a g1 g2 t g3 g4=>?_⟩,h5.mono (gx_mono hM0 (eI_last n r r hr (xgf _)))⟩
 ·by_cases e : k = r
  ·rw [if_pos e]; exact hc
  ·rw [e1 k oM]; exact h1.ech.lt k oM
 ·by_cases e : k = r
  ·rw [if_pos e,e]; exact h2
  ·rw [e1 k oM]; exact h1.ech.pos k oM
 ·skip
  by_cases e : k = r
  ·rw [if_pos e] at ht; rw [e]; exact h1.zero r (xgf _) hr t ht oM
  ·rw [e1 k oM] at ht; exact h1.ech.zero k oM t ht
 ·rw [e1 k oM]
  by_cases e : l = r
  ·rw [if_pos e]; exact h1.lt k oM
  ·rw [e1 l oM]; exact h1.ech.inc k l h oM
 ·by_cases e : k = r
  ·rw [if_pos e]; omega
  ·rw [e1 k oM]; have:=h1.lt k oM; omega
 ·by_cases e : j = r
  ·rw [if_pos e,e]; exact h4 i oM
  ·rw [e1 j oM]; exact h1.red i j g1 oM trivial
 ·by_cases e : t = c
  ·rw [e]; exact h3 a oM g2
  ·exact h1.zero a oM g2 t oM g4
theorem KO.form {R C : Nat} {A : Nat->Nat->Int} (h : KO R C R M0 ⟨A,idf,idf⟩ c r κ x) (he : c = C ∨ r = R) : HForm R C r κ A x.s x.t (fun a b=>x.i b a):=by
 obtain ⟨h1,h2⟩:=h;obtain ⟨l,hl,hx⟩:=h1.ops;rw [opsB_eq] at hx;have hs : x.s = opsF l A:=by rw [hx]
 have ht : x.t = opsF l idf:=by rw [hx]
 have hi : x.i = opsD l idf:=by rw [hx]
 refine ⟨⟨h1.rn,h1.ech,h1.red,fun a g1 g2 t g3=>?_⟩,fun a ha b hb=>?_,fun a ha b hb=>?_,fun a ha b hb=>?_⟩
 ·rcases he with e | e
  ·exact h1.zero a g1 g2 t oM g3
  ·omega
 ·rw [hs,ht]; exact ops_mat hl A a ha b
 ·rw [ht,hi]; exact ops_dot hl (P:=idf) (Q:=idf) (C:=R) (fun a ha b hb=>dot_idf R a ha b hb) a ha b hb
 ·rw [hs,hi]; exact ops_back hl A a ha b
end
end Go.Proofs.YtgnmdddaiefooaaGreat
