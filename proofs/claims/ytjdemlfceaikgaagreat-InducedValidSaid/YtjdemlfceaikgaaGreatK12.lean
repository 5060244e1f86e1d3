/- hermite.addTo, where smith.addTo is there, too. hermite.blend, where smith.blend is there, too. hermite: leading; rows of length 0. hermite: work.add. hermite: work.mix. hermite: work.negate. hermite: work.add, mix, negate where the rows of u and v are nil. A mix of two rows by a matrix with determinant 1 is a list of elementary operations. Plain Lean. hermite: a run's state; join. hermite: join. hermite: the pivots; reduce. Lists of pivots: slices.Insert. smith: work.divide. smith: the parts of work.run. smith: work.run. slices.Index, slices.Contains; matrix.Equal's comparison; combine to bools. smith's echelon form (the mirror) ends, within bounds, in a Hermite normal form. Plain Lean. smith's take, reduce and echelon (the mirror) end within bounds. Plain Lean. The Hermite normal form is unique. Plain Lean. Hermite normal forms: how large, square ones, and what determinants tell. Plain Lean. smith's run (the mirror) ends within bounds; what its matrices are to each other. Plain Lean. smith's run (the mirror) ends, within bounds, in a diagonal. Plain Lean. smith's divide (the mirror): relations, bounds, and the chain of invariants. Plain Lean. -/
import Derived.Lib.AppendZeros
import Derived.Lib.AppendZerosOnto
import Derived.Lib.Overlaps
import Derived.Laws.CopyRow
import Derived.Laws.Externs
import Derived.Test.YtjdemlfceaikgaaGreatK10
set_option linter.unusedVariables false
set_option linter.unusedSimpArgs false
set_option linter.unusedSectionVars false
namespace Go.Proofs.YtjdemlfceaikgaaGreat
open Go.RowKit


def NilW (w : World) (A : Value) (n : Nat) : Prop:=∃g cap cs,A = .slice (some ⟨g,0,none⟩) n cap/\n<=cap/\cap<=9223372036854775807/\Blk w g tR cs/\∀i,i < n->cs[i]? = some (.slice none 0 0)
theorem NilW.below {w w' : World} {A : Value} {n : Nat} (h : NilW w A n) (hb : Below w.heap.size w w') : NilW w' A n:=by
 obtain ⟨g,cap,cs,h1,h2,h3,h4,h5⟩:=h
 exact ⟨g,cap,cs,h1,h2,h3,h4.below hb,h5⟩
theorem blk_ne {w : World} {g b : Nat} {t : TypeId} {cs : Array Value} {r : List Int} (hb : Blk w g t cs) (hr : RowAt w b r) (ht : ¬ t = tI) : g ≠ b:=by
 rintro rfl
 obtain ⟨cs',h1,-⟩:=hr
 exact ht (congrArg (fun o : Option Obj=>match o with | some (Obj.cells _ t _)=>t | _=>0) (hb.symm.trans h1))
theorem Blk.row {w w' : World} {g b : Nat} {t : TypeId} {cs : Array Value} {r : List Int} (hb : Blk w g t cs) (ho : Only [b] w w') (hr : RowAt w b r) (ht : ¬ t = tI) : Blk w' g t cs:=
 (ho.old g hb.lt (by simpa using blk_ne hb hr ht)).trans hb
theorem NilW.row {w w' : World} {A : Value} {n b : Nat} {r : List Int} (h : NilW w A n) (ho : Only [b] w w') (hr : RowAt w b r) : NilW w' A n:=by
 obtain ⟨g,cap,cs,h1,h2,h3,h4,h5⟩:=h
 exact ⟨g,cap,cs,h1,h2,h3,h4.row ho hr dE,h5⟩
theorem NilW.at_ {w : World} {A : Value} {n i : Nat} (h : NilW w A n) (hi : i < n) : ∃g cap,A = .slice (some ⟨g,0,none⟩) n cap/\w.cell? ⟨g,i,none⟩ = some (.slice none 0 0):=by
 obtain ⟨g,cap,cs,h1,h2,h3,h4,h5⟩:=h
 exact ⟨g,cap,h1,(cell_of_row w g i cs tR _ h4).trans (h5 i hi)⟩




def Bst.mix (x : Bst) (i j : Nat) (a b c d : Int) : Bst:=⟨blendF x.s i j a b c d,blendF x.t i j a b c d,blendF x.i i j d (-c) (-b) a⟩
theorem BandV.below {w w' : World} {As At Ai : Value} {n Cs Ct : Nat} {bss bst bsi : List Nat} {S T I : Nat->Nat->Int} (h : BandV w As At Ai n Cs Ct bss bst bsi S T I) (hb : Below w.heap.size w w') : BandV w' As At Ai n Cs Ct bss bst bsi S T I:=
 ⟨h.s.below hb,h.t.below hb,h.i.below hb,h.st,h.si,h.ti,h.ast,h.asi,h.ati⟩
section
variable {e : Bool} {Z : Nat->Prop} {w w' : World} {bw : Nat} {Ah : Value} {n Cs Ct : Nat} {x : Bst}
structure okMix (B n Cs Ct : Nat) (x : Bst) (i j : Nat) (a b c d : Int) : Prop where
 kk : a.natAbs < B/\b.natAbs < B/\c.natAbs < B/\d.natAbs < B
 ss : ∀t,t < Cs->(a * x.s i t).natAbs < B/\(b * x.s j t).natAbs < B/\(c * x.s i t).natAbs < B/\(d * x.s j t).natAbs < B
 tt : ∀t,t < Ct->(a * x.t i t).natAbs < B/\(b * x.t j t).natAbs < B/\(c * x.t i t).natAbs < B/\(d * x.t j t).natAbs < B
 ii : ∀t,t < Ct->(d * x.i i t).natAbs < B/\(c * x.i j t).natAbs < B/\(b * x.i i t).natAbs < B/\(a * x.i j t).natAbs < B
 oo : okB B n Cs Ct (x.mix i j a b c d)
end
inductive JoinR (x : Bst) (r m c : Nat) : Bst->Prop
 | add : x.s m c % x.s r c = 0->JoinR x r m c (x.add m r (-(x.s m c / x.s r c)))
 | mix (s t : Int) : ¬ x.s m c % x.s r c = 0->Bez (x.s r c) (x.s m c) s t->JoinR x r m c (x.mix r m s t (-(x.s m c / ((Int.gcd (x.s r c) (x.s m c) : Nat) : Int))) (x.s r c / ((Int.gcd (x.s r c) (x.s m c) : Nat) : Int)))
theorem OnlyZ.new {Z : Nat->Prop} {w w1 w2 : World} {b : Nat} (h : OnlyZ Z w w1) (ho : Only [b] w1 w2) (hb : w.heap.size<=b) : OnlyZ Z w w2:=
 ⟨h.bel.trans ho.bel,h.lext.trans ho.lext,fun k hk hn=>(ho.old k (Nat.lt_of_lt_of_le hk h.bel.size) (by simp; omega)).trans (h.old k hk hn)⟩
def redPJ (B n Cs Ct : Nat) (ρ κ : Nat->Nat) (i : Nat) : Nat->Nat->Bst->Option Bst
 | 0,_,x=>some x
 | m + 1,j,x=>
  if x.s (ρ i) (κ j) = 0 then redPJ B n Cs Ct ρ κ i m (j + 1) x
  else if x.s (ρ j) (κ j) = 0 then none
  else if x.s (ρ i) (κ j) / x.s (ρ j) (κ j) = 0 then redPJ B n Cs Ct ρ κ i m (j + 1) x
  else if okAdd B n Cs Ct x (ρ i) (ρ j) (-(x.s (ρ i) (κ j) / x.s (ρ j) (κ j))) then redPJ B n Cs Ct ρ κ i m (j + 1) (x.add (ρ i) (ρ j) (-(x.s (ρ i) (κ j) / x.s (ρ j) (κ j))))
  else none
def redPI (B n Cs Ct : Nat) (ρ κ : Nat->Nat) (r : Nat) : Nat->Bst->Option Bst
 | 0,x=>some x
 | i + 1,x=>(redPJ B n Cs Ct ρ κ i (r - (i + 1)) (i + 1) x).bind (redPI B n Cs Ct ρ κ r i)
def pc (L : List (Nat × Nat)) : List Value:=L.flatMap fun p=>[.int .i64 (p.1 : Nat),.int .i64 (p.2 : Nat)]

def okW (B R C Cu Cw : Nat) (z : W5) : Prop:=okF B R C z.s/\okF B R Cu z.u/\okF B R Cu z.v/\okF B C Cw z.w/\okF B C Cw z.x
theorem RowsO.fresh {w : World} {base : Nat} {A : Value} {C : Nat} {bs : List Nat} {M : List (List Int)} (h : RowsO w base A C bs M) {b : Nat} (hb : Zn A bs b) : base<=b:=by
 rcases hb with hb | hb
 ·obtain ⟨k,hk,e⟩:=List.getElem_of_mem hb
  exact (h.row k b (M[k]'(by rw [h.len]; exact hk)) (by rw [List.getElem?_eq_getElem hk,e]) (List.getElem?_eq_getElem _)).1
 ·rcases h.own.2 with ⟨rfl,-⟩ | ⟨g,cap,cur,rfl,h2,-⟩
  ·cases hb
  ·simp only [Value.ownBlock,Option.some.injEq] at hb
   omega
section
variable {w w' : World} {base wb RS CS R C Cu Cw : Nat} {AS AU AV AW AX : Value} {bS bU bV bW bX : List Nat} {z : W5}
end
theorem Wri.shape {w : World} {A : Value} {R C : Nat} {bs : List Nat} {F : Nat->Nat->Int} (h : Wri w A R C bs F) : ∃o c,A = .slice o R c:=by
 obtain ⟨so,sn,sc,rfl,s1,-⟩:=id (RowsO.rows h)
 obtain rfl : R = sn:=by rw [<-s1]; simp [genM]
 exact ⟨_,_,rfl⟩
theorem VecO.shape {w : World} {base : Nat} {v : Value} {zs : List Int} (h : VecO w base v zs) : ∃o c,v = .slice o zs.length c:=by
 obtain ⟨cells,h1,-⟩:=h
 rcases h1.2 with ⟨rfl,h0⟩ | ⟨g,cap,cur,rfl,-⟩
 ·exact ⟨none,0,by rw [h0]⟩
 ·exact ⟨_,_,rfl⟩
abbrev tBo : TypeId:=4
def bArr (n : Nat) (g : Nat->Bool) : Array Value:=((List.range n).map fun i=>Value.bool (g i)).toArray
theorem lead_eq {C : Nat} {F : Nat->Nat->Int} {i c : Nat} (hc : c < C) (h : F i c ≠ 0) (hz : ∀t,t < c->F i t = 0) : lead C F i = (c : Int):=by
 rcases lead_spec C F i with ⟨-,h2⟩ | ⟨j,h1,h2,h3,h4⟩
 ·exact absurd (h2 c hc) h
 ·rcases Nat.lt_trichotomy j c with h5 | h5 | h5
  ·exact absurd (hz j h5) h3
  ·rw [h1,h5]
  ·exact absurd (h4 c h5) h
theorem lead_neg {C : Nat} {F : Nat->Nat->Int} {i : Nat} (hz : ∀t,t < C->F i t = 0) : lead C F i = -1:=by
 rcases lead_spec C F i with ⟨h1,-⟩ | ⟨j,h1,h2,h3,h4⟩
 ·exact h1
 ·exact absurd (hz j h2) h3
theorem lead_lt0 {C : Nat} {F : Nat->Nat->Int} {i : Nat} (h : lead C F i < 0) : ∀t,t < C->F i t = 0:=by
 rcases lead_spec C F i with ⟨-,h1⟩ | ⟨j,h1,-⟩
 ·exact h1
 ·omega
theorem lead_congr {C : Nat} {F G : Nat->Nat->Int} {i j : Nat} (h : ∀t,t < C->F i t = G j t) : lead C F i = lead C G j:=by
 unfold lead
 rw [genV_congr h]
structure Ech (C r : Nat) (c : Nat->Nat) (F : Nat->Nat->Int) : Prop where
 lt : ∀k,k < r->c k < C
 pos : ∀k,k < r->0 < F k (c k)
 zero : ∀k,k < r->∀t,t < c k->F k t = 0
 inc : ∀k l,k < l->l < r->c k < c l
theorem Ech.lead {C r : Nat} {c : Nat->Nat} {F : Nat->Nat->Int} (h : Ech C r c F) {k : Nat} (hk : k < r) : lead C F k = (c k : Int):=lead_eq (h.lt k hk) (by have:=h.pos k hk; omega) (h.zero k hk)
def rotOps (k : Nat) : Nat->List Op
 | 0=>[]
 | m + 1=>.swap (k + m + 1) (k + m) :: rotOps k m
def rotI (k m a : Nat) : Nat:=if a = k then k + m else if k < a/\a<=k + m then a - 1 else a
theorem le_pow2 {Z a b : Nat} (hZ : 1<=Z) (h : a<=b) : Z ^ a<=Z ^ b:=Nat.pow_le_pow_right hZ h
def TakeP (Cs m rank : Nat) (F G : Nat->Nat->Int) (b : Bool) (c' : Nat->Nat) : Prop:=
 Ech Cs (if b then rank + 1 else rank) c' G/\(∀a,(if b then rank + 1 else rank)<=a->a<=m->∀t,t < Cs->G a t = 0)/\∀a,m < a->∀t,G a t = F a t
def RedOn (P : Nat->Nat->Prop) (r : Nat) (c : Nat->Nat) (F : Nat->Nat->Int) : Prop:=∀i j,i < j->j < r->P i j->0<=F i (c j)/\F i (c j) < F j (c j)
def redE (rank : Nat) : Nat->Nat
 | 0=>0
 | i + 1=>(rank - (i + 1)) + redE rank i
structure Hnf (C n r : Nat) (c : Nat->Nat) (F : Nat->Nat->Int) : Prop where
 le : r<=n
 ech : Ech C r c F
 red : RedOn (fun _ _=>True) r c F
 zero : ∀a,r<=a->a < n->∀t,t < C->F a t = 0
def ecE : Nat->Nat->Nat
 | 0,_=>1
 | l + 1,m=>4 ^ m * 2 ^ (m * (m + 1) / 2) * ecE l (m + 1)
def KE : Nat:=4194304
theorem first_nz {r : Nat} {x : Nat->Int} (h : ∃t,t < r/\x t ≠ 0) : ∃t,t < r/\x t ≠ 0/\∀s,s < t->x s = 0:=by
 obtain ⟨t,ht⟩:=h
 induction t using Nat.strongRecOn with
 | ind t ih=>
  by_cases he : ∃s,s < t/\x s ≠ 0
  ·obtain ⟨s,h1,h2⟩:=he
   exact ih s h1 ⟨by omega,h2⟩
  ·exact ⟨t,ht.1,ht.2,fun s hs=>Classical.byContradiction fun hn=>he ⟨s,hs,hn⟩⟩
theorem comb_at {C r : Nat} {c : Nat->Nat} {H : Nat->Nat->Int} {x : Nat->Int} (hE : Ech C r c H) {t : Nat} (ht : t < r) (hx : ∀s,s < t->x s = 0) : (sumN r fun s=>x s * H s (c t)) = x t * H t (c t):=
 sumN_one ht fun s hs hne=>by
  rcases Nat.lt_or_ge s t with h | h
  ·rw [hx s h,Int.zero_mul]
  ·rw [hE.zero s hs _ (hE.inc t s oM hs),Int.mul_zero]
theorem comb_before {C r : Nat} {c : Nat->Nat} {H : Nat->Nat->Int} {x : Nat->Int} (hE : Ech C r c H) {t b : Nat} (ht : t < r) (hx : ∀s,s < t->x s = 0) (hb : b < c t) : (sumN r fun s=>x s * H s b) = 0:=
 sumN_zero fun s hs=>by
  rcases Nat.lt_or_ge s t with h | h
  ·rw [hx s h,Int.zero_mul]
  ·have : b < c s:=by
    rcases Nat.lt_or_ge t s with h2 | h2
    ·have:=hE.inc t s h2 hs; omega
    ·obtain rfl : s = t:=by omega
     exact hb
   rw [hE.zero s hs _ this,Int.mul_zero]
theorem span_lead {C r : Nat} {c : Nat->Nat} {H : Nat->Nat->Int} {v x : Nat->Int} (hE : Ech C r c H) (hv : ∀b,b < C->v b = sumN r fun t=>x t * H t b) {d : Nat} (hd : d < C) (h0 : v d ≠ 0) (hz : ∀b,b < d->v b = 0) :
  ∃j,j < r/\c j = d/\v d = x j * H j (c j):=by
 have hex : ∃t,t < r/\x t ≠ 0:=Classical.byContradiction fun hn=>h0 (by
  rw [hv d hd]
  exact sumN_zero fun t ht=>by
   have : x t = 0:=Classical.byContradiction fun h=>hn ⟨t,ht,h⟩
   rw [this,Int.zero_mul])
 obtain ⟨t,ht,hx,hbef⟩:=first_nz hex
 have h1:=comb_at hE ht hbef
 have h2 : v (c t) = x t * H t (c t):=by rw [hv _ (hE.lt t ht),h1]
 have h3 : v (c t) ≠ 0:=by
  rw [h2]
  exact Int.mul_ne_zero hx (by have:=hE.pos t ht; omega)
 have h4 : c t = d:=by
  rcases Nat.lt_trichotomy (c t) d with h | h | h
  ·exact absurd (hz _ h) h3
  ·exact h
  ·exact absurd (by rw [hv d hd]; exact comb_before hE ht hbef h) h0
 exact ⟨t,ht,h4,by rw [<-h4]; exact h2⟩
def Spans (n C : Nat) (H G : Nat->Nat->Int) : Prop:=∃X : Nat->Nat->Int,∀a,a < n->∀b,b < C->G a b = sumN n fun t=>X a t * H t b
theorem Hnf.span {n C r : Nat} {c : Nat->Nat} {H G : Nat->Nat->Int} (hH : Hnf C n r c H) (h : Spans n C H G) : ∃X : Nat->Nat->Int,∀a,a < n->∀b,b < C->G a b = sumN r fun t=>X a t * H t b:=by
 obtain ⟨X,e⟩:=h
 refine ⟨X,fun a ha b hb=>?_⟩
 rw [e a ha b hb]
 exact sumN_ext hH.le fun t h2 h3=>by rw [hH.zero t h2 h3 b hb,Int.mul_zero]
theorem hnf_cols {n C r r' : Nat} {c c' : Nat->Nat} {H G : Nat->Nat->Int} (hH : Hnf C n r c H) (hG : Hnf C n r' c' G) (h1 : Spans n C H G) (h2 : Spans n C G H) : ∀k,k < r->k < r'/\c' k = c k:=by
 obtain ⟨X,hX⟩:=hH.span h1
 obtain ⟨Y,hY⟩:=hG.span h2
 have cG : ∀k,k < r'->∃j,j < r/\c j = c' k:=fun k hk=>by
  obtain ⟨j,a,b,-⟩:=span_lead hH.ech (v:=G k) (x:=X k) (fun b hb=>hX k (Nat.lt_of_lt_of_le hk hG.le) b hb) (hG.ech.lt k hk) (by have:=hG.ech.pos k hk; omega) (hG.ech.zero k hk)
  exact ⟨j,a,b⟩
 have cH : ∀k,k < r->∃j,j < r'/\c' j = c k:=fun k hk=>by
  obtain ⟨j,a,b,-⟩:=span_lead hG.ech (v:=H k) (x:=Y k) (fun b hb=>hY k (Nat.lt_of_lt_of_le hk hH.le) b hb) (hH.ech.lt k hk) (by have:=hH.ech.pos k hk; omega) (hH.ech.zero k hk)
  exact ⟨j,a,b⟩
 intro k
 induction k using Nat.strongRecOn with
 | ind k ih=>
  intro hk
  obtain ⟨j,hj,ej⟩:=cH k hk
  have hkj : k<=j:=by
   refine Nat.le_of_not_lt fun h=>?_
   have e1:=(ih j h oM).2
   have:=hH.ech.inc j k h hk
   omega
  have hkr : k < r':=by omega
  refine ⟨hkr,?_⟩
  obtain ⟨i,hi,ei⟩:=cG k hkr
  have h3 : c' k<=c' j:=by
   rcases Nat.lt_or_ge k j with h | h
   ·exact Nat.le_of_lt (hG.ech.inc k j h hj)
   ·obtain rfl : k = j:=by omega
    exact Nat.le_refl _
  have h4 : k<=i:=by
   refine Nat.le_of_not_lt fun h=>?_
   have e1:=(ih i h oM).2
   have:=hG.ech.inc i k h hkr
   omega
  have h5 : c k<=c i:=by
   rcases Nat.lt_or_ge k i with h | h
   ·exact Nat.le_of_lt (hH.ech.inc k i h hi)
   ·obtain rfl : k = i:=by omega
    exact Nat.le_refl _
  omega
theorem hnf_unique {n C r r' : Nat} {c c' : Nat->Nat} {H G : Nat->Nat->Int} (hH : Hnf C n r c H) (hG : Hnf C n r' c' G) (h1 : Spans n C H G) (h2 : Spans n C G H) :
  r = r'/\(∀k,k < r->c' k = c k)/\∀a,a < n->∀b,b < C->G a b = H a b:=by
 have k1:=hnf_cols hH hG h1 h2
 have k2:=hnf_cols hG hH h2 h1
 have hr : r = r':=by
  have a1 : r<=r':=by
   rcases Nat.eq_zero_or_pos r with h | h
   ·omega
   ·have:=(k1 (r - 1) oM).1; omega
  have a2 : r'<=r:=by
   rcases Nat.eq_zero_or_pos r' with h | h
   ·omega
   ·have:=(k2 (r' - 1) oM).1; omega
  omega
 subst hr
 have hc : ∀k,k < r->c' k = c k:=fun k hk=>(k1 k hk).2
 obtain ⟨X,hX⟩:=hH.span h1
 obtain ⟨Y,hY⟩:=hG.span h2
 have hp : ∀k,k < r->G k (c k) = H k (c k):=fun k hk=>by
  obtain ⟨j,j1,j2,j3⟩:=span_lead hH.ech (v:=G k) (x:=X k) (fun b hb=>hX k (Nat.lt_of_lt_of_le hk hG.le) b hb) (hG.ech.lt k hk) (by have:=hG.ech.pos k hk; omega) (hG.ech.zero k hk)
  obtain ⟨i,i1,i2,i3⟩:=span_lead hG.ech (v:=H k) (x:=Y k) (fun b hb=>hY k (Nat.lt_of_lt_of_le hk hH.le) b hb) (hH.ech.lt k hk) (by have:=hH.ech.pos k hk; omega) (hH.ech.zero k hk)
  have ej : j = k:=by
   rw [hc k hk] at j2
   rcases Nat.lt_trichotomy j k with h | h | h
   ·have:=hH.ech.inc j k h hk; omega
   ·exact h
   ·have:=hH.ech.inc k j h j1; omega
  have ei : i = k:=by
   rw [hc i i1] at i2
   rcases Nat.lt_trichotomy i k with h | h | h
   ·have:=hH.ech.inc i k h hk; omega
   ·exact h
   ·have:=hH.ech.inc k i h i1; omega
  subst ej
  subst ei
  rw [hc _ hk] at j3 i3
  exact Int.dvd_antisymm (by have:=hG.ech.pos _ hk; rw [hc _ hk] at this; omega) (by have:=hH.ech.pos _ hk; omega) ⟨Y _ _,by rw [i3,Int.mul_comm]⟩ ⟨X _ _,by rw [j3,Int.mul_comm]⟩
 refine ⟨rfl,hc,fun a ha b hb=>?_⟩
 rcases Nat.lt_or_ge a r with har | har
 ·have hD : ∀b,b < C->G a b - H a b = sumN r fun t=>(X a t - (if t = a then 1 else 0)) * H t b:=fun b hb=>by
   have e1 : (sumN r fun t=>(if t = a then (1 : Int) else 0) * H t b) = H a b:=by
    rw [sumN_one har (fun i _ hne=>by rw [if_neg hne,Int.zero_mul]),if_pos rfl,Int.one_mul]
   have e2:=sumN_lin r 1 (-1) (fun t=>X a t * H t b) (fun t=>(if t = a then (1 : Int) else 0) * H t b)
   have e4 : (sumN r fun t=>(X a t - (if t = a then 1 else 0)) * H t b) = sumN r fun t=>1 * (X a t * H t b) + (-1) * ((if t = a then (1 : Int) else 0) * H t b):=sumN_congr fun t _=>by
    rw [Int.sub_mul]
    omega
   rw [hX a ha b hb,e4,e2,e1]
   omega
  have hz : ∀t,t < r->X a t - (if t = a then 1 else 0) = 0:=Classical.byContradiction fun hn=>by
   have hex : ∃t,t < r/\X a t - (if t = a then 1 else 0) ≠ 0:=Classical.byContradiction fun h=>hn fun t ht=>Classical.byContradiction fun h2=>h ⟨t,ht,h2⟩
   obtain ⟨t,ht,hx,hbef⟩:=first_nz hex
   have e1:=comb_at hH.ech ht hbef
   rw [<-hD _ (hH.ech.lt t ht)] at e1
   have hpos:=hH.ech.pos t ht
   have hlow : ∀y : Int,y ≠ 0->H t (c t)<=(y * H t (c t)).natAbs:=fun y hy=>by
    rw [Int.natAbs_mul]
    have : 1<=y.natAbs:=by omega
    have h5:=Nat.mul_le_mul_right (H t (c t)).natAbs this
    omega
   have h6:=hlow _ hx
   rw [<-e1] at h6
   rcases Nat.lt_trichotomy t a with h | h | h
   ·have f1:=hH.ech.zero a har (c t) (hH.ech.inc t a h har)
    have f2:=hG.ech.zero a har (c t) (by rw [hc a har]; exact hH.ech.inc t a h har)
    rw [f1,f2] at h6
    simp at h6
    omega
   ·subst h
    rw [hp t ht] at h6
    simp at h6
    omega
   ·obtain ⟨f1,f2⟩:=hH.red a t h ht trivial
    obtain ⟨f3,f4⟩:=hG.red a t h ht trivial
    rw [hc t ht,hp t ht] at f4
    rw [hc t ht] at f3
    omega
  have e4:=hD b hb
  rw [sumN_zero (fun t ht=>by rw [hz t ht,Int.zero_mul])] at e4
  omega
 ·rw [hG.zero a har ha b hb,hH.zero a har ha b hb]
theorem det_col_sum {k R : Nat} {F : Nat->Nat->Int} {i : Nat} {c : Nat->Int} {v : Nat->Nat->Int} (h : i < k) :
  det k (setc F i fun a=>sumN R fun t=>c t * v a t) = sumN R fun t=>c t * det k (setc F i fun a=>v a t):=by
 have:=det_row_sum (k:=k) (R:=R) (F:=trp F) (i:=i) (c:=c) (v:=fun t a=>v a t) h
 rw [<-det_trp] at this
 refine this.trans (sumN_congr fun t ht=>?_)
 rw [<-det_trp]
 rfl
theorem det_idf (k : Nat) : det k idf = 1:=by
 rw [det_lower (fun a _ b _ h=>by unfold idf; rw [if_neg oM])]
 induction k with
 | zero=>rfl
 | succ k ih=>unfold prodN; rw [ih]; simp [idf]
theorem det_some {r R : Nat} {P V : Nat->Nat->Int} (h : ∀a,a < r->∀b,b < r->sumN R (fun t=>P a t * V t b) = idf a b) : ∃σ : Nat->Nat,(∀a,a < r->σ a < R)/\det r (fun a b=>V (σ a) b) ≠ 0:=by
 refine Classical.byContradiction fun hn=>?_
 have h1 : (0 : Int) ∣ det r fun a b=>sumN R fun t=>P a t * V t b:=det_dvd_rows fun σ hσ=>by
  have : det r (fun a b=>V (σ a) b) = 0:=Classical.byContradiction fun h0=>hn ⟨σ,hσ,h0⟩
  rw [this]
  exact Int.dvd_refl 0
 rw [det_congr (G:=idf) h,det_idf] at h1
 have:=Int.zero_dvd.1 h1
 omega
theorem hnf_square {n m r r' : Nat} {c σ : Nat->Nat} {F H X : Nat->Nat->Int} (hH : Hnf m n r c H) (hback : ∀a,a < n->∀b,b < m->F a b = sumN n fun t=>X t a * H t b) (hcol : ∀a,a < n->∀b,r'<=b->b < m->H a b = 0) (hr' : r'<=m)
  (hσ : ∀a,a < r'->σ a < n) (hdet : det r' (fun a b=>F (σ a) b) ≠ 0) : r = r'/\∀k,k < r->c k = k:=by
 have hc : ∀k,k < r->c k < r':=fun k hk=>by
  rcases Nat.lt_or_ge (c k) r' with h | h
  ·exact h
  ·have h1:=hcol k (by have:=hH.le; omega) (c k) h (hH.ech.lt k hk)
   have h2:=hH.ech.pos k hk
   omega
 have hck : ∀k,k < r->k<=c k:=by
  intro k
  induction k with
  | zero=>intro _; omega
  | succ k ih=>
   intro hk
   have h1:=ih oM
   have h2:=hH.ech.inc k (k + 1) oM hk
   omega
 have hle : r<=r':=by
  rcases Nat.eq_zero_or_pos r with h | h
  ·omega
  ·have h1:=hck (r - 1) oM
   have h2:=hc (r - 1) oM
   omega
 have hge : r'<=r:=by
  rcases Nat.lt_or_ge r r' with h | h
  ·have h1 : (0 : Int) ∣ det r' fun a b=>sumN n fun t=>X t (σ a) * H t b:=det_dvd_rows (P:=fun a t=>X t (σ a)) (F:=H) fun τ hτ=>by
    refine dvd_rows_inc (R:=n) (F:=H) (fun τ hτ hi=>?_) τ hτ
    have h2:=hi.le (r' - 1) oM
    rw [det_row_zero (c:=r' - 1) oM fun b hb=>hH.zero _ oM (hτ _ oM) b oM]
    exact Int.dvd_refl 0
   rw [det_congr (G:=fun a b=>F (σ a) b) fun a ha b hb=>(hback _ (hσ a ha) b oM).symm] at h1
   exact absurd (Int.zero_dvd.1 h1) hdet
  ·exact h
 refine ⟨by omega,fun k hk=>?_⟩
 have hup : ∀d k,k + d + 1 = r->c k + d < r':=by
  intro d
  induction d with
  | zero=>intro k hk; exact hc k oM
  | succ d ih=>
   intro k hk
   have h1:=ih (k + 1) oM
   have h2:=hH.ech.inc k (k + 1) oM oM
   omega
 have h1:=hup (r - 1 - k) k oM
 have h2:=hck k hk
 omega
theorem hnf_dvd {n m r j : Nat} {F H X : Nat->Nat->Int} (hH : Hnf m n r (fun k=>k) H) (hback : ∀a,a < n->∀b,b < m->F a b = sumN n fun t=>X t a * H t b) (hj : j<=r) (hlow : ∀a,a < j->∀b,b < j->a < b->F a b = 0) :
  prodN j (fun i=>H i i) ∣ prodN j (fun i=>F i i):=by
 have hrn:=hH.le
 have hrm : r<=m:=by
  rcases Nat.eq_zero_or_pos r with h | h
  ·omega
  ·have:=hH.ech.lt (r - 1) oM
   omega
 rw [<-det_lower hlow]
 have h1 : prodN j (fun i=>H i i) ∣ det j fun a b=>sumN n fun t=>X t a * H t b:=det_dvd_rows (P:=fun a t=>X t a) (F:=H) fun τ hτ=>by
  refine dvd_rows_inc (R:=n) (F:=H) (fun τ hτ hi=>?_) τ hτ
  rcases Nat.eq_zero_or_pos j with hj0 | hj0
  ·subst hj0; exact Int.dvd_refl _
  ·rcases Nat.lt_or_ge (τ (j - 1)) j with h | h
   ·have hid : ∀d,d < j->τ (j - 1 - d) = j - 1 - d:=by
     intro d hd
     have h2:=hi.le (j - 1 - d) oM
     rcases Nat.eq_zero_or_pos d with h3 | h3
     ·subst h3
      have:=hi.le (j - 1) oM
      simp only [Nat.sub_zero] at *
      omega
     ·have : ∀d,d < j->τ (j - 1 - d) + d<=τ (j - 1):=by
       intro d
       induction d with
       | zero=>intro _; simp
       | succ d ihd=>
        intro hd
        have g1:=ihd oM
        have g2:=hi (j - 1 - (d + 1)) oM
        rw [show j - 1 - (d + 1) + 1 = j - 1 - d by omega] at g2
        omega
      have:=this d hd
      omega
    rw [det_congr (G:=H) fun a ha b hb=>by
     have:=hid (j - 1 - a) oM
     rw [show j - 1 - (j - 1 - a) = a by omega] at this
     rw [this]]
    rw [det_upper fun a ha b hb hab=>hH.ech.zero a oM b hab]
    exact Int.dvd_refl _
   ·rw [det_row_zero (c:=j - 1) oM fun b hb=>?_]
    ·exact Int.dvd_zero _
    ·rcases Nat.lt_or_ge (τ (j - 1)) r with h2 | h2
     ·exact hH.ech.zero _ h2 b oM
     ·exact hH.zero _ h2 (hτ _ oM) b oM
 rwa [det_congr (G:=F) fun a ha b hb=>(hback a oM b oM).symm] at h1
theorem hnf_diag {n m r : Nat} {F H X : Nat->Nat->Int} (hH : Hnf m n r (fun k=>k) H) (hback : ∀a,a < n->∀b,b < m->F a b = sumN n fun t=>X t a * H t b) (hlow : ∀a,a < r->∀b,b < r->a < b->F a b = 0) (hp : ∀i,i < r->F i i = H i i) (hrm : r<=m) :
  ∀i,i < r->∀b,b < r->i < b->H i b = 0:=by
 have hrn:=hH.le
 have hback2 : ∀a,a < n->∀b,b < m->F a b = sumN r fun t=>X t a * H t b:=fun a ha b hb=>by
  rw [hback a ha b hb]
  refine sumN_ext hH.le fun t h2 h3=>?_
  rw [hH.zero t h2 h3 b hb,Int.mul_zero]
 intro i
 induction i using Nat.strongRecOn with
 | ind i ihi=>
  intro hi
  have hpi : 0 < H i i:=hH.ech.pos i hi
  have hone : X i i = 1:=by
   have e:=hback2 i oM i oM
   rw [sumN_one (c:=i) hi (fun t ht hne=>by
    rcases Nat.lt_or_ge t i with h | h
    ·rw [ihi t h ht i hi h,Int.mul_zero]
    ·rw [hH.ech.zero t ht i (by show i < t; omega),Int.mul_zero]),hp i hi] at e
   have h2 : (X i i - 1) * H i i = 0:=by rw [Int.sub_mul,Int.one_mul]; omega
   rcases Int.mul_eq_zero.1 h2 with h | h <;> omega
  have key : ∀b,b < r->i < b->H i b = 0/\X b i = 0:=by
   intro b
   induction b using Nat.strongRecOn with
   | ind b ihb=>
    intro hb hib
    have e:=hback2 i oM b oM
    rw [hlow i hi b hb hib] at e
    have hsplit : sumN r (fun t=>X t i * H t b) = X i i * H i b + X b i * H b b:=by
     have g1 : sumN r (fun t=>X t i * H t b) = sumN r (fun t=>(if t = i then X i i * H i b else 0) + (if t = b then X b i * H b b else 0)):=sumN_congr fun t ht=>by
      by_cases e1 : t = i
      ·rw [if_pos e1,if_neg oM,e1]; omega
      ·rw [if_neg e1]
       by_cases e2 : t = b
       ·rw [if_pos e2,e2]; omega
       ·rw [if_neg e2]
        rcases Nat.lt_or_ge t b with h | h
        ·rcases Nat.lt_or_ge t i with h3 | h3
         ·rw [ihi t h3 ht b hb oM,Int.mul_zero]; rfl
         ·rw [(ihb t h ht oM).2,Int.zero_mul]; rfl
        ·rw [hH.ech.zero t ht b (by show b < t; omega),Int.mul_zero]; rfl
     rw [g1,sumN_add,sumN_one (c:=i) hi (fun t _ hne=>if_neg hne),sumN_one (c:=b) hb (fun t _ hne=>if_neg hne),if_pos rfl,if_pos rfl]
    rw [hsplit,hone,Int.one_mul] at e
    have hr : 0<=H i b/\H i b < H b b:=hH.red i b hib hb trivial
    have hX : X b i = 0:=by
     rcases Int.lt_trichotomy (X b i) 0 with h | h | h
     ·have : X b i * H b b<=-1 * H b b:=Int.mul_le_mul_of_nonneg_right oM oM
      omega
     ·exact h
     ·have : 1 * H b b<=X b i * H b b:=Int.mul_le_mul_of_nonneg_right oM oM
      omega
    rw [hX,Int.zero_mul] at e
    exact ⟨by omega,hX⟩
  exact fun b hb hib=>(key b hb hib).1
structure Rel (R C : Nat) (A : Nat->Nat->Int) (z : W5) : Prop where
 s : ∀a,a < R->∀b,b < C->z.s a b = sumN R fun s=>z.u a s * sumN C fun t=>A s t * z.w b t
 uv : ∀a,a < R->∀b,b < R->dot R z.u z.v a b = idf a b
 vu : ∀a,a < R->∀b,b < R->cod R z.v z.u a b = idf a b
 wx : ∀a,a < C->∀b,b < C->dot C z.w z.x a b = idf a b
 xw : ∀a,a < C->∀b,b < C->cod C z.x z.w a b = idf a b
theorem idf_comm (a b : Nat) : idf a b = idf b a:=by unfold idf; split <;> split <;> omega
theorem sum_idf {n a : Nat} (ha : a < n) (f : Nat->Int) : sumN n (fun t=>f t * idf t a) = f a:=by
 rw [sumN_one (c:=a) ha]
 ·unfold idf; rw [if_pos rfl,Int.mul_one]
 ·intro t ht hne
  unfold idf; rw [if_neg hne,Int.mul_zero]
theorem dot_idf (n : Nat) : ∀a,a < n->∀b,b < n->dot n idf idf a b = idf a b:=fun a ha b hb=>by
 unfold dot
 rw [sumN_congr (g:=fun t=>idf a t * idf t b) (fun t ht=>by rw [idf_comm b t]),sum_idf hb]
theorem cod_idf (n : Nat) : ∀a,a < n->∀b,b < n->cod n idf idf a b = idf a b:=fun a ha b hb=>by
 unfold cod
 rw [sumN_congr (g:=fun t=>idf a t * idf t b) (fun t ht=>by rw [idf_comm t a]),sum_idf hb]
theorem Rel.start (R C : Nat) (A : Nat->Nat->Int) : Rel R C A ⟨A,idf,idf,idf,idf⟩:=
 ⟨fun a ha b hb=>by
  show A a b = sumN R fun s=>idf a s * sumN C fun t=>A s t * idf b t
  rw [<-idf_sum ha fun s=>sumN C fun t=>A s t * idf b t,sumN_congr (g:=fun t=>A a t * idf t b) (fun t ht=>by rw [idf_comm b t]),sum_idf hb],
 dot_idf R,cod_idf R,dot_idf C,cod_idf C⟩
theorem Rel.rows {R C : Nat} {A : Nat->Nat->Int} {z : W5} {l : List Op} (h : Rel R C A z) (hl : okOps R l) : Rel R C A ⟨opsF l z.s,opsF l z.u,opsD l z.v,z.w,z.x⟩:=
 ⟨fun a ha b hb=>ops_lin (b:=b) (G:=fun s b=>sumN C fun t=>A s t * z.w b t) hl (fun a ha=>h.s a ha b hb) a ha,ops_dot hl h.uv,fun a ha b hb=>by
  show cod R (opsD l z.v) (opsF l z.u) a b = _
  rw [ops_cod hl]; exact h.vu a ha b hb,h.wx,h.xw⟩
theorem Rel.back {R C : Nat} {A : Nat->Nat->Int} {z : W5} (h : Rel R C A z) : ∀a,a < R->∀b,b < C->A a b = sumN R fun s=>z.v s a * sumN C fun t=>z.s s t * z.x t b:=by
 intro a ha b hb
 have e1 : ∀s,s < R->sumN C (fun t=>z.s s t * z.x t b) = sumN R fun s'=>z.u s s' * A s' b:=fun s hs=>by
  have g1 : ∀t,t < C->z.s s t * z.x t b = sumN R fun s'=>z.u s s' * (sumN C fun t'=>A s' t' * (z.w t t' * z.x t b)):=fun t ht=>by
   rw [h.s s hs t ht,<-sumN_mulr]
   refine sumN_congr fun s' hs'=>?_
   rw [Int.mul_assoc,<-sumN_mulr]
   congr 1
   exact sumN_congr fun t' ht'=>Int.mul_assoc _ _ _
  rw [sumN_congr g1,sumN_swap]
  refine sumN_congr fun s' hs'=>?_
  rw [sumN_mul,sumN_swap]
  congr 1
  have g2 : ∀t',t' < C->sumN C (fun t=>A s' t' * (z.w t t' * z.x t b)) = A s' t' * idf t' b:=fun t' ht'=>by
   rw [sumN_mul]
   have:=h.xw b hb t' ht'
   unfold cod at this
   rw [idf_comm t' b,<-this]
   congr 1
   exact sumN_congr fun t ht=>Int.mul_comm _ _
  rw [sumN_congr g2,sum_idf hb fun t'=>A s' t']
 rw [sumN_congr (fun s hs=>by rw [e1 s hs])]
 have g3 : ∀s,s < R->z.v s a * sumN R (fun s'=>z.u s s' * A s' b) = sumN R fun s'=>(z.v s a * z.u s s') * A s' b:=fun s hs=>by
  rw [<-sumN_mul]
  exact sumN_congr fun s' hs'=>(Int.mul_assoc _ _ _).symm
 rw [sumN_congr g3,sumN_swap]
 have g4 : ∀s',s' < R->sumN R (fun s=>(z.v s a * z.u s s') * A s' b) = idf a s' * A s' b:=fun s' hs'=>by
  rw [sumN_mulr]
  congr 1
  exact h.vu a ha s' hs'
 rw [sumN_congr g4]
 exact idf_sum ha fun s'=>A s' b
structure leW (M R C Cu Cw : Nat) (z : W5) : Prop where
 s : leM M R C z.s
 u : leM M R Cu z.u
 v : leM M R Cu z.v
 w : leM M C Cw z.w
 x : leM M C Cw z.x
theorem leW.mono {M M' R C Cu Cw : Nat} {z : W5} (h : leW M R C Cu Cw z) (hM : M<=M') : leW M' R C Cu Cw z:=⟨h.s.mono hM,h.u.mono hM,h.v.mono hM,h.w.mono hM,h.x.mono hM⟩
theorem leM_tr {M R C : Nat} {F : Nat->Nat->Int} (h : leM M R C F) : leM M C R (trF F):=fun a ha b hb=>h b hb a ha
def rnd (z : W5) (l1 l2 : List Op) : W5:=⟨trF (opsF l2 (trF (opsF l1 z.s))),opsF l1 z.u,opsD l1 z.v,opsF l2 z.w,opsD l2 z.x⟩
def GE (T : Nat) : Nat:=(2 * T) ^ KE
structure Low (R C r : Nat) (F : Nat->Nat->Int) : Prop where
 hnf : Hnf R C r (fun k=>k) (trF F)
 row : ∀a,r<=a->a < R->∀b,b < C->F a b = 0
 le : r<=R
theorem opsF_zero {n b : Nat} {l : List Op} (hl : okOps n l) : ∀{F : Nat->Nat->Int},(∀a,a < n->F a b = 0)->∀a,a < n->opsF l F a b = 0:=by
 intro F h a ha
 rw [ops_mat hl F a ha b]
 exact sumN_zero fun t ht=>by rw [h t ht,Int.mul_zero]
theorem second {R C r1 : Nat} {c1 : Nat->Nat} {H : Nat->Nat->Int} {l2 : List Op} {r2 : Nat} {c2 : Nat->Nat} (hH : Hnf C R r1 c1 H) (hl : okOps C l2) (h2 : Hnf R C r2 c2 (opsF l2 (trF H))) :
  r2 = r1/\(∀k,k < r1->c2 k = k)/\Low R C r1 (trF (opsF l2 (trF H))):=by
 have hz : ∀a,a < C->∀b,r1<=b->b < R->opsF l2 (trF H) a b = 0:=fun a ha b h3 h4=>opsF_zero hl (fun a' ha'=>hH.zero b h3 h4 a' ha') a ha
 have hdet : det r1 (fun a b=>trF H (c1 a) b) ≠ 0:=by
  have e : (fun a b=>trF H (c1 a) b) = trp (fun a b=>H a (c1 b)):=rfl
  rw [e,det_trp,det_upper fun a ha b hb hab=>hH.ech.zero a ha _ (hH.ech.inc b a hab ha)]
  have:=prodN_pos (n:=r1) (f:=fun i=>H i (c1 i)) fun i hi=>hH.ech.pos i hi
  omega
 obtain ⟨e1,e2⟩:=hnf_square h2 (fun a ha b _=>ops_back hl (trF H) a ha b) hz hH.le (fun a ha=>hH.ech.lt a ha) hdet
 subst e1
 refine ⟨rfl,fun k hk=>e2 k hk,⟨h2.le,⟨fun k hk=>?_,fun k hk=>?_,fun k hk t ht=>?_,fun k l h3 _=>h3⟩,fun i j h3 h4 _=>?_,h2.zero⟩,fun a h3 h4 b hb=>hz b hb a h3 h4,hH.le⟩
 ·have:=h2.ech.lt k hk; rwa [e2 k hk] at this
 ·have:=h2.ech.pos k hk; rw [e2 k hk] at this; exact this
 ·exact h2.ech.zero k hk t (by rw [e2 k hk]; exact ht)
 ·have:=h2.red i j h3 h4 trivial; rw [e2 j h4] at this; exact this
theorem Hnf.congr_c {C n r : Nat} {c : Nat->Nat} {F : Nat->Nat->Int} (h : Hnf C n r c F) (he : ∀k,k < r->c k = k) : Hnf C n r (fun k=>k) F:=
 ⟨h.le,⟨fun k hk=>by have:=h.ech.lt k hk; rwa [he k hk] at this,fun k hk=>by have:=h.ech.pos k hk; rw [he k hk] at this; exact this,fun k hk t ht=>h.ech.zero k hk t (by rw [he k hk]; exact ht),fun k l h3 _=>h3⟩,
  fun i j h3 h4 _=>by have:=h.red i j h3 h4 trivial; rw [he j h4] at this; exact this,h.zero⟩
theorem first {R C r : Nat} {F : Nat->Nat->Int} {l1 : List Op} {r1 : Nat} {c1 : Nat->Nat} (hF : Low R C r F) (hl : okOps R l1) (h1 : Hnf C R r1 c1 (opsF l1 F)) :
  r1 = r/\Hnf C R r (fun k=>k) (opsF l1 F)/\∀a,a < R->∀b,r<=b->b < C->opsF l1 F a b = 0:=by
 have hz : ∀a,a < R->∀b,r<=b->b < C->opsF l1 F a b = 0:=fun a ha b h3 h4=>opsF_zero hl (fun a' ha'=>hF.hnf.zero b h3 h4 a' ha') a ha
 have hdet : det r (fun a b=>F a b) ≠ 0:=by
  rw [det_lower (F:=F) fun a ha b hb hab=>hF.hnf.ech.zero b hb a hab]
  have:=prodN_pos (n:=r) (f:=fun i=>F i i) fun i hi=>hF.hnf.ech.pos i hi
  omega
 obtain ⟨e1,e2⟩:=hnf_square (σ:=fun a=>a) h1 (fun a ha b _=>ops_back hl F a ha b) hz hF.hnf.le (fun a ha=>by have:=hF.le; omega) hdet
 subst e1
 exact ⟨rfl,h1.congr_c e2,hz⟩
def mu (r : Nat) (F : Nat->Nat->Int) : Int:=prodN r fun j=>prodN (j + 1) fun i=>F i i
theorem prodN_eq_of_dvd {n : Nat} {f g : Nat->Int} (hf : ∀i,i < n->0 < f i) (hg : ∀i,i < n->0 < g i) (hd : ∀i,i < n->f i ∣ g i) (h : prodN n f = prodN n g) : ∀i,i < n->f i = g i:=by
 induction n with
 | zero=>intro i hi; omega
 | succ n ih=>
  unfold prodN at h
  have h1:=prodN_pos (n:=n) (f:=f) fun i hi=>hf i oM
  have h2:=prodN_pos (n:=n) (f:=g) fun i hi=>hg i oM
  have h3:=Int.le_of_dvd h2 (prodN_dvd fun i hi=>hd i oM)
  have h4:=Int.le_of_dvd (hg n oM) (hd n oM)
  have h5:=hf n oM
  have h6 : prodN n f = prodN n g:=by
   refine Int.le_antisymm h3 ?_
   refine Int.not_lt.1 fun h7=>?_
   have : prodN n f * f n < prodN n g * f n:=Int.mul_lt_mul_of_pos_right h7 h5
   have : prodN n g * f n<=prodN n g * g n:=Int.mul_le_mul_of_nonneg_left h4 oM
   omega
  have h7 : f n = g n:=by
   rw [h6] at h
   exact Int.eq_of_mul_eq_mul_left oM h
  intro i hi
  by_cases e : i = n
  ·rw [e]; exact h7
  ·exact ih (fun i hi=>hf i oM) (fun i hi=>hg i oM) (fun i hi=>hd i oM) h6 i oM
theorem diag_of_prods {r : Nat} {f g : Nat->Int} (hg : ∀i,i < r->0 < g i) (h : ∀j,j<=r->prodN j f = prodN j g) : ∀i,i < r->f i = g i:=by
 intro i hi
 have h1:=h i oM
 have h2:=h (i + 1) oM
 unfold prodN at h2
 rw [h1] at h2
 have:=prodN_pos (n:=i) (f:=g) fun k hk=>hg k oM
 exact Int.eq_of_mul_eq_mul_left oM h2
theorem later {R C r h : Nat} {A : Nat->Nat->Int} {z : W5} {l1 l2 : List Op} {r1 : Nat} {c1 : Nat->Nat} {r2 : Nat} {c2 : Nat->Nat} (hR : R<=4) (hF : Low R C r z.s) (h1 : okOps R l1) (h2 : okOps C l2)
  (hn1 : Hnf C R r1 c1 (opsF l1 z.s)) (hn2 : Hnf R C r2 c2 (opsF l2 (trF (opsF l1 z.s)))) :
  Low R C r (rnd z l1 l2).s/\(mu r (rnd z l1 l2).s ∣ mu r z.s)/\(mu r (rnd z l1 l2).s = mu r z.s->diagF R C (rnd z l1 l2).s):=by
 obtain ⟨rfl,hH,hz⟩:=first hF h1 hn1
 obtain ⟨rfl,e2,hL⟩:=second hH h2 hn2
 have hn2':=hn2.congr_c e2
 have hpF : ∀i,i < r2->0 < z.s i i:=fun i hi=>hF.hnf.ech.pos i hi
 have hpH : ∀i,i < r2->0 < opsF l1 z.s i i:=fun i hi=>hH.ech.pos i hi
 have hpL : ∀i,i < r2->0 < (rnd z l1 l2).s i i:=fun i hi=>hL.hnf.ech.pos i hi
 have d1 : ∀j,j<=r2->prodN j (fun i=>opsF l1 z.s i i) ∣ prodN j (fun i=>z.s i i):=fun j hj=>hnf_dvd hH (fun a ha b _=>ops_back h1 z.s a ha b) hj fun a ha b hb hab=>hF.hnf.ech.zero b oM a hab
 have d2 : ∀j,j<=r2->prodN j (fun i=>(rnd z l1 l2).s i i) ∣ prodN j (fun i=>opsF l1 z.s i i):=fun j hj=>
  hnf_dvd (F:=trF (opsF l1 z.s)) (H:=opsF l2 (trF (opsF l1 z.s))) hn2' (fun a ha b _=>ops_back h2 _ a ha b) hj fun a ha b hb hab=>hH.ech.zero b oM a hab
 refine ⟨hL,prodN_dvd fun j hj=>Int.dvd_trans (d2 _ oM) (d1 _ oM),fun he=>?_⟩
 have g1:=prodN_eq_of_dvd (fun j hj=>prodN_pos fun i hi=>hpL i oM) (fun j hj=>prodN_pos fun i hi=>hpF i oM) (fun j hj=>Int.dvd_trans (d2 (j + 1) oM) (d1 (j + 1) oM)) he
 have g2 : ∀j,j<=r2->prodN j (fun i=>opsF l1 z.s i i) = prodN j (fun i=>(rnd z l1 l2).s i i):=fun j hj=>by
  cases j with
  | zero=>rfl
  | succ j=>
   have k1:=g1 j oM
   have k2:=Int.le_of_dvd (prodN_pos fun i hi=>hpH i oM) (d2 (j + 1) hj)
   have k3:=Int.le_of_dvd (prodN_pos fun i hi=>hpF i oM) (d1 (j + 1) hj)
   omega
 have g3:=diag_of_prods hpL g2
 have g4:=hnf_diag (F:=trF (opsF l1 z.s)) hn2' (fun a ha b _=>ops_back h2 _ a ha b) (fun a ha b hb hab=>hH.ech.zero b hb a hab) g3 hF.le
 intro a ha b hb hab
 show opsF l2 (trF (opsF l1 z.s)) b a = 0
 rcases Nat.lt_or_ge b r2 with k1 | k1
 ·rcases Nat.lt_or_ge a r2 with k2 | k2
  ·rcases Nat.lt_or_ge b a with k3 | k3
   ·exact g4 b k1 a k2 k3
   ·exact hn2'.ech.zero b k1 a (show a < b by omega)
  ·exact hL.row a k2 ha b hb
 ·exact hn2'.zero b k1 hb a ha
def rnds : List (List Op × List Op)->W5->W5
 | [],z=>z
 | p :: L,z=>rnds L (rnd z p.1 p.2)
def okL (R C : Nat) (L : List (List Op × List Op)) : Prop:=∀p ∈ L,okOps R p.1/\okOps C p.2
theorem okL.cons {R C : Nat} {p : List Op × List Op} {L : List (List Op × List Op)} (h1 : okOps R p.1) (h2 : okOps C p.2) (h : okL R C L) : okL R C (p :: L):=fun q hq=>by
 rcases List.mem_cons.1 hq with rfl | hq
 ·exact ⟨h1,h2⟩
 ·exact h q hq
theorem bezN : ∀m n : Nat,∃s t : Int,s * (m : Int) + t * (n : Int) = ((Nat.gcd m n : Nat) : Int):=by
 intro m
 induction m using Nat.strongRecOn with
 | ind m ih=>
  intro n
  rcases Nat.eq_zero_or_pos m with h | h
  ·subst h
   exact ⟨0,1,by rw [Nat.gcd_zero_left]; omega⟩
  ·obtain ⟨s,t,e⟩:=ih (n % m) (Nat.mod_lt _ h) m
   refine ⟨t - s * ((n / m : Nat) : Int),s,?_⟩
   rw [Nat.gcd_rec,<-e]
   have h2 : (n : Int) = (m : Int) * ((n / m : Nat) : Int) + ((n % m : Nat) : Int):=by
    have:=Nat.div_add_mod n m
    exact_mod_cast this.symm
   generalize ((n / m : Nat) : Int) = q at *
   generalize ((n % m : Nat) : Int) = r at *
   rw [h2]
   grind
theorem bezI {x y : Int} (hx : 0<=x) (hy : 0<=y) : ∃s t : Int,s * x + t * y = ((Int.gcd x y : Nat) : Int):=by
 obtain ⟨s,t,e⟩:=bezN x.natAbs y.natAbs
 refine ⟨s,t,?_⟩
 rw [show ((x.natAbs : Nat) : Int) = x by omega,show ((y.natAbs : Nat) : Int) = y by omega] at e
 exact e
def bl (f : Nat->Int) (i j : Nat) (m0 m1 m2 m3 : Int) (a : Nat) : Int:=if a = i then m0 * f i + m1 * f j else if a = j then m2 * f i + m3 * f j else f a
theorem blend_sum (n : Nat) (F : Nat->Nat->Int) (i j : Nat) (m0 m1 m2 m3 : Int) (X : Nat->Int) (a : Nat) :
  sumN n (fun t=>blendF F i j m0 m1 m2 m3 a t * X t) = bl (fun a=>sumN n fun t=>F a t * X t) i j m0 m1 m2 m3 a:=by
 unfold bl blendF
 split
 ·rw [<-sumN_mul,<-sumN_mul,<-sumN_add]
  exact sumN_congr fun t ht=>by rw [Int.add_mul,Int.mul_assoc,Int.mul_assoc]
 ·split
  ·rw [<-sumN_mul,<-sumN_mul,<-sumN_add]
   exact sumN_congr fun t ht=>by rw [Int.add_mul,Int.mul_assoc,Int.mul_assoc]
  ·rfl
theorem blend_sumr (n : Nat) (F : Nat->Nat->Int) (i j : Nat) (m0 m1 m2 m3 : Int) (X : Nat->Int) (a : Nat) :
  sumN n (fun t=>X t * blendF F i j m0 m1 m2 m3 a t) = bl (fun a=>sumN n fun t=>X t * F a t) i j m0 m1 m2 m3 a:=by
 rw [sumN_congr (g:=fun t=>blendF F i j m0 m1 m2 m3 a t * X t) (fun t ht=>Int.mul_comm _ _),blend_sum]
 unfold bl
 dsimp only
 rw [sumN_congr (g:=fun t=>F i t * X t) (f:=fun t=>X t * F i t) (fun t ht=>Int.mul_comm _ _),sumN_congr (g:=fun t=>F j t * X t) (f:=fun t=>X t * F j t) (fun t ht=>Int.mul_comm _ _),sumN_congr (g:=fun t=>F a t * X t) (f:=fun t=>X t * F a t) (fun t ht=>Int.mul_comm _ _)]
theorem blend_dot {n i j : Nat} {P Q : Nat->Nat->Int} {m0 m1 m2 m3 n0 n1 n2 n3 : Int} (hi : i < n) (hj : j < n) (hij : i ≠ j) (h : ∀a,a < n->∀b,b < n->dot n P Q a b = idf a b)
  (e0 : m0 * n0 + m1 * n1 = 1) (e1 : m0 * n2 + m1 * n3 = 0) (e2 : m2 * n0 + m3 * n1 = 0) (e3 : m2 * n2 + m3 * n3 = 1) : ∀a,a < n->∀b,b < n->dot n (blendF P i j m0 m1 m2 m3) (blendF Q i j n0 n1 n2 n3) a b = idf a b:=by
 intro a ha b hb
 unfold dot
 rw [blend_sum]
 have e : ∀a,a < n->sumN n (fun t=>P a t * blendF Q i j n0 n1 n2 n3 b t) = bl (fun b=>idf a b) i j n0 n1 n2 n3 b:=fun a ha=>by
  rw [blend_sumr]
  have g : ∀b,b < n->sumN n (fun t=>P a t * Q b t) = idf a b:=fun b hb=>h a ha b hb
  unfold bl
  dsimp only
  rw [g i hi,g j hj,g b hb]
 have hji : ¬ j = i:=fun h=>hij h.symm
 unfold bl
 dsimp only
 rw [e i hi,e j hj,e a ha]
 unfold bl idf
 by_cases a1 : a = i
 ·by_cases b1 : b = i
  ·subst a1; subst b1; simp [hij,hji]; omega
  ·by_cases b2 : b = j
   ·subst a1; subst b2; simp [hij,hji]; omega
   ·have b3 : ¬ i = b:=fun h=>b1 h.symm
    have b4 : ¬ j = b:=fun h=>b2 h.symm
    subst a1; simp [b1,b2,b3,b4]
 ·by_cases a2 : a = j
  ·by_cases b1 : b = i
   ·subst a2; subst b1; simp [hij,hji]; omega
   ·by_cases b2 : b = j
    ·subst a2; subst b2; simp [hij,hji]; omega
    ·have b3 : ¬ i = b:=fun h=>b1 h.symm
     have b4 : ¬ j = b:=fun h=>b2 h.symm
     subst a2; simp [b1,b2,b3,b4,hji]
  ·by_cases b1 : b = i
   ·subst b1; simp [a1,a2]
   ·by_cases b2 : b = j
    ·subst b2; simp [a1,a2,hji]
    ·simp [a1,a2,b1,b2]
theorem sum_shift2 {n i j : Nat} {f g : Nat->Int} (hi : i < n) (hj : j < n) (hij : i ≠ j) (h : ∀t,t < n->t ≠ i->t ≠ j->f t = g t) (h1 : f i + f j = g i + g j) : sumN n f = sumN n g:=
 sum_shift (d:=f i - g i) hi hj hij h oM oM
theorem blend_cod {n i j : Nat} {P Q : Nat->Nat->Int} {m0 m1 m2 m3 n0 n1 n2 n3 : Int} (hi : i < n) (hj : j < n) (hij : i ≠ j)
  (e0 : n0 * m0 + n2 * m2 = 1) (e1 : n0 * m1 + n2 * m3 = 0) (e2 : n1 * m0 + n3 * m2 = 0) (e3 : n1 * m1 + n3 * m3 = 1) (a b : Nat) : cod n (blendF Q i j n0 n1 n2 n3) (blendF P i j m0 m1 m2 m3) a b = cod n Q P a b:=by
 refine sum_shift2 hi hj hij (fun t ht h1 h2=>?_) ?_
 ·unfold blendF; rw [if_neg h1,if_neg h1,if_neg h2,if_neg h2]
 ·unfold blendF
  have hji : ¬ j = i:=fun h=>hij h.symm
  simp only [if_true,if_neg hji]
  generalize P i b = p
  generalize P j b = q
  generalize Q i a = r
  generalize Q j a = s
  have : (n0 * r + n1 * s) * (m0 * p + m1 * q) + (n2 * r + n3 * s) * (m2 * p + m3 * q) = r * p * (n0 * m0 + n2 * m2) + r * q * (n0 * m1 + n2 * m3) + s * p * (n1 * m0 + n3 * m2) + s * q * (n1 * m1 + n3 * m3):=by grind
  rw [this,e0,e1,e2,e3]
  omega
theorem divW_rel {R C i j : Nat} {A : Nat->Nat->Int} {z : W5} {s t : Int} (h : Rel R C A z) (hd : diagF R C z.s) (hij : i < j) (hj : j < min R C) (hg : Int.gcd (z.s i i) (z.s j j) ≠ 0) (hb : s * z.s i i + t * z.s j j = ((Int.gcd (z.s i i) (z.s j j) : Nat) : Int)) : Rel R C A (divW z i j s t):=by
 obtain ⟨u0,hu0⟩ : (((Int.gcd (z.s i i) (z.s j j) : Nat) : Int)) ∣ z.s i i:=Int.gcd_dvd_left ..
 obtain ⟨v,hv⟩ : (((Int.gcd (z.s i i) (z.s j j) : Nat) : Int)) ∣ z.s j j:=Int.gcd_dvd_right ..
 obtain ⟨g,hgg⟩ : ∃g : Int,((Int.gcd (z.s i i) (z.s j j) : Nat) : Int) = g:=⟨_,rfl⟩
 have hg0 : g ≠ 0:=by rw [<-hgg]; omega
 rw [hgg] at hb hu0 hv
 have q1 : z.s i i / g = u0:=by rw [hu0]; exact Int.mul_ediv_cancel_left _ hg0
 have q2 : z.s j j / g = v:=by rw [hv]; exact Int.mul_ediv_cancel_left _ hg0
 have hstuv : s * u0 + t * v = 1:=by
  have : g * (s * u0 + t * v) = g * 1:=by rw [hu0,hv] at hb; grind
  exact Int.eq_of_mul_eq_mul_left hg0 this
 have hi' : i < R/\i < C/\j < R/\j < C:=by omega
 obtain ⟨hiR,hiC,hjR,hjC⟩:=hi'
 have hne : i ≠ j:=by omega
 have hji : ¬ j = i:=by omega
 refine ⟨fun a ha b hb'=>?_,?_,fun a ha b hb'=>?_,?_,fun a ha b hb'=>?_⟩
 ·show divS z.s i j a b = sumN R fun s'=>blendF z.u i j s t (-(z.s j j / _)) (z.s i i / _) a s' * sumN C fun t'=>A s' t' * blendF z.w i j 1 1 (-(t * (z.s j j / _))) (1 - t * (z.s j j / _)) b t'
  unfold divS
  rw [hgg,q1,q2]
  have e1 : ∀s',sumN C (fun t'=>A s' t' * blendF z.w i j 1 1 (-(t * v)) (1 - t * v) b t') = bl (fun b=>sumN C fun t'=>A s' t' * z.w b t') i j 1 1 (-(t * v)) (1 - t * v) b:=fun s'=>blend_sumr _ _ _ _ _ _ _ _ _ _
  simp only [e1]
  rw [blend_sum]
  have e2 : ∀a,a < R->sumN R (fun s'=>z.u a s' * bl (fun b=>sumN C fun t'=>A s' t' * z.w b t') i j 1 1 (-(t * v)) (1 - t * v) b) = bl (fun b=>z.s a b) i j 1 1 (-(t * v)) (1 - t * v) b:=fun a ha=>by
   have g1 : ∀b,b < C->z.s a b = sumN R fun s=>z.u a s * sumN C fun t=>A s t * z.w b t:=fun b hb=>h.s a ha b hb
   unfold bl
   dsimp only
   split
   ·rw [g1 i hiC,g1 j hjC,<-sumN_mul,<-sumN_mul,<-sumN_add]
    exact sumN_congr fun s' _=>by rw [Int.mul_add,Int.mul_left_comm (z.u a s'),Int.mul_left_comm (z.u a s')]
   ·split
    ·rw [g1 i hiC,g1 j hjC,<-sumN_mul,<-sumN_mul,<-sumN_add]
     exact sumN_congr fun s' _=>by rw [Int.mul_add,Int.mul_left_comm (z.u a s'),Int.mul_left_comm (z.u a s')]
    ·rw [g1 b hb']
  have hout : bl (fun a=>sumN R fun s'=>z.u a s' * bl (fun b=>sumN C fun t'=>A s' t' * z.w b t') i j 1 1 (-(t * v)) (1 - t * v) b) i j s t (-v) u0 a = bl (fun a=>bl (fun b=>z.s a b) i j 1 1 (-(t * v)) (1 - t * v) b) i j s t (-v) u0 a:=by
   unfold bl at *
   dsimp only at *
   rw [e2 i hiR,e2 j hjR,e2 a ha]
  rw [hout]
  have zij : z.s i j = 0:=hd i hiR j hjC hne
  have zji : z.s j i = 0:=hd j hjR i hiC hji
  unfold bl
  dsimp only
  by_cases a1 : a = i
  ·subst a1
   by_cases b1 : b = a
   ·subst b1
    rw [if_neg oM,if_pos ⟨rfl,rfl⟩,if_pos rfl,if_pos rfl,if_pos rfl,zij,zji,<-hb]
    grind
   ·by_cases b2 : b = j
    ·subst b2
     rw [if_neg oM,if_neg oM,if_pos rfl,if_neg hji,if_neg hji,if_pos rfl,if_pos rfl,zji,zij]
     have : s * (-(t * v) * z.s a a + (1 - t * v) * 0) + t * (-(t * v) * 0 + (1 - t * v) * z.s b b) = -(t * v) * (s * z.s a a + t * z.s b b) + t * z.s b b:=by grind
     rw [this,hb,hv]
     grind
    ·have h1 : z.s a b = 0:=hd a ha b hb' (fun e=>b1 e.symm)
     have h2 : z.s j b = 0:=hd j hjR b hb' (fun e=>b2 e.symm)
     rw [if_neg oM,if_neg oM,if_pos rfl,if_neg b1,if_neg b2,if_neg b1,if_neg b2,h1,h2]
     omega
  ·by_cases a2 : a = j
   ·subst a2
    by_cases b1 : b = i
    ·subst b1
     rw [if_neg oM,if_neg oM,if_neg a1,if_pos rfl,if_pos rfl,if_pos rfl,zij,zji]
     have : -v * (1 * z.s b b + 1 * 0) + u0 * (1 * 0 + 1 * z.s a a) = u0 * z.s a a - v * z.s b b:=by grind
     rw [this,hu0,hv]
     grind
    ·by_cases b2 : b = a
     ·subst b2
      rw [if_pos ⟨rfl,rfl⟩,if_neg a1,if_pos rfl,if_neg b1,if_neg b1,if_pos rfl,if_pos rfl,zij,zji]
      have : -v * (-(t * v) * z.s i i + (1 - t * v) * 0) + u0 * (-(t * v) * 0 + (1 - t * v) * z.s b b) = t * v * v * z.s i i + (1 - t * v) * u0 * z.s b b:=by grind
      rw [this,hu0,hv]
      grind
     ·have h1 : z.s i b = 0:=hd i hiR b hb' (fun e=>b1 e.symm)
      have h2 : z.s a b = 0:=hd a ha b hb' (fun e=>b2 e.symm)
      rw [if_neg oM,if_neg oM,if_neg a1,if_pos rfl,if_neg b1,if_neg b2,if_neg b1,if_neg b2,h1,h2]
      omega
   ·rw [if_neg oM,if_neg oM,if_neg a1,if_neg a2]
    by_cases b1 : b = i
    ·subst b1
     rw [if_pos rfl,hd a ha b hb' a1,hd a ha j hjC a2]
     omega
    ·by_cases b2 : b = j
     ·subst b2
      rw [if_neg b1,if_pos rfl,hd a ha b hb' a2,hd a ha i hiC a1]
      omega
     ·rw [if_neg b1,if_neg b2]
 ·show ∀a,a < R->∀b,b < R->dot R (blendF z.u i j s t (-(z.s j j / _)) (z.s i i / _)) (blendF z.v i j (z.s i i / _) (z.s j j / _) (-t) s) a b = idf a b
  rw [hgg,q1,q2]
  exact blend_dot hiR hjR hne h.uv hstuv (by grind) (by grind) (by grind)
 ·show cod R (blendF z.v i j (z.s i i / _) (z.s j j / _) (-t) s) (blendF z.u i j s t (-(z.s j j / _)) (z.s i i / _)) a b = idf a b
  rw [hgg,q1,q2,blend_cod hiR hjR hne (by grind) (by grind) (by grind) (by grind)]
  exact h.vu a ha b hb'
 ·show ∀a,a < C->∀b,b < C->dot C (blendF z.w i j 1 1 (-(t * (z.s j j / _))) (1 - t * (z.s j j / _))) (blendF z.x i j (1 - t * (z.s j j / _)) (t * (z.s j j / _)) (-1) 1) a b = idf a b
  rw [hgg,q2]
  exact blend_dot hiC hjC hne h.wx (by grind) (by grind) (by grind) (by grind)
 ·show cod C (blendF z.x i j (1 - t * (z.s j j / _)) (t * (z.s j j / _)) (-1) 1) (blendF z.w i j 1 1 (-(t * (z.s j j / _))) (1 - t * (z.s j j / _))) a b = idf a b
  rw [hgg,q2,blend_cod hiC hjC hne (by grind) (by grind) (by grind) (by grind)]
  exact h.xw a ha b hb'
structure Dg (R C r : Nat) (F : Nat->Nat->Int) : Prop where
 off : diagF R C F
 pos : ∀i,i < r->0 < F i i
 zero : ∀i,r<=i->i < min R C->F i i = 0
 le : r<=min R C
theorem Low.dg {R C r : Nat} {F : Nat->Nat->Int} (h : Low R C r F) (hd : diagF R C F) : Dg R C r F:=
 ⟨hd,fun i hi=>h.hnf.ech.pos i hi,fun i h1 h2=>h.row i h1 oM i oM,by have:=h.le; have:=h.hnf.le; omega⟩
theorem Dg.both {R C r i j : Nat} {F : Nat->Nat->Int} (h : Dg R C r F) (hij : i < j) (hj : j < min R C) (hn : ¬ F i i ∣ F j j) : j < r/\0 < F i i/\0 < F j j:=by
 have hjr : j < r:=by
  rcases Nat.lt_or_ge j r with h1 | h1
  ·exact h1
  ·rw [h.zero j h1 hj] at hn
   exact absurd (Int.dvd_zero _) hn
 exact ⟨hjr,h.pos i oM,h.pos j hjr⟩
theorem divS_ii {F : Nat->Nat->Int} {i j : Nat} (hij : i < j) : divS F i j i i = ((Int.gcd (F i i) (F j j) : Nat) : Int):=by
 unfold divS; rw [if_neg oM,if_pos ⟨rfl,rfl⟩]
theorem divS_jj {F : Nat->Nat->Int} {i j : Nat} : divS F i j j j = F i i * (F j j / ((Int.gcd (F i i) (F j j) : Nat) : Int)):=by
 unfold divS; rw [if_pos ⟨rfl,rfl⟩]
theorem divS_ne {F : Nat->Nat->Int} {i j a b : Nat} (h1 : ¬ (a = j/\b = j)) (h2 : ¬ (a = i/\b = i)) : divS F i j a b = F a b:=by
 unfold divS; rw [if_neg h1,if_neg h2]
theorem gcd_facts {x y : Int} (hx : 0 < x) (hy : 0 < y) : ∃g u v : Int,((Int.gcd x y : Nat) : Int) = g/\0 < g/\x = g * u/\y = g * v/\0 < u/\0 < v/\x / g = u/\y / g = v:=by
 obtain ⟨u,hu⟩ : (((Int.gcd x y : Nat) : Int)) ∣ x:=Int.gcd_dvd_left ..
 obtain ⟨v,hv⟩ : (((Int.gcd x y : Nat) : Int)) ∣ y:=Int.gcd_dvd_right ..
 have h0 : 0 < ((Int.gcd x y : Nat) : Int):=by
  have : Int.gcd x y ≠ 0:=fun h=>by rw [Int.gcd_eq_zero_iff] at h; omega
  omega
 generalize hg : ((Int.gcd x y : Nat) : Int) = g at *
 have hu0 : 0 < u:=by
  rcases Int.lt_or_le 0 u with h | h
  ·exact h
  ·have:=Int.mul_nonpos_of_nonneg_of_nonpos (Int.le_of_lt h0) h; omega
 have hv0 : 0 < v:=by
  rcases Int.lt_or_le 0 v with h | h
  ·exact h
  ·have:=Int.mul_nonpos_of_nonneg_of_nonpos (Int.le_of_lt h0) h; omega
 exact ⟨g,u,v,rfl,h0,hu,hv,hu0,hv0,by rw [hu]; exact Int.mul_ediv_cancel_left _ oM,by rw [hv]; exact Int.mul_ediv_cancel_left _ oM⟩
theorem Dg.step {R C r i j : Nat} {F : Nat->Nat->Int} (h : Dg R C r F) (hij : i < j) (hj : j < min R C) (hn : ¬ F i i ∣ F j j) : Dg R C r (divS F i j):=by
 obtain ⟨h1,h2,h3⟩:=h.both hij hj hn
 obtain ⟨g,u,v,e1,e2,e3,e4,e5,e6,e7,e8⟩:=gcd_facts h2 h3
 refine ⟨fun a ha b hb hab=>?_,fun k hk=>?_,fun k h4 h5=>?_,h.le⟩
 ·rw [divS_ne oM oM]; exact h.off a ha b hb hab
 ·by_cases k1 : k = i
  ·rw [k1,divS_ii hij,e1]; exact e2
  ·by_cases k2 : k = j
   ·rw [k2,divS_jj,e1,e8]; exact Int.mul_pos h2 e6
   ·rw [divS_ne oM oM]; exact h.pos k hk
 ·rw [divS_ne oM oM]; exact h.zero k h4 h5
theorem abs_mul_le {x y : Int} {X Y : Nat} (hx : x.natAbs<=X) (hy : y.natAbs<=Y) : (x * y).natAbs<=X * Y:=by
 rw [Int.natAbs_mul]; exact Nat.mul_le_mul hx hy
structure DivI (M T R C Cu Cw r e : Nat) (y0 y : W5) : Prop where
 dg : Dg R C r y.s
 muh : mu r y.s * 2 ^ e<=mu r y0.s
 prod : prodN r (fun k=>y.s k k) = prodN r (fun k=>y0.s k k)
 u : leM (M * (4 * T * T) ^ e) R Cu y.u
 v : leM (M * (4 * T * T) ^ e) R Cu y.v
 w : leM (M * (4 * T * T) ^ e) C Cw y.w
 x : leM (M * (4 * T * T) ^ e) C Cw y.x
def Chn (i n : Nat) (F : Nat->Nat->Int) : Prop:=∀a b,i<=a->a < b->b < n->F a a ∣ F b b
def RelS (R C r : Nat) (A F : Nat->Nat->Int) : Prop:=Dg R C r F/\∃u v w x,Rel R C A ⟨F,u,v,w,x⟩
theorem RelS.step {R C r i j : Nat} {A F : Nat->Nat->Int} (h : RelS R C r A F) (hij : i < j) (hj : j < min R C) (hn : ¬ F i i ∣ F j j) : RelS R C r A (divS F i j):=by
 obtain ⟨hd,u,v,w,x,hr⟩:=h
 obtain ⟨b1,b2,b3⟩:=hd.both hij hj hn
 obtain ⟨s,t,e⟩:=bezI (x:=F i i) (y:=F j j) oM oM
 have:=divW_rel hr hd.off hij hj (fun h=>by dsimp only at h; rw [Int.gcd_eq_zero_iff] at h; omega) e
 exact ⟨hd.step hij hj hn,_,_,_,_,this⟩
end Go.Proofs.YtjdemlfceaikgaaGreat
