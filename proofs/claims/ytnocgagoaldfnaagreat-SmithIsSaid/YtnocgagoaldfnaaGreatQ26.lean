/- smith: rows are exchanged. What the echelon form, the reduction and the Smith form of package smith compute, in plain Lean. smith: band.exchange. -/
import Derived.Test.YtnocgagoaldfnaaGreatQ25
set_option linter.unusedVariables false
set_option linter.unusedSimpArgs false
set_option linter.unusedSectionVars false
namespace Go.Proofs.YtnocgagoaldfnaaGreat
open Go.RowKit

/-- i and j exchanged. -/
def swp (i j : Nat) (k : Nat) : Nat := if k = i then j else if k = j then i else k
theorem swp_swp (i j k : Nat) : swp i j (swp i j k) = k := by
  unfold swp
  by_cases h1 : k = i
  · rw [if_pos h1]
    by_cases h2 : j = i
    · rw [if_pos h2]; omega
    · rw [if_neg h2, if_pos rfl]; omega
  · rw [if_neg h1]
    by_cases h2 : k = j
    · rw [if_pos h2, if_pos rfl]; omega
    · rw [if_neg h2, if_neg h1, if_neg h2]
theorem get_swap {α : Type} {l : List α} {i j : Nat} {x y : α} (hx : l[i]? = some x) (hy : l[j]? = some y) (k : Nat) : ((l.set i y).set j x)[k]? = l[swp i j k]? := by
  have hi := (List.getElem?_eq_some_iff.1 hx).1
  have hj := (List.getElem?_eq_some_iff.1 hy).1
  unfold swp
  by_cases h2 : k = j
  · subst h2
    rw [List.getElem?_set_self (by simpa using hj)]
    by_cases h1 : k = i
    · subst h1
      rw [if_pos rfl]
      exact hx.symm
    · rw [if_neg h1, if_pos rfl]; exact hx.symm
  · rw [List.getElem?_set_ne (Ne.symm h2)]
    by_cases h1 : k = i
    · subst h1
      rw [List.getElem?_set_self hi, if_pos rfl]
      exact hy.symm
    · rw [List.getElem?_set_ne (Ne.symm h1), if_neg h1, if_neg h2]
theorem nodup_swap {α : Type} {l : List α} {i j : Nat} {x y : α} (hn : l.Nodup) (hx : l[i]? = some x) (hy : l[j]? = some y) : ((l.set i y).set j x).Nodup := by
  show List.Pairwise _ _
  rw [List.pairwise_iff_getElem]
  intro a b ha hb hab he0
  have he : ((l.set i y).set j x)[a]? = ((l.set i y).set j x)[b]? := by rw [List.getElem?_eq_getElem ha, List.getElem?_eq_getElem hb, he0]
  rw [get_swap hx hy, get_swap hx hy] at he
  have hi := (List.getElem?_eq_some_iff.1 hx).1
  have hj := (List.getElem?_eq_some_iff.1 hy).1
  have hlen : ((l.set i y).set j x).length = l.length := by simp
  rw [hlen] at hb ha
  have hbnd : ∀ k, k < l.length → swp i j k < l.length := by
    intro k hk
    unfold swp
    split
    · exact hj
    · split
      · exact hi
      · exact hk
  have h1 := hbnd a (by omega)
  have h2 := hbnd b hb
  rw [List.getElem?_eq_getElem h1, List.getElem?_eq_getElem h2] at he
  injection he with he
  have h3 := (List.getElem_inj hn).1 he
  have h4 := congrArg (swp i j) h3
  rw [swp_swp, swp_swp] at h4
  omega

/-- Two rows are exchanged: their slices are. -/
theorem RowsO.swap {w : World} {base g n cap C : Nat} {bs : List Nat} {M : List (List Int)} (h : RowsO w base (.slice (some ⟨g, 0, none⟩) n cap) C bs M) {i j bi bj : Nat} {ri rj : List Int} (hi : bs[i]? = some bi) (hj : bs[j]? = some bj) (hri : M[i]? = some ri) (hrj : M[j]? = some rj) :
    RowsO ((w.setCell ⟨g, i, none⟩ (.slice (some ⟨bj, 0, none⟩) C C)).setCell ⟨g, j, none⟩ (.slice (some ⟨bi, 0, none⟩) C C)) base (.slice (some ⟨g, 0, none⟩) n cap) C ((bs.set i bj).set j bi) ((M.set i rj).set j ri) ∧
      LExt w ((w.setCell ⟨g, i, none⟩ (.slice (some ⟨bj, 0, none⟩) C C)).setCell ⟨g, j, none⟩ (.slice (some ⟨bi, 0, none⟩) C C)) := by
  have hib := (List.getElem?_eq_some_iff.1 hi).1
  have hjb := (List.getElem?_eq_some_iff.1 hj).1
  rcases h.own.2 with ⟨e, h0⟩ | ⟨g', cap', cur, e, e2, e3, e4, e5, e6, e7⟩
  · omega
  · injection e with e8 e9 e10
    injection e8 with e8
    injection e8 with e8
    subst e8
    subst e9
    subst e10
    have hB : Blk w g tR cur := e3
    have hx : LExt w ((w.setCell ⟨g, i, none⟩ (.slice (some ⟨bj, 0, none⟩) C C)).setCell ⟨g, j, none⟩ (.slice (some ⟨bi, 0, none⟩) C C)) := (hB.lext (by decide) _ _).trans ((hB.set_ _ _).lext (by decide) _ _)
    refine ⟨⟨⟨by simp [rowPtrs], .inr ⟨g, cap, _, by simp, e2, (hB.set_ _ _).set_ _ _, by simpa using e4, e5, by simpa using e6, ?_⟩⟩, by simp [h.len], ?_, nodup_swap h.nodup hi hj, h.cb⟩, hx⟩
    · rw [Array.toList_setIfInBounds, Array.toList_setIfInBounds]
      simp only [List.length_set]
      rw [List.take_set, List.take_set, e7]
      simp [rowPtrs, List.map_set]
    · intro k b r hk hr
      rw [get_swap hi hj] at hk
      rw [get_swap hri hrj] at hr
      obtain ⟨f1, f2, f3⟩ := h.row _ b r hk hr
      refine ⟨f1, f2, f3.old (set2_old w g _ _ b _ _ ?_) hx⟩
      intro hh
      have := own_ne h.own f3
      exact this (by rw [hh]; rfl)

theorem genM_swap {R C : Nat} {F : Nat → Nat → Int} {i j : Nat} (hi : i < R) (hj : j < R) :
    ((genM R C F).set i (genV C (F j))).set j (genV C (F i)) = genM R C (fun a b => F (swp i j a) b) := by
  apply List.ext_getElem?
  intro k
  have e1 : (genM R C F)[i]? = some (genV C (F i)) := genM_row R C F hi
  have e2 : (genM R C F)[j]? = some (genV C (F j)) := genM_row R C F hj
  rw [get_swap e1 e2]
  rcases Nat.lt_or_ge k R with h | h
  · have h2 : swp i j k < R := by
      unfold swp
      split
      · exact hj
      · split
        · exact hi
        · exact h
    rw [genM_row R C F h2, genM_row R C _ h]
  · have h2 : swp i j k = k := by
      unfold swp
      rw [if_neg (by omega), if_neg (by omega)]
    rw [h2, List.getElem?_eq_none (by simp [genM]; exact h), List.getElem?_eq_none (by simp [genM]; exact h)]

/-- The blocks of two rows exchanged. -/
def swpL (bs : List Nat) (i j : Nat) : List Nat := (bs.set i (bs.getD j 0)).set j (bs.getD i 0)
theorem mem_swpL {bs : List Nat} {i j : Nat} (hi : i < bs.length) (hj : j < bs.length) {b : Nat} (h : b ∈ swpL bs i j) : b ∈ bs := by
  have e1 : bs[i]? = some bs[i] := List.getElem?_eq_getElem hi
  have e2 : bs[j]? = some bs[j] := List.getElem?_eq_getElem hj
  unfold swpL at h
  rw [getD_of e1, getD_of e2] at h
  obtain ⟨k, hk, e⟩ := List.getElem_of_mem h
  have h3 : ((bs.set i bs[j]).set j bs[i])[k]? = some b := by rw [List.getElem?_eq_getElem hk, e]
  rw [get_swap e1 e2] at h3
  exact List.mem_of_getElem? h3

theorem Wri.swap {w : World} {g n cap R C : Nat} {bs : List Nat} {F : Nat → Nat → Int} (h : Wri w (.slice (some ⟨g, 0, none⟩) n cap) R C bs F) {i j bi bj : Nat} (hi : i < R) (hj : j < R) (hbi : bs[i]? = some bi) (hbj : bs[j]? = some bj) :
    Wri ((w.setCell ⟨g, i, none⟩ (.slice (some ⟨bj, 0, none⟩) C C)).setCell ⟨g, j, none⟩ (.slice (some ⟨bi, 0, none⟩) C C)) (.slice (some ⟨g, 0, none⟩) n cap) R C (swpL bs i j) (fun a b => F (swp i j a) b) ∧
      LExt w ((w.setCell ⟨g, i, none⟩ (.slice (some ⟨bj, 0, none⟩) C C)).setCell ⟨g, j, none⟩ (.slice (some ⟨bi, 0, none⟩) C C)) := by
  have hs := RowsO.swap h hbi hbj (genM_row R C F hi) (genM_row R C F hj)
  refine ⟨?_, hs.2⟩
  unfold Wri swpL
  rw [getD_of hbi, getD_of hbj, ← genM_swap hi hj]
  exact hs.1

def swpF (F : Nat → Nat → Int) (i j : Nat) : Nat → Nat → Int := fun a b => F (swp i j a) b
def negF (F : Nat → Nat → Int) (i : Nat) : Nat → Nat → Int := fun a b => if a = i then -(F a b) else F a b
def trF (F : Nat → Nat → Int) : Nat → Nat → Int := fun a b => F b a
/-- Rows i and j become m0 i + m1 j and m2 i + m3 j. -/
def blendF (F : Nat → Nat → Int) (i j : Nat) (m0 m1 m2 m3 : Int) : Nat → Nat → Int := fun a b => if a = i then m0 * F i b + m1 * F j b else if a = j then m2 * F i b + m3 * F j b else F a b

/-- The three matrices of a band. -/
structure Bst where
  s : Nat → Nat → Int
  t : Nat → Nat → Int
  i : Nat → Nat → Int
def Bst.add (x : Bst) (i j : Nat) (k : Int) : Bst := ⟨addF x.s i j k, addF x.t i j k, addF x.i j i (-k)⟩
def Bst.swap (x : Bst) (i j : Nat) : Bst := ⟨swpF x.s i j, swpF x.t i j, swpF x.i i j⟩
def Bst.neg (x : Bst) (i : Nat) : Bst := ⟨negF x.s i, negF x.t i, negF x.i i⟩

/-- All numbers of R rows and C columns are less than B. -/
def okF (B R C : Nat) (F : Nat → Nat → Int) : Prop := ∀ a, a < R → ∀ b, b < C → (F a b).natAbs < B
instance (B R C : Nat) (F : Nat → Nat → Int) : Decidable (okF B R C F) := by unfold okF; infer_instance
def okB (B n Cs Ct : Nat) (x : Bst) : Prop := okF B n Cs x.s ∧ okF B n Ct x.t ∧ okF B n Ct x.i
instance (B n Cs Ct : Nat) (x : Bst) : Decidable (okB B n Cs Ct x) := by unfold okB; infer_instance
/-- What 'add' reckons is less than B. -/
def okAdd (B n Cs Ct : Nat) (x : Bst) (i j : Nat) (k : Int) : Prop :=
  k.natAbs < B ∧ (∀ t, t < Cs → (k * x.s j t).natAbs < B) ∧ (∀ t, t < Ct → (k * x.t j t).natAbs < B ∧ (k * x.i i t).natAbs < B) ∧ okB B n Cs Ct (x.add i j k)
instance (B n Cs Ct : Nat) (x : Bst) (i j : Nat) (k : Int) : Decidable (okAdd B n Cs Ct x i j k) := by unfold okAdd; infer_instance

/-- The column of row i's first element other than 0, or -1. -/
def lead (C : Nat) (F : Nat → Nat → Int) (i : Nat) : Int := leadGo 0 (genV C (F i))
/-- The first k, of m more at most, whose row does not begin before c. -/
def adv (L : Nat → Int) (c : Int) : Nat → Nat → Nat
  | 0, k => k
  | m + 1, k => if L k < c then adv L c m (k + 1) else k
/-- Row k + m goes down to k. -/
def rotB (k : Nat) : Nat → Bst → Bst
  | 0, x => x
  | m + 1, x => rotB k m (x.swap (k + m + 1) (k + m))

def takeGo (B n Cs Ct m rank : Nat) : Nat → Nat → Bst → Option (Bst × Bool)
  | 0, _, _ => none
  | f + 1, k, x =>
    if lead Cs x.s m < 0 then some (x, false)
    else if adv (lead Cs x.s) (lead Cs x.s m) (rank - k) k < rank ∧ lead Cs x.s (adv (lead Cs x.s) (lead Cs x.s m) (rank - k) k) = lead Cs x.s m then
      if okAdd B n Cs Ct x m (adv (lead Cs x.s) (lead Cs x.s m) (rank - k) k) (-(x.s m (lead Cs x.s m).toNat / x.s (adv (lead Cs x.s) (lead Cs x.s m) (rank - k) k) (lead Cs x.s m).toNat)) then
        takeGo B n Cs Ct m rank f (adv (lead Cs x.s) (lead Cs x.s m) (rank - k) k)
          (if x.s m (lead Cs x.s m).toNat % x.s (adv (lead Cs x.s) (lead Cs x.s m) (rank - k) k) (lead Cs x.s m).toNat = 0 then x.add m (adv (lead Cs x.s) (lead Cs x.s m) (rank - k) k) (-(x.s m (lead Cs x.s m).toNat / x.s (adv (lead Cs x.s) (lead Cs x.s m) (rank - k) k) (lead Cs x.s m).toNat))
            else (x.add m (adv (lead Cs x.s) (lead Cs x.s m) (rank - k) k) (-(x.s m (lead Cs x.s m).toNat / x.s (adv (lead Cs x.s) (lead Cs x.s m) (rank - k) k) (lead Cs x.s m).toNat))).swap m (adv (lead Cs x.s) (lead Cs x.s m) (rank - k) k))
      else none
    else some (rotB (adv (lead Cs x.s) (lead Cs x.s m) (rank - k) k) (rank - adv (lead Cs x.s) (lead Cs x.s m) (rank - k) k) ((if x.s m (lead Cs x.s m).toNat < 0 then x.neg m else x).swap m rank), true)

def redJ (B n Cs Ct : Nat) (cols : Nat → Int) (i : Nat) : Nat → Nat → Bst → Option Bst
  | 0, _, x => some x
  | m + 1, j, x =>
    if cols j < 0 then none
    else if x.s i (cols j).toNat = 0 then redJ B n Cs Ct cols i m (j + 1) x
    else if x.s j (cols j).toNat = 0 then none
    else if x.s i (cols j).toNat / x.s j (cols j).toNat = 0 then redJ B n Cs Ct cols i m (j + 1) x
    else if okAdd B n Cs Ct x i j (-(x.s i (cols j).toNat / x.s j (cols j).toNat)) then redJ B n Cs Ct cols i m (j + 1) (x.add i j (-(x.s i (cols j).toNat / x.s j (cols j).toNat)))
    else none
def redI (B n Cs Ct : Nat) (cols : Nat → Int) (rank : Nat) : Nat → Bst → Option Bst
  | 0, x => some x
  | i + 1, x => (redJ B n Cs Ct cols i (rank - (i + 1)) (i + 1) x).bind (redI B n Cs Ct cols rank i)
def reduceB (B n Cs Ct rank : Nat) (x : Bst) : Option Bst := redI B n Cs Ct (lead Cs x.s) rank rank x

/-- l more rows, from row m on. -/
def echGo (B n Cs Ct f : Nat) : Nat → Nat → Nat → Bst → Option Bst
  | 0, _, _, x => some x
  | l + 1, m, rank, x =>
    (takeGo B n Cs Ct m rank f 0 x).bind fun r => (reduceB B n Cs Ct (if r.2 then rank + 1 else rank) r.1).bind fun y => echGo B n Cs Ct f l (m + 1) (if r.2 then rank + 1 else rank) y
def echB (B n Cs Ct f : Nat) (x : Bst) : Option Bst := echGo B n Cs Ct f n 0 0 x

/-- The five matrices of a Smith form under way. -/
structure W5 where
  s : Nat → Nat → Int
  u : Nat → Nat → Int
  v : Nat → Nat → Int
  w : Nat → Nat → Int
  x : Nat → Nat → Int
/-- One round: echelon forms of rows, then of columns. -/
def roundW (B R C Cu Cw f : Nat) (z : W5) : Option W5 :=
  (echB B R C Cu f ⟨z.s, z.u, z.v⟩).bind fun a => (echB B C R Cw f ⟨trF a.s, z.w, z.x⟩).bind fun b => some ⟨trF b.s, a.t, a.i, b.t, b.i⟩
def diagF (R C : Nat) (F : Nat → Nat → Int) : Prop := ∀ a, a < R → ∀ b, b < C → a ≠ b → F a b = 0
instance (R C : Nat) (F : Nat → Nat → Int) : Decidable (diagF R C F) := by unfold diagF; infer_instance
/-- Rounds until the matrix is diagonal. -/
def runGo (B R C Cu Cw f : Nat) : Nat → W5 → Option W5
  | 0, _ => none
  | r + 1, z => (roundW B R C Cu Cw f z).bind fun y => if diagF R C y.s then some y else runGo B R C Cu Cw f r y

/-- Two diagonal elements become their greatest common divisor and their least common multiple. -/
def divS (F : Nat → Nat → Int) (i j : Nat) : Nat → Nat → Int := fun a b => if a = j ∧ b = j then F i i * (F j j / ((Int.gcd (F i i) (F j j) : Nat) : Int)) else if a = i ∧ b = i then ((Int.gcd (F i i) (F j j) : Nat) : Int) else F a b
def divW (z : W5) (i j : Nat) (s t : Int) : W5 :=
  ⟨divS z.s i j, blendF z.u i j s t (-(z.s j j / ((Int.gcd (z.s i i) (z.s j j) : Nat) : Int))) (z.s i i / ((Int.gcd (z.s i i) (z.s j j) : Nat) : Int)),
    blendF z.v i j (z.s i i / ((Int.gcd (z.s i i) (z.s j j) : Nat) : Int)) (z.s j j / ((Int.gcd (z.s i i) (z.s j j) : Nat) : Int)) (-t) s,
    blendF z.w i j 1 1 (-(t * (z.s j j / ((Int.gcd (z.s i i) (z.s j j) : Nat) : Int)))) (1 - t * (z.s j j / ((Int.gcd (z.s i i) (z.s j j) : Nat) : Int))),
    blendF z.x i j (1 - t * (z.s j j / ((Int.gcd (z.s i i) (z.s j j) : Nat) : Int))) (t * (z.s j j / ((Int.gcd (z.s i i) (z.s j j) : Nat) : Int))) (-1) 1⟩
/-- Coefficients that Ext may yield. -/
def Bez (x y s t : Int) : Prop := s * x + t * y = ((Int.gcd x y : Nat) : Int) ∧ s.natAbs ≤ max 1 y.natAbs ∧ t.natAbs ≤ max 1 x.natAbs
inductive DivR (n : Nat) : W5 → W5 → Prop
  | refl (z : W5) : DivR n z z
  | step (z y : W5) (i j : Nat) (s t : Int) : DivR n z y → i < j → j < n → ¬ y.s i i ∣ y.s j j → Bez (y.s i i) (y.s j j) s t → DivR n z (divW y i j s t)
/-- Row i against m rows from j on. -/
def divJ (i : Nat) : Nat → Nat → (Nat → Nat → Int) → (Nat → Nat → Int)
  | 0, _, F => F
  | m + 1, j, F => divJ i m (j + 1) (if F i i ∣ F j j then F else divS F i j)
/-- The m rows from i on against those behind them. -/
def divI : Nat → Nat → (Nat → Nat → Int) → (Nat → Nat → Int)
  | 0, _, F => F
  | m + 1, i, F => divI m (i + 1) (divJ i m (i + 1) F)

example : (runGo 1000000 2 1 2 1 20 5 ⟨fun a _ => if a = 0 then 4 else 6, fun a b => if a = b then 1 else 0, fun a b => if a = b then 1 else 0, fun _ _ => 1, fun _ _ => 1⟩).map (fun z => (z.s 0 0, z.s 1 0, z.u 0 0, z.u 0 1, z.u 1 0, z.u 1 1)) = some (2, 0, -1, 1, 3, -2) := by decide

/-- Of the blocks that were there only those of Z have changed; limbs are as they were. -/
structure OnlyZ (Z : Nat → Prop) (w w' : World) : Prop where
  bel : Below 0 w w'
  lext : LExt w w'
  old : ∀ k, k < w.heap.size → ¬ Z k → w'.heap[k]? = w.heap[k]?
theorem OnlyZ.refl (Z : Nat → Prop) (w : World) : OnlyZ Z w w := ⟨Below.refl _ _, LExt.refl _, fun _ _ _ => rfl⟩
theorem OnlyZ.of {w w' : World} (Z : Nat → Prop) (h : Below w.heap.size w w') : OnlyZ Z w w' := ⟨h.mono (Nat.zero_le _), lx h, fun k hk _ => h.block k hk⟩
theorem OnlyZ.trans {Z : Nat → Prop} {a b c : World} (h : OnlyZ Z a b) (k : OnlyZ Z b c) : OnlyZ Z a c :=
  ⟨h.bel.trans k.bel, h.lext.trans k.lext, fun i hi hn => (k.old i (Nat.lt_of_lt_of_le hi h.bel.size) hn).trans (h.old i hi hn)⟩
theorem OnlyZ.mono {Z Z' : Nat → Prop} {w w' : World} (h : OnlyZ Z w w') (hs : ∀ k, k < w.heap.size → Z k → Z' k) : OnlyZ Z' w w' := ⟨h.bel, h.lext, fun k hk hn => h.old k hk (fun hh => hn (hs k hk hh))⟩
theorem OnlyZ.blk {Z : Nat → Prop} {w w' : World} {b : Nat} {T : TypeId} {cs : Array Value} (h : OnlyZ Z w w') (hb : Blk w b T cs) (hz : ¬ Z b) : Blk w' b T cs := (h.old b hb.lt hz).trans hb

/-- The row slices of another matrix are written: these rows stay. -/
theorem RowsO.gone {w w' : World} {base : Nat} {A : Value} {C : Nat} {bs : List Nat} {M : List (List Int)} (h : RowsO w base A C bs M) {g : Nat} {cur : Array Value} (hg : Blk w g tR cur) (hx : LExt w w') (ho : ∀ k, k < w.heap.size → k ≠ g → w'.heap[k]? = w.heap[k]?) (hne : A.ownBlock ≠ some g) :
    RowsO w' base A C bs M := by
  refine ⟨⟨h.own.1, ?_⟩, h.len, fun k b r h1 h2 => by
    obtain ⟨e1, e2, e3⟩ := h.row k b r h1 h2
    refine ⟨e1, e2, e3.old (ho b e3.lt ?_) hx⟩
    rintro rfl
    obtain ⟨cs, q1, -⟩ := e3
    have hg' : w.heap[b]? = some (.cells cur tR (0, 0)) := hg
    rw [hg'] at q1
    injection q1 with q1
    injection q1 with _ ht
    exact absurd ht (by decide), h.nodup, h.cb⟩
  rcases h.own.2 with h1 | ⟨g', cap, cur', e1, e2, e3, e4⟩
  · exact .inl h1
  · refine .inr ⟨g', cap, cur', e1, e2, ?_, e4⟩
    refine (ho g' (Array.getElem?_eq_some_iff.1 e3).1 ?_).trans e3
    rintro rfl
    rw [e1] at hne
    exact hne rfl

/-- The block of row slices. -/
theorem RowsO.gblk {w : World} {base g n cap C : Nat} {bs : List Nat} {M : List (List Int)} (h : RowsO w base (.slice (some ⟨g, 0, none⟩) n cap) C bs M) : ∃ cur, Blk w g tR cur ∧ n ≤ cur.size := by
  rcases h.own.2 with ⟨e, h0⟩ | ⟨g', cap', cur, e, e2, e3, e4, e5, e6, e7⟩
  · cases e
  · injection e with e8 e9 e10
    injection e8 with e8
    injection e8 with e8
    subst e8
    subst e9
    exact ⟨cur, e3, by omega⟩

set_option maxHeartbeats 4000000 in
set_option maxRecDepth 20000 in
theorem exchange_any (As At Ai : Value) (n Cs Ct i j : Nat) (bss bst bsi : List Nat) (S T I : Nat → Nat → Int) (w : World) (h : BandV w As At Ai n Cs Ct bss bst bsi S T I) (hi : i < n) (hj : j < n) (hn : n ≤ 1000000) :
    Calls Tryz.prog 135 #[.agg #[As, At, Ai], .int .i64 i, .int .i64 j] w fun e w' => (∃ u, e = .returned u) ∧ OnlyZ (fun b => As.ownBlock = some b ∨ At.ownBlock = some b ∨ Ai.ownBlock = some b) w w' ∧
      BandV w' As At Ai n Cs Ct (swpL bss i j) (swpL bst i j) (swpL bsi i j) (swpF S i j) (swpF T i j) (swpF I i j) := by
  obtain ⟨so, sn, sc, rfl, s1, s2, s3, -⟩ := id (RowsO.rows h.s)
  obtain ⟨uo, tn, tc, rfl, t1, t2, t3, -⟩ := id (RowsO.rows h.t)
  obtain ⟨io, in_, ic, rfl, i1, i2, i3, -⟩ := id (RowsO.rows h.i)
  have H0 := HidS.mk h
  obtain ⟨hs, ht, hi_, -, -, -, gst, gsi, gti⟩ := h
  have e1 : n = sn := by rw [← s1]; simp [genM]
  have e2 : n = tn := by rw [← t1]; simp [genM]
  have e3 : n = in_ := by rw [← i1]; simp [genM]
  subst e1
  subst e2
  subst e3
  clear s1 t1 i1
  obtain ⟨gs, rfl, -⟩ : ∃ g, so = some ⟨g, 0, none⟩ ∧ True := by
    obtain ⟨g, b, e, -⟩ := RowsO.at_ hs (i := i) (by rw [hs.len]; exact hi)
    exact ⟨g, e, trivial⟩
  obtain ⟨gt, rfl, -⟩ : ∃ g, uo = some ⟨g, 0, none⟩ ∧ True := by
    obtain ⟨g, b, e, -⟩ := RowsO.at_ ht (i := i) (by rw [ht.len]; exact hi)
    exact ⟨g, e, trivial⟩
  obtain ⟨gi, rfl, -⟩ : ∃ g, io = some ⟨g, 0, none⟩ ∧ True := by
    obtain ⟨g, b, e, -⟩ := RowsO.at_ hi_ (i := i) (by rw [hi_.len]; exact hi)
    exact ⟨g, e, trivial⟩
  have nst : gt ≠ gs := fun hh => gst gs rfl (by rw [← hh]; rfl)
  have nsi : gi ≠ gs := fun hh => gsi gs rfl (by rw [← hh]; rfl)
  have nti : gi ≠ gt := fun hh => gti gt rfl (by rw [← hh]; rfl)
  clear gst gsi gti
  go_enter Tryz.func135, Tryz.ntmps135
  go_upto_region 1 with (fail)
  refine wp_world ?_
  intro W0 hW0
  obtain ⟨hB0, bx, hs0⟩ := world1 hW0
  obtain ⟨c1, c2, c3, c4, c5, c6⟩ := bx.three
  have hs := hs.below hB0
  have ht := ht.below hB0
  have hi_ := hi_.below hB0
  clear hW0
  go_wp2
  clear c1 c2 c3 c4 c5 c6
  go_loopw [15] (fun mv wr => ∃ m : Nat, m ≤ 3 ∧ mv = .int .i64 m ∧ Below 0 w wr ∧ LExt w wr ∧ (∀ b, b < w.heap.size → b ≠ gs → b ≠ gt → b ≠ gi → wr.heap[b]? = w.heap[b]?) ∧
    Wri wr (.slice (some ⟨gs, 0, none⟩) n sc) n Cs (if m = 0 then bss else swpL bss i j) (if m = 0 then S else swpF S i j) ∧ Wri wr (.slice (some ⟨gt, 0, none⟩) n tc) n Ct (if m ≤ 1 then bst else swpL bst i j) (if m ≤ 1 then T else swpF T i j) ∧ Wri wr (.slice (some ⟨gi, 0, none⟩) n ic) n Ct (if m ≤ 2 then bsi else swpL bsi i j) (if m ≤ 2 then I else swpF I i j)) (fun mv _ => 3 - (intOf mv).toNat)
  case atStart => exact ⟨0, by omega, rfl, hB0.mono (Nat.zero_le _), lx hB0, fun b hb _ _ _ => hB0.block b hb, hs, ht, hi_⟩
  case round =>
    obtain ⟨m, hm, rfl, hb0, hx0, hold, hs, ht, hi_⟩ := hrel
    have hsz := hb0.size
    have HOLD := HidS.mk hold
    clear hold
    by_cases hm0 : m = 0
    · subst hm0
      rw [if_pos rfl, if_pos rfl] at hs
      rw [if_pos (by omega), if_pos (by omega)] at ht hi_
      obtain ⟨g1, bi, eg1, hg, hbi, hbi2, o1, -⟩ := RowsO.at_ hs (i := i) (by rw [hs.len]; exact hi)
      obtain rfl : gs = g1 := by injection eg1 with eg1; injection eg1
      obtain ⟨g2, bj, eg2, hg', hbj, hbj2, o2, -⟩ := RowsO.at_ hs (i := j) (by rw [hs.len]; exact hj)
      obtain rfl : gs = g2 := by injection eg2 with eg2; injection eg2
      clear eg1 eg2
      obtain ⟨cur, hBr, hcz⟩ := RowsO.gblk hs
      have f1 := hBr.frozen i
      have f2 := hBr.frozen j
      have hix := fun W => run_index_rr 158 3 #[.slice (some ⟨gs, 0, none⟩) n sc, .slice (some ⟨gt, 0, none⟩) n tc, .slice (some ⟨gi, 0, none⟩) n ic] 0 0 _ W Tryz.underlying158 rfl (by omega) rfl
      have s2 : (wr.setCell ⟨gs, i, none⟩ (.slice (some ⟨bj, 0, none⟩) Cs Cs)).frozen? ⟨gs, j, none⟩ = false := (hBr.set_ i _).frozen j
      obtain ⟨u, s1⟩ : ∃ u, (wr.setCell ⟨gs, i, none⟩ (.slice (some ⟨bj, 0, none⟩) Cs Cs)).cell? ⟨gs, j, none⟩ = some u := by
        rw [(hBr.set_ i _).cell j]
        exact ⟨_, Array.getElem?_eq_getElem (by simpa using (by omega : j < cur.size))⟩
      have hsw := hs.swap hi hj hbi hbj
      have hxx := hsw.2.trans (lx (dr _))
      have hoo : ∀ k, k < wr.heap.size → k ≠ gs → (((wr.setCell ⟨gs, i, none⟩ (.slice (some ⟨bj, 0, none⟩) Cs Cs)).setCell ⟨gs, j, none⟩ (.slice (some ⟨bi, 0, none⟩) Cs Cs)).drew).heap[k]? = wr.heap[k]? := fun k _ hk => set2_old _ _ _ _ _ _ _ hk
      have hbb : Below 0 wr (((wr.setCell ⟨gs, i, none⟩ (.slice (some ⟨bj, 0, none⟩) Cs Cs)).setCell ⟨gs, j, none⟩ (.slice (some ⟨bi, 0, none⟩) Cs Cs)).drew) := (bset (bset (Below.refl _ _) (Nat.zero_le _) _ _) (Nat.zero_le _) _ _).drew
      have hsw1 := hsw.1.below (dr _)
      have HFX := HidS.mk (And.intro hxx (And.intro hoo (And.intro hbb hsw1)))
      have HBR := HidS.mk hBr
      clear hxx hoo hbb hsw1 hsw hBr
      go_upto_region 4 with (fail)
      go_region
      go_wp2
      go_roundw
      case measure => simp [intOf]
      obtain ⟨hxx, hoo, hbb, hsw1⟩ := HFX.out
      have hBr := HBR.out
      refine ⟨1, by omega, by simp, hb0.trans hbb, hx0.trans hxx, fun b hb n1 n2 n3 => (hoo b (by omega) n1).trans (HOLD.out b hb n1 n2 n3), ?_, ?_, ?_⟩
      · rw [if_neg (by omega), if_neg (by omega)]; exact hsw1
      · rw [if_pos (by omega), if_pos (by omega)]; exact RowsO.gone ht hBr hxx hoo (fun hh => nst (by injection hh))
      · rw [if_pos (by omega), if_pos (by omega)]; exact RowsO.gone hi_ hBr hxx hoo (fun hh => nsi (by injection hh))
    · by_cases hm1 : m = 1
      · subst hm1
        rw [if_neg (by omega), if_neg (by omega)] at hs
        rw [if_pos (by omega), if_pos (by omega)] at ht hi_
        obtain ⟨g1, bi, eg1, hg, hbi, hbi2, o1, -⟩ := RowsO.at_ ht (i := i) (by rw [ht.len]; exact hi)
        obtain rfl : gt = g1 := by injection eg1 with eg1; injection eg1
        obtain ⟨g2, bj, eg2, hg', hbj, hbj2, o2, -⟩ := RowsO.at_ ht (i := j) (by rw [ht.len]; exact hj)
        obtain rfl : gt = g2 := by injection eg2 with eg2; injection eg2
        clear eg1 eg2
        obtain ⟨cur, hBr, hcz⟩ := RowsO.gblk ht
        have f1 := hBr.frozen i
        have f2 := hBr.frozen j
        have hix := fun W => run_index_rr 158 3 #[.slice (some ⟨gs, 0, none⟩) n sc, .slice (some ⟨gt, 0, none⟩) n tc, .slice (some ⟨gi, 0, none⟩) n ic] 1 1 _ W Tryz.underlying158 rfl (by omega) rfl
        have s2 : (wr.setCell ⟨gt, i, none⟩ (.slice (some ⟨bj, 0, none⟩) Ct Ct)).frozen? ⟨gt, j, none⟩ = false := (hBr.set_ i _).frozen j
        obtain ⟨u, s1⟩ : ∃ u, (wr.setCell ⟨gt, i, none⟩ (.slice (some ⟨bj, 0, none⟩) Ct Ct)).cell? ⟨gt, j, none⟩ = some u := by
          rw [(hBr.set_ i _).cell j]
          exact ⟨_, Array.getElem?_eq_getElem (by simpa using (by omega : j < cur.size))⟩
        have hsw := ht.swap hi hj hbi hbj
        have hxx := hsw.2.trans (lx (dr _))
        have hoo : ∀ k, k < wr.heap.size → k ≠ gt → (((wr.setCell ⟨gt, i, none⟩ (.slice (some ⟨bj, 0, none⟩) Ct Ct)).setCell ⟨gt, j, none⟩ (.slice (some ⟨bi, 0, none⟩) Ct Ct)).drew).heap[k]? = wr.heap[k]? := fun k _ hk => set2_old _ _ _ _ _ _ _ hk
        have hbb : Below 0 wr (((wr.setCell ⟨gt, i, none⟩ (.slice (some ⟨bj, 0, none⟩) Ct Ct)).setCell ⟨gt, j, none⟩ (.slice (some ⟨bi, 0, none⟩) Ct Ct)).drew) := (bset (bset (Below.refl _ _) (Nat.zero_le _) _ _) (Nat.zero_le _) _ _).drew
        have hsw1 := hsw.1.below (dr _)
        have HFX := HidS.mk (And.intro hxx (And.intro hoo (And.intro hbb hsw1)))
        have HBR := HidS.mk hBr
        clear hxx hoo hbb hsw1 hsw hBr
        go_upto_region 4 with (fail)
        go_region
        go_wp2
        go_roundw
        case measure => simp [intOf]
        obtain ⟨hxx, hoo, hbb, hsw1⟩ := HFX.out
        have hBr := HBR.out
        refine ⟨2, by omega, by simp, hb0.trans hbb, hx0.trans hxx, fun b hb n1 n2 n3 => (hoo b (by omega) n2).trans (HOLD.out b hb n1 n2 n3), ?_, ?_, ?_⟩
        · rw [if_neg (by omega), if_neg (by omega)]; exact RowsO.gone hs hBr hxx hoo (fun hh => nst (by injection hh with hh; exact hh.symm))
        · rw [if_neg (by omega), if_neg (by omega)]; exact hsw1
        · rw [if_pos (by omega), if_pos (by omega)]; exact RowsO.gone hi_ hBr hxx hoo (fun hh => nti (by injection hh))
      · by_cases hm2 : m = 2
        · subst hm2
          rw [if_neg (by omega), if_neg (by omega)] at hs ht
          rw [if_pos (by omega), if_pos (by omega)] at hi_
          obtain ⟨g1, bi, eg1, hg, hbi, hbi2, o1, -⟩ := RowsO.at_ hi_ (i := i) (by rw [hi_.len]; exact hi)
          obtain rfl : gi = g1 := by injection eg1 with eg1; injection eg1
          obtain ⟨g2, bj, eg2, hg', hbj, hbj2, o2, -⟩ := RowsO.at_ hi_ (i := j) (by rw [hi_.len]; exact hj)
          obtain rfl : gi = g2 := by injection eg2 with eg2; injection eg2
          clear eg1 eg2
          obtain ⟨cur, hBr, hcz⟩ := RowsO.gblk hi_
          have f1 := hBr.frozen i
          have f2 := hBr.frozen j
          have hix := fun W => run_index_rr 158 3 #[.slice (some ⟨gs, 0, none⟩) n sc, .slice (some ⟨gt, 0, none⟩) n tc, .slice (some ⟨gi, 0, none⟩) n ic] 2 2 _ W Tryz.underlying158 rfl (by omega) rfl
          have s2 : (wr.setCell ⟨gi, i, none⟩ (.slice (some ⟨bj, 0, none⟩) Ct Ct)).frozen? ⟨gi, j, none⟩ = false := (hBr.set_ i _).frozen j
          obtain ⟨u, s1⟩ : ∃ u, (wr.setCell ⟨gi, i, none⟩ (.slice (some ⟨bj, 0, none⟩) Ct Ct)).cell? ⟨gi, j, none⟩ = some u := by
            rw [(hBr.set_ i _).cell j]
            exact ⟨_, Array.getElem?_eq_getElem (by simpa using (by omega : j < cur.size))⟩
          have hsw := hi_.swap hi hj hbi hbj
          have hxx := hsw.2.trans (lx (dr _))
          have hoo : ∀ k, k < wr.heap.size → k ≠ gi → (((wr.setCell ⟨gi, i, none⟩ (.slice (some ⟨bj, 0, none⟩) Ct Ct)).setCell ⟨gi, j, none⟩ (.slice (some ⟨bi, 0, none⟩) Ct Ct)).drew).heap[k]? = wr.heap[k]? := fun k _ hk => set2_old _ _ _ _ _ _ _ hk
          have hbb : Below 0 wr (((wr.setCell ⟨gi, i, none⟩ (.slice (some ⟨bj, 0, none⟩) Ct Ct)).setCell ⟨gi, j, none⟩ (.slice (some ⟨bi, 0, none⟩) Ct Ct)).drew) := (bset (bset (Below.refl _ _) (Nat.zero_le _) _ _) (Nat.zero_le _) _ _).drew
          have hsw1 := hsw.1.below (dr _)
          have HFX := HidS.mk (And.intro hxx (And.intro hoo (And.intro hbb hsw1)))
          have HBR := HidS.mk hBr
          clear hxx hoo hbb hsw1 hsw hBr
          go_upto_region 4 with (fail)
          go_region
          go_wp2
          go_roundw
          case measure => simp [intOf]
          obtain ⟨hxx, hoo, hbb, hsw1⟩ := HFX.out
          have hBr := HBR.out
          refine ⟨3, by omega, by simp, hb0.trans hbb, hx0.trans hxx, fun b hb n1 n2 n3 => (hoo b (by omega) n3).trans (HOLD.out b hb n1 n2 n3), ?_, ?_, ?_⟩
          · rw [if_neg (by omega), if_neg (by omega)]; exact RowsO.gone hs hBr hxx hoo (fun hh => nsi (by injection hh with hh; exact hh.symm))
          · rw [if_neg (by omega), if_neg (by omega)]; exact RowsO.gone ht hBr hxx hoo (fun hh => nti (by injection hh with hh; exact hh.symm))
          · rw [if_neg (by omega), if_neg (by omega)]; exact hsw1
        · obtain rfl : m = 3 := by omega
          rw [if_neg (by omega), if_neg (by omega)] at hs ht hi_
          go_wp2
          obtain ⟨gs1, gt1, gi1, f1, f2, f3, f4, f5, f6⟩ := H0.out
          have l1 := gs1.len
          have l2 := gt1.len
          have l3 := gi1.len
          refine bodyPost_end (results_none rfl _ _ _) rfl ⟨⟨_, rfl⟩, ⟨hb0, hx0, fun b hb hn => HOLD.out b hb (fun hh => hn (.inl (by rw [hh]; rfl))) (fun hh => hn (.inr (.inl (by rw [hh]; rfl)))) (fun hh => hn (.inr (.inr (by rw [hh]; rfl))))⟩, hs, ht, hi_, ?_, ?_, ?_, f4, f5, f6⟩
          · exact fun b h1 h2 => f1 b (mem_swpL (by omega) (by omega) h1) (mem_swpL (by omega) (by omega) h2)
          · exact fun b h1 h2 => f2 b (mem_swpL (by omega) (by omega) h1) (mem_swpL (by omega) (by omega) h2)
          · exact fun b h1 h2 => f3 b (mem_swpL (by omega) (by omega) h1) (mem_swpL (by omega) (by omega) h2)

end Go.Proofs.YtnocgagoaldfnaaGreat
