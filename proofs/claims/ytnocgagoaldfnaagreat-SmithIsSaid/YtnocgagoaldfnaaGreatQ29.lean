/- smith: a band's steps, by what they do to its state. -/
import Derived.Test.YtnocgagoaldfnaaGreatQ28
set_option linter.unusedVariables false
set_option linter.unusedSimpArgs false
set_option linter.unusedSectionVars false
namespace Go.Proofs.YtnocgagoaldfnaaGreat
open Go.RowKit

/-- A band's matrices lie in the blocks Z and hold the state x. -/
structure BandZ (Z : Nat → Prop) (w : World) (As At Ai : Value) (n Cs Ct : Nat) (x : Bst) : Prop where
  ex : ∃ bss bst bsi, BandV w As At Ai n Cs Ct bss bst bsi x.s x.t x.i ∧ (∀ b, b ∈ bss ∨ b ∈ bst ∨ b ∈ bsi → Z b)
  own : ∀ g, As.ownBlock = some g ∨ At.ownBlock = some g ∨ Ai.ownBlock = some g → Z g
theorem BandZ.below {Z : Nat → Prop} {w w' : World} {As At Ai : Value} {n Cs Ct : Nat} {x : Bst} (h : BandZ Z w As At Ai n Cs Ct x) (hb : Below w.heap.size w w') : BandZ Z w' As At Ai n Cs Ct x := by
  obtain ⟨⟨bss, bst, bsi, ⟨h1, h2, h3, h4, h5, h6, h7, h8, h9⟩, hz⟩, ho⟩ := h
  exact ⟨⟨bss, bst, bsi, ⟨h1.below hb, h2.below hb, h3.below hb, h4, h5, h6, h7, h8, h9⟩, hz⟩, ho⟩

/-- Numbers less than B are small. -/
structure BSm (B : Nat) : Prop where
  sm : ∀ z : Int, z.natAbs < B → Sm z

theorem addZ {Z : Nat → Prop} {B : Nat} (hB : BSm B) {As At Ai : Value} {n Cs Ct : Nat} {x : Bst} {i j : Nat} {kv : Value} {k : Int} {w : World} (h : BandZ Z w As At Ai n Cs Ct x) (hok : okB B n Cs Ct x) (hi : i < n) (hj : j < n) (hij : i ≠ j) (hk : IntV w kv k)
    (hn : n ≤ 1000000) (hCs : Cs ≤ 1000000) (hCt : Ct ≤ 1000000) (ha : okAdd B n Cs Ct x i j k) :
    Calls Tryz.prog 134 #[.agg #[As, At, Ai], .int .i64 i, .int .i64 j, kv] w fun e w' => (∃ u, e = .returned u) ∧ OnlyZ Z w w' ∧ BandZ Z w' As At Ai n Cs Ct (x.add i j k) := by
  obtain ⟨⟨bss, bst, bsi, hv, hz⟩, ho⟩ := h
  obtain ⟨a1, a2, a3, a4⟩ := ha
  obtain ⟨o1, o2, o3⟩ := hok
  refine (band_add_any As At Ai n Cs Ct i j bss bst bsi x.s x.t x.i kv k w hv hi hj hij hk hn hCs hCt (fun t ht => ⟨hB.sm _ (o1 i hi t ht), hB.sm _ (o1 j hj t ht), hB.sm _ (a2 t ht)⟩) (fun t ht => ⟨hB.sm _ (o2 i hi t ht), hB.sm _ (o2 j hj t ht), hB.sm _ (a3 t ht).1⟩)
    (fun t ht => ⟨hB.sm _ (o3 j hj t ht), hB.sm _ (o3 i hi t ht), hB.sm _ (by rw [Int.neg_mul, Int.natAbs_neg]; exact (a3 t ht).2)⟩) (hB.sm _ a1)).mono ?_
  rintro e w' ⟨hu, h1, h2, h3, h4⟩
  exact ⟨hu, ⟨h1, h2, fun b hb hn => h3 b hb (fun hh => hn (hz b (.inl hh))) (fun hh => hn (hz b (.inr (.inl hh)))) (fun hh => hn (hz b (.inr (.inr hh))))⟩, ⟨bss, bst, bsi, h4, hz⟩, ho⟩

theorem swapZ {Z : Nat → Prop} {As At Ai : Value} {n Cs Ct : Nat} {x : Bst} {i j : Nat} {w : World} (h : BandZ Z w As At Ai n Cs Ct x) (hi : i < n) (hj : j < n) (hn : n ≤ 1000000) :
    Calls Tryz.prog 135 #[.agg #[As, At, Ai], .int .i64 i, .int .i64 j] w fun e w' => (∃ u, e = .returned u) ∧ OnlyZ Z w w' ∧ BandZ Z w' As At Ai n Cs Ct (x.swap i j) := by
  obtain ⟨⟨bss, bst, bsi, hv, hz⟩, ho⟩ := h
  have l1 := hv.s.len
  have l2 := hv.t.len
  have l3 := hv.i.len
  refine (exchange_any As At Ai n Cs Ct i j bss bst bsi x.s x.t x.i w hv hi hj hn).mono ?_
  rintro e w' ⟨hu, h1, h4⟩
  refine ⟨hu, h1.mono (fun b _ hb => ho b hb), ⟨_, _, _, h4, fun b hb => hz b ?_⟩, ho⟩
  rcases hb with hb | hb | hb
  · exact .inl (mem_swpL (by omega) (by omega) hb)
  · exact .inr (.inl (mem_swpL (by omega) (by omega) hb))
  · exact .inr (.inr (mem_swpL (by omega) (by omega) hb))

theorem negZ {Z : Nat → Prop} {B : Nat} (hB : BSm B) {As At Ai : Value} {n Cs Ct : Nat} {x : Bst} {i : Nat} {w : World} (h : BandZ Z w As At Ai n Cs Ct x) (hok : okB B n Cs Ct x) (hi : i < n) (hn : n ≤ 1000000) (hCs : Cs ≤ 1000000) (hCt : Ct ≤ 1000000) :
    Calls Tryz.prog 136 #[.agg #[As, At, Ai], .int .i64 i] w fun e w' => (∃ u, e = .returned u) ∧ OnlyZ Z w w' ∧ BandZ Z w' As At Ai n Cs Ct (x.neg i) := by
  obtain ⟨⟨bss, bst, bsi, hv, hz⟩, ho⟩ := h
  obtain ⟨o1, o2, o3⟩ := hok
  refine (negate_any As At Ai n Cs Ct i bss bst bsi x.s x.t x.i w hv hi hn hCs hCt (fun a ha b hb => hB.sm _ (o1 a ha b hb)) (fun a ha b hb => hB.sm _ (o2 a ha b hb)) (fun a ha b hb => hB.sm _ (o3 a ha b hb))).mono ?_
  rintro e w' ⟨hu, h1, h4⟩
  exact ⟨hu, h1.mono (fun b _ hb => hz b hb), ⟨bss, bst, bsi, h4, hz⟩, ho⟩

/-- The row slices of a band, as values. -/
theorem BandZ.shape {Z : Nat → Prop} {w : World} {As At Ai : Value} {n Cs Ct : Nat} {x : Bst} (h : BandZ Z w As At Ai n Cs Ct x) : ∃ so sc uo tc io ic, As = .slice so n sc ∧ At = .slice uo n tc ∧ Ai = .slice io n ic ∧ n ≤ sc ∧ sc ≤ 9223372036854775807 ∧ (0 < n → ∃ g, so = some ⟨g, 0, none⟩) := by
  obtain ⟨⟨bss, bst, bsi, hv, hz⟩, ho⟩ := h
  obtain ⟨so, sn, sc, e1, s1, s2, s3, -⟩ := id (RowsO.rows hv.s)
  obtain ⟨uo, tn, tc, e2, t1, t2, t3, -⟩ := id (RowsO.rows hv.t)
  obtain ⟨io, in_, ic, e3, i1, i2, i3, -⟩ := id (RowsO.rows hv.i)
  obtain rfl : n = sn := by rw [← s1]; simp [genM]
  obtain rfl : n = tn := by rw [← t1]; simp [genM]
  obtain rfl : n = in_ := by rw [← i1]; simp [genM]
  refine ⟨so, sc, uo, tc, io, ic, e1, e2, e3, s2, s3, fun hn => ?_⟩
  have hs := hv.s
  rw [e1] at hs
  obtain ⟨g, b, e, -⟩ := RowsO.at_ hs (i := 0) (by rw [hs.len]; exact hn)
  exact ⟨g, e⟩
/-- A row of a band's first matrix. -/
theorem BandZ.row {Z : Nat → Prop} {w : World} {At Ai : Value} {g n sc Cs Ct : Nat} {x : Bst} (h : BandZ Z w (.slice (some ⟨g, 0, none⟩) n sc) At Ai n Cs Ct x) {i : Nat} (hi : i < n) :
    ∃ b, w.cell? ⟨g, i, none⟩ = some (.slice (some ⟨b, 0, none⟩) Cs Cs) ∧ RowAt w b (genV Cs (x.s i)) := by
  obtain ⟨⟨bss, bst, bsi, hv, hz⟩, ho⟩ := h
  obtain ⟨g', b, e, hg, hb, hb2, o1, -⟩ := RowsO.at_ hv.s (i := i) (by rw [hv.s.len]; exact hi)
  injection e with e
  injection e with e
  subst e
  exact ⟨b, o1, hv.s.rowAt hi hb⟩

theorem BandZ.glt {Z : Nat → Prop} {w : World} {At Ai : Value} {g n sc Cs Ct : Nat} {x : Bst} (h : BandZ Z w (.slice (some ⟨g, 0, none⟩) n sc) At Ai n Cs Ct x) {i : Nat} (hi : i < n) : g < w.heap.size := by
  obtain ⟨⟨bss, bst, bsi, hv, hz⟩, ho⟩ := h
  obtain ⟨g', b, e, hg, -⟩ := RowsO.at_ hv.s (i := i) (by rw [hv.s.len]; exact hi)
  injection e with e
  injection e with e
  subst e
  exact hg

theorem leadGo_spec (k : Nat) (zs : List Int) : (leadGo k zs = -1 ∧ ∀ z ∈ zs, z = 0) ∨ ∃ j, leadGo k zs = ((k + j : Nat) : Int) ∧ j < zs.length ∧ zs.getD j 0 ≠ 0 ∧ ∀ t, t < j → zs.getD t 0 = 0 := by
  induction zs generalizing k with
  | nil => exact .inl ⟨rfl, fun z hz => by cases hz⟩
  | cons z zs ih =>
    unfold leadGo
    by_cases hz : z = 0
    · rw [if_neg (by simp [hz])]
      rcases ih (k + 1) with ⟨h1, h2⟩ | ⟨j, h1, h2, h3, h4⟩
      · refine .inl ⟨h1, fun y hy => ?_⟩
        rcases List.mem_cons.1 hy with rfl | hy
        · exact hz
        · exact h2 y hy
      · refine .inr ⟨j + 1, by rw [h1]; congr 1; omega, by simp; omega, by simpa using h3, fun t ht => ?_⟩
        cases t with
        | zero => simpa using hz
        | succ t => simpa using h4 t (by omega)
    · rw [if_pos hz]
      exact .inr ⟨0, by simp, by simp, by simpa using hz, fun t ht => by omega⟩
theorem getD_genV {n : Nat} {f : Nat → Int} {j : Nat} (h : j < n) : (genV n f).getD j 0 = f j := by rw [List.getD_eq_getElem?_getD, genV_get h]; rfl
theorem lead_spec (C : Nat) (F : Nat → Nat → Int) (i : Nat) : (lead C F i = -1 ∧ ∀ t, t < C → F i t = 0) ∨ ∃ j : Nat, lead C F i = (j : Int) ∧ j < C ∧ F i j ≠ 0 ∧ ∀ t, t < j → F i t = 0 := by
  unfold lead
  rcases leadGo_spec 0 (genV C (F i)) with ⟨h1, h2⟩ | ⟨j, h1, h2, h3, h4⟩
  · exact .inl ⟨h1, fun t ht => h2 _ (List.mem_of_getElem? (genV_get ht))⟩
  · rw [genV_length] at h2
    rw [getD_genV h2] at h3
    refine .inr ⟨j, by rw [h1]; simp, h2, h3, fun t ht => ?_⟩
    have := h4 t ht
    rwa [getD_genV (by omega)] at this
theorem lead_nat {C : Nat} {F : Nat → Nat → Int} {i : Nat} (h : ¬ lead C F i < 0) : ∃ c : Nat, lead C F i = (c : Int) ∧ c < C ∧ F i c ≠ 0 ∧ ∀ t, t < c → F i t = 0 := by
  rcases lead_spec C F i with ⟨h1, -⟩ | h1
  · omega
  · exact h1

/-- The least number of which P holds. -/
noncomputable def leastOf (P : Nat → Prop) : Nat := open Classical in if h : ∃ f, P f ∧ ∀ g, P g → f ≤ g then h.choose else 0
theorem least_ex {P : Nat → Prop} : ∀ f, P f → ∃ f, P f ∧ ∀ g, P g → f ≤ g := by
  intro f
  induction f using Nat.strongRecOn with
  | _ f ih =>
    intro hf
    by_cases h : ∃ g, g < f ∧ P g
    · obtain ⟨g, h1, h2⟩ := h
      exact ih g h1 h2
    · refine ⟨f, hf, fun g hg => ?_⟩
      rcases Nat.lt_or_ge g f with h3 | h3
      · exact absurd ⟨g, h3, hg⟩ h
      · exact h3
theorem leastOf_spec {P : Nat → Prop} {f : Nat} (h : P f) : P (leastOf P) ∧ ∀ g, P g → leastOf P ≤ g := by
  have hx : ∃ f, P f ∧ ∀ g, P g → f ≤ g := least_ex f h
  unfold leastOf
  rw [dif_pos hx]
  exact hx.choose_spec
theorem leastOf_lt {P : Nat → Prop} {f n : Nat} (h : P f) (hf : f < n) : leastOf P < n := Nat.lt_of_le_of_lt ((leastOf_spec h).2 f h) hf

end Go.Proofs.YtnocgagoaldfnaaGreat
