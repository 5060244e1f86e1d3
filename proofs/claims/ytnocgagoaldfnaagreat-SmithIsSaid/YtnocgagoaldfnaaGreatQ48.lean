/- The fixed examples of torsionlaw13.sanity: Form and Invariants at them. -/
import Derived.Test.YtnocgagoaldfnaaGreatQ47
set_option linter.unusedVariables false
set_option linter.unusedSimpArgs false
set_option linter.unusedSectionVars false
namespace Go.Proofs.YtnocgagoaldfnaaGreat
open Go.RowKit

theorem million : BSd 1000000 := ⟨fun z hz => ⟨Nat.lt_of_lt_of_le (Nat.lt_trans hz (by
  have h1 := B32_pow_lt 0 1 (by omega)
  show 1000000 < B32 ^ 1
  decide)) (pow_mono (by rw [DLIM_eq]; omega))⟩⟩
instance (B R C Cu Cw : Nat) (z : W5) : Decidable (okW B R C Cu Cw z) := by unfold okW; infer_instance
theorem DivR.same {n : Nat} {z y : W5} (h : DivR n z y) (hd : ∀ i j, i < j → j < n → z.s i i ∣ z.s j j) : y = z := by
  induction h with
  | refl => rfl
  | step y i j s t h1 h2 h3 h4 h5 ih =>
    have e := ih
    subst e
    exact absurd (hd i j h2 h3) h4
/-- The numbers of a list of rows are less than B. -/
def lessL (B : Nat) (M : List (List Int)) : Bool := M.all fun r => r.all fun z => decide (z.natAbs < B)
theorem lessL_smd {B : Nat} (hB : BSd B) {M : List (List Int)} (h : lessL B M = true) : ∀ r ∈ M, ∀ z ∈ r, Smd z := fun r hr z hz =>
  hB.smd z (of_decide_eq_true (List.all_eq_true.1 (List.all_eq_true.1 h r hr) z hz))
def MulB (B : Nat) (X Y : List (List Int)) (R m C : Nat) : Prop := ∀ i, i < R → ∀ j, j < C → ∀ k, k < m → (ent X i k).natAbs < B ∧ (ent Y k j).natAbs < B ∧ (ent X i k * ent Y k j).natAbs < B ∧ (mulf X Y k i j).natAbs < B
instance (B : Nat) (X Y : List (List Int)) (R m C : Nat) : Decidable (MulB B X Y R m C) := by unfold MulB; infer_instance
theorem MulB.sm {B : Nat} (hB : BSm B) {X Y : List (List Int)} {R m C : Nat} (h : MulB B X Y R m C) : MulSm X Y R m C := fun i hi j hj k hk =>
  ⟨hB.sm _ (h i hi j hj k hk).1, hB.sm _ (h i hi j hj k hk).2.1, hB.sm _ (h i hi j hj k hk).2.2.1, hB.sm _ (h i hi j hj k hk).2.2.2⟩

/-- Form of (4, 6). -/
theorem form_column (v : Value) (w : World) (h : MatV w v (2 : Nat) (1 : Nat) [[4], [6]]) :
    Calls Tryz.prog 15 #[v] w fun e w' => ∃ f, e = .returned f ∧ SmithV w' f 2 1 [[2], [0]] [[-1, 1], [3, -2]] [[2, 1], [3, 1]] [[1]] [[1]] ∧ Below w.heap.size w w' := by
  have hr : (runGo 1000000 2 1 2 1 20 5 ⟨ent [[4], [6]], idf, idf, idf, idf⟩).map (fun y => (genM 2 1 y.s, genM 2 2 y.u, genM 2 2 (trF y.v), genM 1 1 (trF y.w), genM 1 1 y.x, decide (okW 1000000 2 1 2 1 y))) = some ([[2], [0]], [[-1, 1], [3, -2]], [[2, 1], [3, 1]], [[1]], [[1]], true) := by kernel_rfl
  obtain ⟨y, hy, he⟩ := Option.map_eq_some_iff.1 hr
  simp only [Prod.mk.injEq] at he
  obtain ⟨e1, e2, e3, e4, e5, e6⟩ := he
  have hs : ∀ y', DivR (min 2 1) y y' → y' = y := fun y' hd => hd.same (fun i j h1 h2 => by omega)
  refine (form_any million v [[4], [6]] 2 1 w h ⟨rfl, by decide⟩ (by omega) (by omega) (by decide) hy (fun y' _ i j h1 h2 => by omega) (fun y' hd => by rw [hs y' hd]; exact of_decide_eq_true e6)).mono ?_
  rintro e w' ⟨f, y', rfl, hd, -, hf, hb⟩
  obtain rfl := hs y' hd
  rw [e1, e2, e3, e4, e5] at hf
  exact ⟨f, rfl, hf, hb⟩

theorem nat_min22 : min 2 2 = 2 := rfl
/-- Invariants where the elements divide each other at once. -/
theorem inv_plain (v : Value) (R C : Nat) (M : List (List Int)) (l : List Int) (w : World) (h : MatV w v R C M) (hF : Fits R C M) (hR0 : 0 < R) (hR : R ≤ 1000000) (hC : C ≤ 1000000)
    (hr : (runGo 1000000 R C 0 0 20 5 ⟨ent M, zf, zf, zf, zf⟩).map (fun y => (decide (∀ j, j < min R C → ∀ i, i < j → y.s i i ∣ y.s j j), decide (∀ i, i < min R C → (y.s i i).natAbs < 1000000), nzL (genV (min R C) (fun i => divI (min R C) 0 y.s i i)))) = some (true, true, l)) (hok : okW 1000000 R C 0 0 ⟨ent M, zf, zf, zf, zf⟩) :
    Calls Tryz.prog 18 #[v] w fun e w' => ∃ v, e = .returned v ∧ VecO w' w.heap.size v l ∧ Below w.heap.size w w' := by
  obtain ⟨y, hy, he⟩ := Option.map_eq_some_iff.1 hr
  simp only [Prod.mk.injEq] at he
  obtain ⟨e1, e2, e3⟩ := he
  have hdd := of_decide_eq_true e1
  have hs : ∀ y', DivR (min R C) y y' → y' = y := fun y' hd => hd.same (fun i j h1 h2 => hdd j h2 i h1)
  rw [← e3]
  exact invariants_any million v M R C w h hF hR0 hR hC hok hy (fun y' hd i j h1 h2 hn => absurd (by rw [hs y' hd]; exact hdd j h2 i h1) hn) (fun y' hd i hi => by rw [hs y' hd]; exact of_decide_eq_true e2 i hi)

/-- Invariants of diag (2, 3). -/
theorem inv_23 (v : Value) (w : World) (h : MatV w v (2 : Nat) (2 : Nat) [[2, 0], [0, 3]]) :
    Calls Tryz.prog 18 #[v] w fun e w' => ∃ v, e = .returned v ∧ VecO w' w.heap.size v [1, 6] ∧ Below w.heap.size w w' := by
  have hr : (runGo 1000000 2 2 0 0 20 5 ⟨ent [[2, 0], [0, 3]], zf, zf, zf, zf⟩).map (fun y => (y.s 0 0, y.s 1 1, nzL (genV 2 (fun i => divI 2 0 y.s i i)))) = some (2, 3, [1, 6]) := by kernel_rfl
  obtain ⟨y, hy, he⟩ := Option.map_eq_some_iff.1 hr
  simp only [Prod.mk.injEq] at he
  obtain ⟨e1, e2, e3⟩ := he
  have hs : ∀ y', DivR 2 y y' → (y'.s 0 0 = 2 ∧ y'.s 1 1 = 3) ∨ (y'.s 0 0 = 1 ∧ y'.s 1 1 = 6) := by
    intro y' hd0
    obtain ⟨n, hn, hd⟩ : ∃ n, n = 2 ∧ DivR n y y' := ⟨2, rfl, hd0⟩
    clear hr e3 hy hd0
    induction hd with
    | refl => exact .inl ⟨e1, e2⟩
    | step y i j s t h1 h2 h3 h4 h5 ih =>
      obtain rfl : i = 0 := by omega
      obtain rfl : j = 1 := by omega
      rcases ih with ⟨a, b⟩ | ⟨a, b⟩
      · refine .inr ⟨?_, ?_⟩
        · show divS y.s 0 1 0 0 = 1
          unfold divS
          rw [a, b]
          decide
        · show divS y.s 0 1 1 1 = 6
          unfold divS
          rw [a, b]
          decide
      · rw [a, b] at h4
        exact absurd ⟨6, rfl⟩ h4
  have hmin : min 2 2 = 2 := rfl
  refine (invariants_any million v [[2, 0], [0, 3]] 2 2 w h ⟨rfl, by decide⟩ (by omega) (by omega) (by omega) (by decide) hy ?_ ?_).mono fun e w' hv => ?_
  · intro y' hd i j h1 h2 h3
    obtain rfl : i = 0 := by omega
    obtain rfl : j = 1 := by omega
    rcases hs y' hd with ⟨a, b⟩ | ⟨a, b⟩
    · refine ⟨by rw [a, b]; decide, by rw [a, b]; decide, ?_⟩
      intro g u v s t hg hu hv ⟨hb1, hb2, hb3⟩
      rw [a, b] at hg
      rw [a] at hu hb3
      rw [b] at hv hb2
      have hg1 : g = 1 := hg
      subst hg1
      have hu2 : u = 2 := hu
      have hv3 : v = 3 := hv
      subst hu2
      subst hv3
      have hs3 : s.natAbs ≤ 3 := hb2
      have ht2 : t.natAbs ≤ 2 := hb3
      rw [a]
      refine ⟨by omega, by omega, ⟨by omega, by omega, by omega, by omega, fun t ht => by omega⟩, ⟨by omega, by omega, by omega, by omega, fun t ht => by omega⟩, ⟨by omega, by omega, by omega, by omega, fun t ht => by omega⟩, ⟨by omega, by omega, by omega, by omega, fun t ht => by omega⟩⟩
    · rw [a, b] at h3
      exact absurd ⟨6, rfl⟩ h3
  · intro y' hd i hi
    rcases hs y' hd with ⟨a, b⟩ | ⟨a, b⟩
    · match i, hi with
      | 0, _ => rw [a]; decide
      | 1, _ => rw [b]; decide
    · match i, hi with
      | 0, _ => rw [a]; decide
      | 1, _ => rw [b]; decide
  · rw [hmin, e3] at hv
    exact hv

end Go.Proofs.YtnocgagoaldfnaaGreat
