/- torsionlaw13.SmithIs: whatever the input, it returns true, and the input reads as it did. No conditions. -/
import Derived.Test.YtnocgagoaldfnaaGreatRows
import Derived.ProofKit
import Derived.OpenShut
import Derived.Test.YtnocgagoaldfnaaGreatQ50
set_option linter.unusedVariables false
set_option linter.unusedSimpArgs false
set_option linter.unusedSectionVars false
namespace Go.Proofs.YtnocgagoaldfnaaGreat
open Go.ChangeShapes Go.WideShapes Go.ChangeAt Go.RowKit

theorem Tryz.own : ownKnob Tryz.prog.godebug = none := by kernel_rfl
theorem Tryz.laidOut : laidOutB Tryz.prog = true := by kernel_rfl
theorem cells40 : Tryz.prog.cellsOf 40 = 2 := by kernel_rfl
theorem cells5 : Tryz.prog.cellsOf 5 = 1 := by kernel_rfl
theorem cells47 : Tryz.prog.cellsOf 47 = 1 := by kernel_rfl

set_option maxRecDepth 100000 in
/-- Two u8 in an array. -/
theorem open_pair {H : Type} {enc : TypeId × Value → H} {w : World} {b0 base : Nat} {spare : Nat → Bool} {held : Bool} {r : Reach} {v : Value} {d : DataW H} {ps : List MemPlace} (hval : Value.okWide Tryz.prog w r b0 40 v)
    (h : DataW.Trod enc Tryz.prog w base spare held 40 v d ps) : ∃ a b : Int, v = .agg #[.int .u8 a, .int .u8 b] ∧ (0 ≤ a ∧ a ≤ 255) ∧ (0 ≤ b ∧ b ≤ 255) := by
  simp only [Value.okWide, Tryz.underlying40] at hval
  obtain ⟨cs, rfl, hsz, -⟩ := hval
  obtain ⟨fuel, hf⟩ := h
  obtain ⟨xs, m, -, -, h1, h2, h3⟩ := DataW.trod_array Tryz.underlying40 hf
  rw [cells40] at h1
  have e0 := h3 0 (by omega)
  have e1 := h3 1 (by omega)
  rw [cells5] at e0 e1
  rw [List.getElem?_eq_getElem (by omega)] at e0 e1
  obtain ⟨a, ha, -, wa⟩ := DataW.trod_int Tryz.underlying5 e0
  obtain ⟨b, hb, -, wb⟩ := DataW.trod_int Tryz.underlying5 e1
  simp only [Value.cells] at ha hb h1
  obtain ⟨cl⟩ := cs
  match cl, h1 with
  | [c0, c1], _ =>
    simp at ha hb
    subst ha
    subst hb
    simp [Lit.wf, IntKind.min, IntKind.max, IntKind.bits, IntKind.signed] at wa wb
    exact ⟨a, b, rfl, by omega, by omega⟩

set_option maxRecDepth 100000 in
theorem smithIs_lifted (os : Os) (started : os.Started) (H : Type) (enc : TypeId × Value → H) :
    ReturnsInHanded {} Tryz.checked os 5 .any (Rows.smithIsSpec.pre6 enc Tryz.prog Tryz.f5 Rows.smithIsRow.domain false) (Rows.smithIsSpec.post enc Tryz.prog Tryz.f5 false true false false) := by
  refine returnsInHanded_of_change (C := Tryz.checked) Tryz.own started (by kernel_rfl) Tryz.func5
    (ChangeSpec.witness6 (enc := enc) (C := Tryz.checked) false ⟨#[], #[.slice none 0 0, .agg #[.int .u8 0, .int .u8 0], .int .i8 0], []⟩ 8 (by kernel_rfl) (by kernel_rfl) (by kernel_rfl) (by kernel_rfl)) ?_
  intro W base args ds gs before hval0 hW hcnd _
  have hval : ∀ (j : Nat) t v, Tryz.f5.params[j]? = some t → args[j]? = some v → Value.okWide Tryz.prog W .any base t v := hval0
  have hW' := hW
  obtain ⟨p, q, hA0, hV, rfl, hfz, hnd⟩ := hW
  have hA : DataW.TrodAll enc Tryz.prog W 0 (fun _ => true) true Tryz.f5.params.toList args.toList ds p := hA0
  rw [Tryz.params5] at hA hval
  obtain ⟨v0, v1, v2, d0, d1, d2, p0, p1, p2, rfl, rfl, rfl, h0, h1, h2⟩ := trodAll_three hA
  obtain ⟨rfl, rfl⟩ := trodVars_none hV
  obtain ⟨x, y, rfl, hx, hy⟩ := open_pair (hval 1 40 v1 rfl rfl) h1
  have h2k := h2
  obtain ⟨c, rfl, rfl, rfl, wc⟩ := open_int Tryz.underlying41 (hval 2 41 v2 rfl rfl) h2
  obtain ⟨a0, len, cap, rfl⟩ := okWide_slice Tryz.underlying39 (hval 0 39 v0 rfl rfl)
  have h0k := h0
  obtain ⟨fuel, hf⟩ := h0
  clear hA0 hval0
  simp only [List.append_nil] at hW'
  have hlt0 : ∀ x ∈ p0, x.block < W.heap.size := fun x hx => hW'.lt x (List.mem_append_left _ hx)
  have hlt1 : ∀ x ∈ p1, x.block < W.heap.size := fun x hx => hW'.lt x (List.mem_append_right _ hx)
  have hc : -128 ≤ c ∧ c ≤ 127 := by
    simp [Lit.wf, IntKind.min, IntKind.max, IntKind.bits, IntKind.signed] at wc
    omega
  have hV0 : ∃ ls, I16V W (.slice a0 len cap) ls := by
    rcases open_ints Tryz.underlying39 Tryz.underlying47 cells47 hf with ⟨e1, -⟩ | ⟨a, len', cap', zs, e1, -, hl, hm, hzl, e2, hcell, hwf⟩
    · simp [Value.cells] at e1
      obtain ⟨rfl, rfl, rfl⟩ := e1
      exact ⟨[], none, 0, 0, rfl, rfl, Nat.le_refl _, by omega, fun z hz => (by cases hz), fun h => absurd rfl h⟩
    · simp [Value.cells] at e1
      obtain ⟨rfl, rfl, rfl⟩ := e1
      simp only [if_true] at hzl
      unfold maxLen at hm
      refine ⟨zs.take len, some a, len, cap, rfl, by simp; omega, hl, by omega, fun z hz => ?_, fun h => ?_⟩
      · have := hwf z (List.mem_of_mem_take hz)
        simp [Lit.wf, IntKind.min, IntKind.max, IntKind.bits, IntKind.signed] at this
        omega
      · have hpos : 0 < zs.length := by
          rcases Nat.eq_zero_or_pos zs.length with h0 | h0
          · exact absurd (by rw [List.eq_nil_of_length_eq_zero h0]; simp) h
          · exact h0
        obtain ⟨b, off, rfl, hj⟩ := ints_at hcell hpos
        refine ⟨b, off, rfl, ?_, fun k z hk => ?_⟩
        · have := e2
          simp only [Prod.mk.injEq] at this
          exact hlt0 (.cell b off) (by rw [this.2]; exact MemPlace.mem_row.2 ⟨0, hpos, rfl⟩)
        · obtain ⟨h1, h2⟩ := List.getElem?_eq_some_iff.1 hk
          rw [List.getElem_take] at h2
          have hkz : k < zs.length := by
            simp at h1
            omega
          rw [hj k hkz, ← h2]
          simp [hkz]
  obtain ⟨ls, hls⟩ := hV0
  refine (smithis_any _ ls x y c W hls hx hy hc).mono fun e W' ⟨he, hB⟩ => ?_
  subst he
  refine ⟨_, rfl, _, _, _, [], p0 ++ (p1 ++ []), [], hW', ?_, ?_, rfl, hB.frame _, fun h => by cases h⟩
  · exact trodAll_mk1 (shut_bool Tryz.underlying4 true)
  · exact trodAll_mk3 (Below.trod Tryz.laidOut (by kernel_rfl) (of_decide_eq_true (by kernel_rfl)) h0k hB hlt0) (Below.trod Tryz.laidOut (by kernel_rfl) (of_decide_eq_true (by kernel_rfl)) h1 hB hlt1) (shut_int Tryz.underlying41 wc)

theorem smithIs_holds : Rows.SmithIsSaid :=
  OpenClaim.holds_of_wide 5 Tryz.f5 rfl rfl rfl rfl rfl rfl rfl ⟨rfl, rfl, rfl, rfl, rfl⟩ rfl rfl rfl rfl rfl (by kernel_rfl) Tryz.func5 (by kernel_rfl)
    (of_decide_eq_true (by kernel_rfl)) (by unfold Func.isWrapper; first | (rw [if_pos (by decide +kernel)]; kernel_rfl) | (rw [if_neg (by decide +kernel)]; exact ⟨rfl, rfl⟩))
    (fun os started H enc _ => smithIs_lifted os started H enc)

end Go.Proofs.YtnocgagoaldfnaaGreat
