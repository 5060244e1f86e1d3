/- smith.Form. torsionref13.Check where everything holds. -/
import Derived.Test.YtnocgagoaldfnaaGreatQ24
import Derived.Test.YtnocgagoaldfnaaGreatQ39
import Derived.Test.YtnocgagoaldfnaaGreatQ43
set_option linter.unusedVariables false
set_option linter.unusedSimpArgs false
set_option linter.unusedSectionVars false
namespace Go.Proofs.YtnocgagoaldfnaaGreat
open Go.RowKit

theorem RG.five {W : World} {T0 : Array Value} {vs : List VS} {L : Array Bool} {T : Array Value} {w : World} {k1 k2 k3 k4 k5 s1 s2 s3 s4 s5 R C Cu Cw : Nat} {F1 F2 F3 F4 F5 : Nat → Nat → Int}
    (h : RG W T0 vs [⟨k1, s1, R, C, F1⟩, ⟨k2, s2, R, Cu, F2⟩, ⟨k3, s3, R, Cu, F3⟩, ⟨k4, s4, C, Cw, F4⟩, ⟨k5, s5, C, Cw, F5⟩] L T w) (o1 : k1 < k2) (o2 : k2 < k3) (o3 : k3 < k4) (o4 : k4 < k5)
    (l1 : L[k1]? = some true) (l2 : L[k2]? = some true) (l3 : L[k3]? = some true) (l4 : L[k4]? = some true) (l5 : L[k5]? = some true) :
    ∃ so sc uo uc vo vc wo wc xo xc, T[s1]? = some (.agg #[.int .i64 R, .int .i64 C, .slice so R sc]) ∧ T[s2]? = some (.agg #[.int .i64 R, .int .i64 Cu, .slice uo R uc]) ∧ T[s3]? = some (.agg #[.int .i64 R, .int .i64 Cu, .slice vo R vc]) ∧
      T[s4]? = some (.agg #[.int .i64 C, .int .i64 Cw, .slice wo C wc]) ∧ T[s5]? = some (.agg #[.int .i64 C, .int .i64 Cw, .slice xo C xc]) ∧
      FiveV W.heap.size R C Cu Cw ⟨F1, F2, F3, F4, F5⟩ w (.agg #[.int .i64 R, .int .i64 C, .slice so R sc, .int .i64 R, .int .i64 Cu, .slice uo R uc, .int .i64 R, .int .i64 Cu, .slice vo R vc, .int .i64 C, .int .i64 Cw, .slice wo C wc, .int .i64 C, .int .i64 Cw, .slice xo C xc]) := by
  obtain ⟨bot, top, g1, g2⟩ := h.gh
  have M1 : (⟨k1, s1, R, C, F1⟩ : MS) ∈ [(⟨k1, s1, R, C, F1⟩ : MS), ⟨k2, s2, R, Cu, F2⟩, ⟨k3, s3, R, Cu, F3⟩, ⟨k4, s4, C, Cw, F4⟩, ⟨k5, s5, C, Cw, F5⟩] := by simp
  have M2 : (⟨k2, s2, R, Cu, F2⟩ : MS) ∈ [(⟨k1, s1, R, C, F1⟩ : MS), ⟨k2, s2, R, Cu, F2⟩, ⟨k3, s3, R, Cu, F3⟩, ⟨k4, s4, C, Cw, F4⟩, ⟨k5, s5, C, Cw, F5⟩] := by simp
  have M3 : (⟨k3, s3, R, Cu, F3⟩ : MS) ∈ [(⟨k1, s1, R, C, F1⟩ : MS), ⟨k2, s2, R, Cu, F2⟩, ⟨k3, s3, R, Cu, F3⟩, ⟨k4, s4, C, Cw, F4⟩, ⟨k5, s5, C, Cw, F5⟩] := by simp
  have M4 : (⟨k4, s4, C, Cw, F4⟩ : MS) ∈ [(⟨k1, s1, R, C, F1⟩ : MS), ⟨k2, s2, R, Cu, F2⟩, ⟨k3, s3, R, Cu, F3⟩, ⟨k4, s4, C, Cw, F4⟩, ⟨k5, s5, C, Cw, F5⟩] := by simp
  have M5 : (⟨k5, s5, C, Cw, F5⟩ : MS) ∈ [(⟨k1, s1, R, C, F1⟩ : MS), ⟨k2, s2, R, Cu, F2⟩, ⟨k3, s3, R, Cu, F3⟩, ⟨k4, s4, C, Cw, F4⟩, ⟨k5, s5, C, Cw, F5⟩] := by simp
  obtain ⟨a1, a2, _, a3, so, sc, bS, rfl, a5, a6⟩ := g1 _ M1 l1
  obtain ⟨b1, b2, _, b3, uo, uc, bU, rfl, b5, b6⟩ := g1 _ M2 l2
  obtain ⟨c1, c2, _, c3, vo, vc, bV, rfl, c5, c6⟩ := g1 _ M3 l3
  obtain ⟨d1, d2, _, d3, wo, wc, bW, rfl, d5, d6⟩ := g1 _ M4 l4
  obtain ⟨e1, e2, _, e3, xo, xc, bX, rfl, e5, e6⟩ := g1 _ M5 l5
  have r12 := g2 _ M1 _ M2 o1 l1 l2
  have r13 := g2 _ M1 _ M3 (by dsimp only; omega) l1 l3
  have r14 := g2 _ M1 _ M4 (by dsimp only; omega) l1 l4
  have r15 := g2 _ M1 _ M5 (by dsimp only; omega) l1 l5
  have r23 := g2 _ M2 _ M3 (by dsimp only; omega) l2 l3
  have r24 := g2 _ M2 _ M4 (by dsimp only; omega) l2 l4
  have r25 := g2 _ M2 _ M5 (by dsimp only; omega) l2 l5
  have r34 := g2 _ M3 _ M4 (by dsimp only; omega) l3 l4
  have r35 := g2 _ M3 _ M5 (by dsimp only; omega) l3 l5
  have r45 := g2 _ M4 _ M5 (by dsimp only; omega) l4 l5
  refine ⟨so, sc, uo, uc, vo, vc, wo, wc, xo, xc, a3, b3, c3, d3, e3, ⟨so, sc, uo, uc, vo, vc, wo, wc, xo, xc, bS, bU, bV, bW, bX, rfl, a5, b5, c5, d5, e5, ?_, ap_range a6 b6 r12, ap_range a6 c6 r13, ap_range a6 d6 r14, ap_range a6 e6 r15, ap_range b6 c6 r23, ap_range b6 d6 r24, ap_range b6 e6 r25, ap_range c6 d6 r34, ap_range c6 e6 r35, ap_range d6 e6 r45⟩⟩
  rintro b (hb | hb | hb | hb | hb)
  · exact Nat.le_trans a1 (a6 b hb).1
  · exact Nat.le_trans b1 (b6 b hb).1
  · exact Nat.le_trans c1 (c6 b hb).1
  · exact Nat.le_trans d1 (d6 b hb).1
  · exact Nat.le_trans e1 (e6 b hb).1

theorem Blk.all15 {w : World} {g : Nat} {t : TypeId} {c0 c1 c2 c3 c4 c5 c6 c7 c8 c9 c10 c11 c12 c13 c14 : Value} (h : Blk w g t #[c0, c1, c2, c3, c4, c5, c6, c7, c8, c9, c10, c11, c12, c13, c14]) :
    (w.cell? ⟨g, 0, none⟩ = some c0 ∧ w.cell? ⟨g, 1, none⟩ = some c1 ∧ w.cell? ⟨g, 2, none⟩ = some c2 ∧ w.cell? ⟨g, 3, none⟩ = some c3 ∧ w.cell? ⟨g, 4, none⟩ = some c4 ∧ w.cell? ⟨g, 5, none⟩ = some c5 ∧ w.cell? ⟨g, 6, none⟩ = some c6 ∧ w.cell? ⟨g, 7, none⟩ = some c7 ∧ w.cell? ⟨g, 8, none⟩ = some c8 ∧ w.cell? ⟨g, 9, none⟩ = some c9 ∧ w.cell? ⟨g, 10, none⟩ = some c10 ∧ w.cell? ⟨g, 11, none⟩ = some c11 ∧ w.cell? ⟨g, 12, none⟩ = some c12 ∧ w.cell? ⟨g, 13, none⟩ = some c13 ∧ w.cell? ⟨g, 14, none⟩ = some c14) ∧ (w.frozen? ⟨g, 0, none⟩ = false ∧ w.frozen? ⟨g, 1, none⟩ = false ∧ w.frozen? ⟨g, 2, none⟩ = false ∧ w.frozen? ⟨g, 3, none⟩ = false ∧ w.frozen? ⟨g, 4, none⟩ = false ∧ w.frozen? ⟨g, 5, none⟩ = false ∧ w.frozen? ⟨g, 6, none⟩ = false ∧ w.frozen? ⟨g, 7, none⟩ = false ∧ w.frozen? ⟨g, 8, none⟩ = false ∧ w.frozen? ⟨g, 9, none⟩ = false ∧ w.frozen? ⟨g, 10, none⟩ = false ∧ w.frozen? ⟨g, 11, none⟩ = false ∧ w.frozen? ⟨g, 12, none⟩ = false ∧ w.frozen? ⟨g, 13, none⟩ = false ∧ w.frozen? ⟨g, 14, none⟩ = false) :=
  ⟨⟨h.cell 0, h.cell 1, h.cell 2, h.cell 3, h.cell 4, h.cell 5, h.cell 6, h.cell 7, h.cell 8, h.cell 9, h.cell 10, h.cell 11, h.cell 12, h.cell 13, h.cell 14⟩, ⟨h.frozen 0, h.frozen 1, h.frozen 2, h.frozen 3, h.frozen 4, h.frozen 5, h.frozen 6, h.frozen 7, h.frozen 8, h.frozen 9, h.frozen 10, h.frozen 11, h.frozen 12, h.frozen 13, h.frozen 14⟩⟩
theorem Blk.put15 {w : World} {g : Nat} {t : TypeId} {c0 c1 c2 c3 c4 c5 c6 c7 c8 c9 c10 c11 c12 c13 c14 : Value} (h : Blk w g t #[c0, c1, c2, c3, c4, c5, c6, c7, c8, c9, c10, c11, c12, c13, c14]) (x0 x1 x2 x3 x4 x5 x6 x7 x8 x9 x10 x11 x12 x13 x14 : Value) : Blk (((((((((((((((w.setCell ⟨g, 0, none⟩ x0).setCell ⟨g, 1, none⟩ x1).setCell ⟨g, 2, none⟩ x2).setCell ⟨g, 3, none⟩ x3).setCell ⟨g, 4, none⟩ x4).setCell ⟨g, 5, none⟩ x5).setCell ⟨g, 6, none⟩ x6).setCell ⟨g, 7, none⟩ x7).setCell ⟨g, 8, none⟩ x8).setCell ⟨g, 9, none⟩ x9).setCell ⟨g, 10, none⟩ x10).setCell ⟨g, 11, none⟩ x11).setCell ⟨g, 12, none⟩ x12).setCell ⟨g, 13, none⟩ x13).setCell ⟨g, 14, none⟩ x14) g t #[x0, x1, x2, x3, x4, x5, x6, x7, x8, x9, x10, x11, x12, x13, x14] := by
  simpa using (((((((((((((((h.set_ 0 x0).set_ 1 x1).set_ 2 x2).set_ 3 x3).set_ 4 x4).set_ 5 x5).set_ 6 x6).set_ 7 x7).set_ 8 x8).set_ 9 x9).set_ 10 x10).set_ 11 x11).set_ 12 x12).set_ 13 x13).set_ 14 x14)
theorem Blk.lext15 {w : World} {g : Nat} {t : TypeId} {cs : Array Value} (h : Blk w g t cs) (hne : t ≠ tU) (x0 x1 x2 x3 x4 x5 x6 x7 x8 x9 x10 x11 x12 x13 x14 : Value) : LExt w (((((((((((((((w.setCell ⟨g, 0, none⟩ x0).setCell ⟨g, 1, none⟩ x1).setCell ⟨g, 2, none⟩ x2).setCell ⟨g, 3, none⟩ x3).setCell ⟨g, 4, none⟩ x4).setCell ⟨g, 5, none⟩ x5).setCell ⟨g, 6, none⟩ x6).setCell ⟨g, 7, none⟩ x7).setCell ⟨g, 8, none⟩ x8).setCell ⟨g, 9, none⟩ x9).setCell ⟨g, 10, none⟩ x10).setCell ⟨g, 11, none⟩ x11).setCell ⟨g, 12, none⟩ x12).setCell ⟨g, 13, none⟩ x13).setCell ⟨g, 14, none⟩ x14) :=
  (((((((((((((((h.lext hne 0 x0).trans ((h.set_ 0 x0).lext hne 1 x1)).trans (((h.set_ 0 x0).set_ 1 x1).lext hne 2 x2)).trans ((((h.set_ 0 x0).set_ 1 x1).set_ 2 x2).lext hne 3 x3)).trans (((((h.set_ 0 x0).set_ 1 x1).set_ 2 x2).set_ 3 x3).lext hne 4 x4)).trans ((((((h.set_ 0 x0).set_ 1 x1).set_ 2 x2).set_ 3 x3).set_ 4 x4).lext hne 5 x5)).trans (((((((h.set_ 0 x0).set_ 1 x1).set_ 2 x2).set_ 3 x3).set_ 4 x4).set_ 5 x5).lext hne 6 x6)).trans ((((((((h.set_ 0 x0).set_ 1 x1).set_ 2 x2).set_ 3 x3).set_ 4 x4).set_ 5 x5).set_ 6 x6).lext hne 7 x7)).trans (((((((((h.set_ 0 x0).set_ 1 x1).set_ 2 x2).set_ 3 x3).set_ 4 x4).set_ 5 x5).set_ 6 x6).set_ 7 x7).lext hne 8 x8)).trans ((((((((((h.set_ 0 x0).set_ 1 x1).set_ 2 x2).set_ 3 x3).set_ 4 x4).set_ 5 x5).set_ 6 x6).set_ 7 x7).set_ 8 x8).lext hne 9 x9)).trans (((((((((((h.set_ 0 x0).set_ 1 x1).set_ 2 x2).set_ 3 x3).set_ 4 x4).set_ 5 x5).set_ 6 x6).set_ 7 x7).set_ 8 x8).set_ 9 x9).lext hne 10 x10)).trans ((((((((((((h.set_ 0 x0).set_ 1 x1).set_ 2 x2).set_ 3 x3).set_ 4 x4).set_ 5 x5).set_ 6 x6).set_ 7 x7).set_ 8 x8).set_ 9 x9).set_ 10 x10).lext hne 11 x11)).trans (((((((((((((h.set_ 0 x0).set_ 1 x1).set_ 2 x2).set_ 3 x3).set_ 4 x4).set_ 5 x5).set_ 6 x6).set_ 7 x7).set_ 8 x8).set_ 9 x9).set_ 10 x10).set_ 11 x11).lext hne 12 x12)).trans ((((((((((((((h.set_ 0 x0).set_ 1 x1).set_ 2 x2).set_ 3 x3).set_ 4 x4).set_ 5 x5).set_ 6 x6).set_ 7 x7).set_ 8 x8).set_ 9 x9).set_ 10 x10).set_ 11 x11).set_ 12 x12).lext hne 13 x13)).trans (((((((((((((((h.set_ 0 x0).set_ 1 x1).set_ 2 x2).set_ 3 x3).set_ 4 x4).set_ 5 x5).set_ 6 x6).set_ 7 x7).set_ 8 x8).set_ 9 x9).set_ 10 x10).set_ 11 x11).set_ 12 x12).set_ 13 x13).lext hne 14 x14))
theorem set15_old (w : World) (g k : Nat) (x0 x1 x2 x3 x4 x5 x6 x7 x8 x9 x10 x11 x12 x13 x14 : Value) (hk : k ≠ g) : ((((((((((((((((w.setCell ⟨g, 0, none⟩ x0).setCell ⟨g, 1, none⟩ x1).setCell ⟨g, 2, none⟩ x2).setCell ⟨g, 3, none⟩ x3).setCell ⟨g, 4, none⟩ x4).setCell ⟨g, 5, none⟩ x5).setCell ⟨g, 6, none⟩ x6).setCell ⟨g, 7, none⟩ x7).setCell ⟨g, 8, none⟩ x8).setCell ⟨g, 9, none⟩ x9).setCell ⟨g, 10, none⟩ x10).setCell ⟨g, 11, none⟩ x11).setCell ⟨g, 12, none⟩ x12).setCell ⟨g, 13, none⟩ x13).setCell ⟨g, 14, none⟩ x14)).heap[k]? = w.heap[k]? :=
  ((setCell_old _ g 14 k x14 hk).trans ((setCell_old _ g 13 k x13 hk).trans ((setCell_old _ g 12 k x12 hk).trans ((setCell_old _ g 11 k x11 hk).trans ((setCell_old _ g 10 k x10 hk).trans ((setCell_old _ g 9 k x9 hk).trans ((setCell_old _ g 8 k x8 hk).trans ((setCell_old _ g 7 k x7 hk).trans ((setCell_old _ g 6 k x6 hk).trans ((setCell_old _ g 5 k x5 hk).trans ((setCell_old _ g 4 k x4 hk).trans ((setCell_old _ g 3 k x3 hk).trans ((setCell_old _ g 2 k x2 hk).trans ((setCell_old _ g 1 k x1 hk).trans (setCell_old _ g 0 k x0 hk)))))))))))))))
theorem below15 {B : Nat} {a w : World} {g : Nat} (h : Below B a w) (hp : B ≤ g) (x0 x1 x2 x3 x4 x5 x6 x7 x8 x9 x10 x11 x12 x13 x14 : Value) : Below B a (((((((((((((((w.setCell ⟨g, 0, none⟩ x0).setCell ⟨g, 1, none⟩ x1).setCell ⟨g, 2, none⟩ x2).setCell ⟨g, 3, none⟩ x3).setCell ⟨g, 4, none⟩ x4).setCell ⟨g, 5, none⟩ x5).setCell ⟨g, 6, none⟩ x6).setCell ⟨g, 7, none⟩ x7).setCell ⟨g, 8, none⟩ x8).setCell ⟨g, 9, none⟩ x9).setCell ⟨g, 10, none⟩ x10).setCell ⟨g, 11, none⟩ x11).setCell ⟨g, 12, none⟩ x12).setCell ⟨g, 13, none⟩ x13).setCell ⟨g, 14, none⟩ x14) :=
  (bset (bset (bset (bset (bset (bset (bset (bset (bset (bset (bset (bset (bset (bset (bset h hp 0 x0) hp 1 x1) hp 2 x2) hp 3 x3) hp 4 x4) hp 5 x5) hp 6 x6) hp 7 x7) hp 8 x8) hp 9 x9) hp 10 x10) hp 11 x11) hp 12 x12) hp 13 x13) hp 14 x14)

abbrev tS : TypeId := 32
/-- A new block for a struct of five matrices. -/
def Zero15 : Array Value := #[.int .i64 0, .int .i64 0, .slice none 0 0, .int .i64 0, .int .i64 0, .slice none 0 0, .int .i64 0, .int .i64 0, .slice none 0 0, .int .i64 0, .int .i64 0, .slice none 0 0, .int .i64 0, .int .i64 0, .slice none 0 0]
def WorkNew (n : Nat) : World → Value → Prop := fun w v => ∃ g, v = .pointer (some ⟨g, 0, none⟩) ∧ Blk w g tW #[.int .i64 0, .int .i64 0, .slice none 0 0, .int .i64 0, .int .i64 0, .slice none 0 0, .int .i64 0, .int .i64 0, .slice none 0 0, .int .i64 0, .int .i64 0, .slice none 0 0, .int .i64 0, .int .i64 0, .slice none 0 0] ∧ n ≤ g
theorem lastsB_workNew (n : Nat) : LastsB (WorkNew n) := fun _ _ _ x ⟨g, h1, h2, h3⟩ => ⟨g, h1, h2.below x, h3⟩
/-- The struct's block holds the five matrices. -/
theorem FiveV.work {w W : World} {n0 g R C Cu Cw : Nat} {z : W5} {so sc uo uc vo vc wo wc xo xc} {cs : Array Value} (hg : Blk w g tW cs) (hn : n0 ≤ g)
    (h : FiveV n0 R C Cu Cw z w (.agg #[.int .i64 R, .int .i64 C, .slice so R sc, .int .i64 R, .int .i64 Cu, .slice uo R uc, .int .i64 R, .int .i64 Cu, .slice vo R vc, .int .i64 C, .int .i64 Cw, .slice wo C wc, .int .i64 C, .int .i64 Cw, .slice xo C xc]))
    (hW : Blk W g tW #[.int .i64 R, .int .i64 C, .slice so R sc, .int .i64 R, .int .i64 Cu, .slice uo R uc, .int .i64 R, .int .i64 Cu, .slice vo R vc, .int .i64 C, .int .i64 Cw, .slice wo C wc, .int .i64 C, .int .i64 Cw, .slice xo C xc])
    (ho : OnlyZ (fun b => b = g) w W) : ∃ bS bU bV bW bX, WorkV W n0 g R C R C Cu Cw (.slice so R sc) (.slice uo R uc) (.slice vo R vc) (.slice wo C wc) (.slice xo C xc) bS bU bV bW bX z := by
  obtain ⟨so', sc', uo', uc', vo', vc', wo', wc', xo', xc', bS, bU, bV, bW, bX, e, m1, m2, m3, m4, m5, hz, a1, a2, a3, a4, a5, a6, a7, a8, a9, a10⟩ := h.ex
  injection e with e
  simp only [Array.mk.injEq, List.cons.injEq, Value.slice.injEq, true_and, and_true] at e
  obtain ⟨⟨rfl, rfl⟩, ⟨rfl, rfl⟩, ⟨rfl, rfl⟩, ⟨rfl, rfl⟩, rfl, rfl⟩ := e
  refine ⟨bS, bU, bV, bW, bX, hW, hn, m1.keepZ ho ?_, m2.keepZ ho ?_, m3.keepZ ho ?_, m4.keepZ ho ?_, m5.keepZ ho ?_, hz, a1, a2, a3, a4, a5, a6, a7, a8, a9, a10⟩
  · rintro b hb rfl; exact m1.nwb hg hb
  · rintro b hb rfl; exact m2.nwb hg hb
  · rintro b hb rfl; exact m3.nwb hg hb
  · rintro b hb rfl; exact m4.nwb hg hb
  · rintro b hb rfl; exact m5.nwb hg hb

/-- The five matrices of a Smith form (a struct's value is flat: fifteen cells). -/
structure SmithV (w : World) (f : Value) (R C : Nat) (S U V W X : List (List Int)) : Prop where
  ex : ∃ s u v x y, f = .agg #[.int .i64 R, .int .i64 C, s, .int .i64 R, .int .i64 R, u, .int .i64 R, .int .i64 R, v, .int .i64 C, .int .i64 C, x, .int .i64 C, .int .i64 C, y] ∧ RowsV w s S ∧ RowsV w u U ∧ RowsV w v V ∧ RowsV w x W ∧ RowsV w y X

set_option maxHeartbeats 8000000 in
set_option maxRecDepth 20000 in
theorem r13check_true (av fv : Value) (R C : Nat) (A S U V W X : List (List Int)) (w : World) (ha : MatV w av R C A) (hf : SmithV w fv R C S U V W X) (hA : Fits R C A) (hSf : Fits R C S) (hU : Fits R R U) (hW : Fits C C W) (hR : R ≤ 1000000) (hC : C ≤ 1000000)
    (hIs : IsM R C S = true) (hI1 : InvM R R R R R U V = true) (hI2 : InvM C C C C C W X = true) (hSS : ∀ r ∈ S, ∀ z ∈ r, Smd z) (hm1 : Fits R R V → MulSm U V R R R) (hm2 : Fits C C X → MulSm W X C C C)
    (hm3 : MulSm U A R R C) (hm4 : MulSm (genM R C (mulf U A R)) W R C C) (hP : genM R C (mulf (genM R C (mulf U A R)) W C) = S) :
    Calls Tryz.prog 20 #[av, fv] w fun e w' => e = .returned (.bool true) ∧ Below w.heap.size w w' := by
  obtain ⟨s0, u0, v0, x0, y0, rfl, hs0, hu0, hv0, hx0, hy0⟩ := hf.ex
  obtain ⟨so, sn, sc, rfl, -⟩ := id hs0
  obtain ⟨uo, un, uc, rfl, -⟩ := id hu0
  obtain ⟨vo, vn, vc, rfl, -⟩ := id hv0
  obtain ⟨xo, xn, xc, rfl, -⟩ := id hx0
  obtain ⟨yo, yn, yc, rfl, -⟩ := id hy0
  obtain ⟨A1, rfl, hA1⟩ := id ha
  obtain ⟨ao, an, ac, rfl, -⟩ := id hA1
  have hs : MatV w (.agg #[.int .i64 R, .int .i64 C, .slice so sn sc]) R C S := ⟨_, rfl, hs0⟩
  have hu : MatV w (.agg #[.int .i64 R, .int .i64 R, .slice uo un uc]) R R U := ⟨_, rfl, hu0⟩
  have hv : MatV w (.agg #[.int .i64 R, .int .i64 R, .slice vo vn vc]) R R V := ⟨_, rfl, hv0⟩
  have hx : MatV w (.agg #[.int .i64 C, .int .i64 C, .slice xo xn xc]) C C W := ⟨_, rfl, hx0⟩
  have hy : MatV w (.agg #[.int .i64 C, .int .i64 C, .slice yo yn yc]) C C X := ⟨_, rfl, hy0⟩
  have hcV : ∀ Q, MatV Q (.agg #[.int .i64 R, .int .i64 C, .slice ao an ac]) R C A → Calls Tryz.prog 63 #[.agg #[.int .i64 R, .int .i64 C, .slice ao an ac]] Q fun e w' => e = .returned (.bool true) ∧ Below Q.heap.size Q w' := fun Q hq => by
    have := r5valid_any _ R C A Q hq
    rwa [decide_eq_true hA.valid] at this
  have hcI : ∀ Q, MatV Q (.agg #[.int .i64 R, .int .i64 C, .slice so sn sc]) R C S → Calls Tryz.prog 27 #[.agg #[.int .i64 R, .int .i64 C, .slice so sn sc]] Q fun e w' => e = .returned (.bool true) ∧ Below Q.heap.size Q w' := fun Q hq => by
    have := r13is_any _ R C S Q hq hSS
    rwa [hIs] at this
  have hcS := sized_ans (.agg #[.int .i64 R, .int .i64 C, .slice so sn sc]) R C R C S true (decide_eq_true ⟨rfl, rfl, hSf.valid⟩)
  have hc1 : ∀ Q, MatV Q (.agg #[.int .i64 R, .int .i64 R, .slice uo un uc]) R R U → MatV Q (.agg #[.int .i64 R, .int .i64 R, .slice vo vn vc]) R R V → Calls Tryz.prog 65 #[.agg #[.int .i64 R, .int .i64 R, .slice uo un uc], .agg #[.int .i64 R, .int .i64 R, .slice vo vn vc], .int .i64 R] Q fun e w' => e = .returned (.bool true) ∧ Below Q.heap.size Q w' := fun Q hq hq2 => by
    have := inverse_any _ _ R R R R R U V Q hq hq2 hR (fun _ h => hm1 h)
    rwa [hI1] at this
  have hc2 : ∀ Q, MatV Q (.agg #[.int .i64 C, .int .i64 C, .slice xo xn xc]) C C W → MatV Q (.agg #[.int .i64 C, .int .i64 C, .slice yo yn yc]) C C X → Calls Tryz.prog 65 #[.agg #[.int .i64 C, .int .i64 C, .slice xo xn xc], .agg #[.int .i64 C, .int .i64 C, .slice yo yn yc], .int .i64 C] Q fun e w' => e = .returned (.bool true) ∧ Below Q.heap.size Q w' := fun Q hq hq2 => by
    have := inverse_any _ _ C C C C C W X Q hq hq2 hC (fun _ h => hm2 h)
    rwa [hI2] at this
  have hcP1 := fun (a b : Value) (Q : World) h1 h2 => r5product_any a b R R C U A Q h1 h2 hU hA hR hR hC hm3
  have hcP2 := fun (a b : Value) (Q : World) h1 h2 => r5product_any a b R C C (genM R C (mulf U A R)) W Q h1 h2 (genM_fits _ _ _) hW hR hC hC hm4
  have hsame : ∀ (a b : Value) (Q : World), MatV Q a R C (genM R C (mulf (genM R C (mulf U A R)) W C)) → MatV Q b R C S → Calls Tryz.prog 14 #[a, b] Q fun e w' => e = .returned (.bool true) ∧ Below Q.heap.size Q w' := fun a b Q h1 h2 => by
    have := same_any a b R C R C _ _ Q h1 h2
    rwa [decide_eq_true ⟨rfl, rfl, hP⟩] at this
  clear hf hA hSf hU hW hIs hI1 hI2 hSS hm1 hm2 hm3 hm4 hP
  clear hs0 hu0 hv0 hx0 hy0 hA1
  go_enter Tryz.func20, Tryz.ntmps20
  go_upto_region 1 with (fail)
  refine wp_world ?_
  intro W0 hW0
  obtain ⟨hB0, bx1, bx2, hs0⟩ := world2 hW0
  obtain ⟨c1, c2, c3, c4, c5, c6⟩ := bx1.three
  go_wp2_with fail
  refine (hcV W0 (ha.below hB0)).mono ?_
  rintro e w1 ⟨rfl, hb1⟩
  clear c1 c2 c3 c4 c5 c6
  have bx1 := bx1.below hb1
  have bx2 := bx2.below hb1
  have hBt := nx hB0 hb1
  obtain ⟨c1, c2, c3, c4, c5, c6⟩ := bx1.three
  have p0 : w1.cell? ⟨w.heap.size + 1, 0, none⟩ = some (.int .i64 R) := bx2.cell 0
  have p1 : w1.cell? ⟨w.heap.size + 1, 1, none⟩ = some (.int .i64 C) := bx2.cell 1
  have p2 : w1.cell? ⟨w.heap.size + 1, 2, none⟩ = some (.slice so sn sc) := bx2.cell 2
  have p3 : w1.cell? ⟨w.heap.size + 1, 3, none⟩ = some (.int .i64 R) := bx2.cell 3
  have p4 : w1.cell? ⟨w.heap.size + 1, 4, none⟩ = some (.int .i64 R) := bx2.cell 4
  have p5 : w1.cell? ⟨w.heap.size + 1, 5, none⟩ = some (.slice uo un uc) := bx2.cell 5
  have p6 : w1.cell? ⟨w.heap.size + 1, 6, none⟩ = some (.int .i64 R) := bx2.cell 6
  have p7 : w1.cell? ⟨w.heap.size + 1, 7, none⟩ = some (.int .i64 R) := bx2.cell 7
  have p8 : w1.cell? ⟨w.heap.size + 1, 8, none⟩ = some (.slice vo vn vc) := bx2.cell 8
  have p9 : w1.cell? ⟨w.heap.size + 1, 9, none⟩ = some (.int .i64 C) := bx2.cell 9
  have p10 : w1.cell? ⟨w.heap.size + 1, 10, none⟩ = some (.int .i64 C) := bx2.cell 10
  have p11 : w1.cell? ⟨w.heap.size + 1, 11, none⟩ = some (.slice xo xn xc) := bx2.cell 11
  have p12 : w1.cell? ⟨w.heap.size + 1, 12, none⟩ = some (.int .i64 C) := bx2.cell 12
  have p13 : w1.cell? ⟨w.heap.size + 1, 13, none⟩ = some (.int .i64 C) := bx2.cell 13
  have p14 : w1.cell? ⟨w.heap.size + 1, 14, none⟩ = some (.slice yo yn yc) := bx2.cell 14
  go_wp2_with fail
  refine (hcI w1 (hs.below hBt)).mono ?_
  rintro e w2 ⟨rfl, hb2⟩
  clear p0 p1 p2 p3 p4 p5 p6 p7 p8 p9 p10 p11 p12 p13 p14 c1 c2 c3 c4 c5 c6
  have bx1 := bx1.below hb2
  have bx2 := bx2.below hb2
  have hBt := nx hBt hb2
  obtain ⟨c1, c2, c3, c4, c5, c6⟩ := bx1.three
  have p0 : w2.cell? ⟨w.heap.size + 1, 0, none⟩ = some (.int .i64 R) := bx2.cell 0
  have p1 : w2.cell? ⟨w.heap.size + 1, 1, none⟩ = some (.int .i64 C) := bx2.cell 1
  have p2 : w2.cell? ⟨w.heap.size + 1, 2, none⟩ = some (.slice so sn sc) := bx2.cell 2
  have p3 : w2.cell? ⟨w.heap.size + 1, 3, none⟩ = some (.int .i64 R) := bx2.cell 3
  have p4 : w2.cell? ⟨w.heap.size + 1, 4, none⟩ = some (.int .i64 R) := bx2.cell 4
  have p5 : w2.cell? ⟨w.heap.size + 1, 5, none⟩ = some (.slice uo un uc) := bx2.cell 5
  have p6 : w2.cell? ⟨w.heap.size + 1, 6, none⟩ = some (.int .i64 R) := bx2.cell 6
  have p7 : w2.cell? ⟨w.heap.size + 1, 7, none⟩ = some (.int .i64 R) := bx2.cell 7
  have p8 : w2.cell? ⟨w.heap.size + 1, 8, none⟩ = some (.slice vo vn vc) := bx2.cell 8
  have p9 : w2.cell? ⟨w.heap.size + 1, 9, none⟩ = some (.int .i64 C) := bx2.cell 9
  have p10 : w2.cell? ⟨w.heap.size + 1, 10, none⟩ = some (.int .i64 C) := bx2.cell 10
  have p11 : w2.cell? ⟨w.heap.size + 1, 11, none⟩ = some (.slice xo xn xc) := bx2.cell 11
  have p12 : w2.cell? ⟨w.heap.size + 1, 12, none⟩ = some (.int .i64 C) := bx2.cell 12
  have p13 : w2.cell? ⟨w.heap.size + 1, 13, none⟩ = some (.int .i64 C) := bx2.cell 13
  have p14 : w2.cell? ⟨w.heap.size + 1, 14, none⟩ = some (.slice yo yn yc) := bx2.cell 14
  go_wp2_with fail
  refine (hcS w2 (hs.below hBt)).mono ?_
  rintro e w3 ⟨rfl, hb3⟩
  clear p0 p1 p2 p3 p4 p5 p6 p7 p8 p9 p10 p11 p12 p13 p14 c1 c2 c3 c4 c5 c6
  have bx1 := bx1.below hb3
  have bx2 := bx2.below hb3
  have hBt := nx hBt hb3
  obtain ⟨c1, c2, c3, c4, c5, c6⟩ := bx1.three
  have p0 : w3.cell? ⟨w.heap.size + 1, 0, none⟩ = some (.int .i64 R) := bx2.cell 0
  have p1 : w3.cell? ⟨w.heap.size + 1, 1, none⟩ = some (.int .i64 C) := bx2.cell 1
  have p2 : w3.cell? ⟨w.heap.size + 1, 2, none⟩ = some (.slice so sn sc) := bx2.cell 2
  have p3 : w3.cell? ⟨w.heap.size + 1, 3, none⟩ = some (.int .i64 R) := bx2.cell 3
  have p4 : w3.cell? ⟨w.heap.size + 1, 4, none⟩ = some (.int .i64 R) := bx2.cell 4
  have p5 : w3.cell? ⟨w.heap.size + 1, 5, none⟩ = some (.slice uo un uc) := bx2.cell 5
  have p6 : w3.cell? ⟨w.heap.size + 1, 6, none⟩ = some (.int .i64 R) := bx2.cell 6
  have p7 : w3.cell? ⟨w.heap.size + 1, 7, none⟩ = some (.int .i64 R) := bx2.cell 7
  have p8 : w3.cell? ⟨w.heap.size + 1, 8, none⟩ = some (.slice vo vn vc) := bx2.cell 8
  have p9 : w3.cell? ⟨w.heap.size + 1, 9, none⟩ = some (.int .i64 C) := bx2.cell 9
  have p10 : w3.cell? ⟨w.heap.size + 1, 10, none⟩ = some (.int .i64 C) := bx2.cell 10
  have p11 : w3.cell? ⟨w.heap.size + 1, 11, none⟩ = some (.slice xo xn xc) := bx2.cell 11
  have p12 : w3.cell? ⟨w.heap.size + 1, 12, none⟩ = some (.int .i64 C) := bx2.cell 12
  have p13 : w3.cell? ⟨w.heap.size + 1, 13, none⟩ = some (.int .i64 C) := bx2.cell 13
  have p14 : w3.cell? ⟨w.heap.size + 1, 14, none⟩ = some (.slice yo yn yc) := bx2.cell 14
  go_wp2_with fail
  refine (hc1 w3 (hu.below hBt) (hv.below hBt)).mono ?_
  rintro e w4 ⟨rfl, hb4⟩
  clear p0 p1 p2 p3 p4 p5 p6 p7 p8 p9 p10 p11 p12 p13 p14 c1 c2 c3 c4 c5 c6
  have bx1 := bx1.below hb4
  have bx2 := bx2.below hb4
  have hBt := nx hBt hb4
  obtain ⟨c1, c2, c3, c4, c5, c6⟩ := bx1.three
  have p0 : w4.cell? ⟨w.heap.size + 1, 0, none⟩ = some (.int .i64 R) := bx2.cell 0
  have p1 : w4.cell? ⟨w.heap.size + 1, 1, none⟩ = some (.int .i64 C) := bx2.cell 1
  have p2 : w4.cell? ⟨w.heap.size + 1, 2, none⟩ = some (.slice so sn sc) := bx2.cell 2
  have p3 : w4.cell? ⟨w.heap.size + 1, 3, none⟩ = some (.int .i64 R) := bx2.cell 3
  have p4 : w4.cell? ⟨w.heap.size + 1, 4, none⟩ = some (.int .i64 R) := bx2.cell 4
  have p5 : w4.cell? ⟨w.heap.size + 1, 5, none⟩ = some (.slice uo un uc) := bx2.cell 5
  have p6 : w4.cell? ⟨w.heap.size + 1, 6, none⟩ = some (.int .i64 R) := bx2.cell 6
  have p7 : w4.cell? ⟨w.heap.size + 1, 7, none⟩ = some (.int .i64 R) := bx2.cell 7
  have p8 : w4.cell? ⟨w.heap.size + 1, 8, none⟩ = some (.slice vo vn vc) := bx2.cell 8
  have p9 : w4.cell? ⟨w.heap.size + 1, 9, none⟩ = some (.int .i64 C) := bx2.cell 9
  have p10 : w4.cell? ⟨w.heap.size + 1, 10, none⟩ = some (.int .i64 C) := bx2.cell 10
  have p11 : w4.cell? ⟨w.heap.size + 1, 11, none⟩ = some (.slice xo xn xc) := bx2.cell 11
  have p12 : w4.cell? ⟨w.heap.size + 1, 12, none⟩ = some (.int .i64 C) := bx2.cell 12
  have p13 : w4.cell? ⟨w.heap.size + 1, 13, none⟩ = some (.int .i64 C) := bx2.cell 13
  have p14 : w4.cell? ⟨w.heap.size + 1, 14, none⟩ = some (.slice yo yn yc) := bx2.cell 14
  go_wp2_with fail
  refine (hc2 w4 (hx.below hBt) (hy.below hBt)).mono ?_
  rintro e w5 ⟨rfl, hb5⟩
  clear p0 p1 p2 p3 p4 p5 p6 p7 p8 p9 p10 p11 p12 p13 p14 c1 c2 c3 c4 c5 c6
  have bx1 := bx1.below hb5
  have bx2 := bx2.below hb5
  have hBt := nx hBt hb5
  obtain ⟨c1, c2, c3, c4, c5, c6⟩ := bx1.three
  have p0 : w5.cell? ⟨w.heap.size + 1, 0, none⟩ = some (.int .i64 R) := bx2.cell 0
  have p1 : w5.cell? ⟨w.heap.size + 1, 1, none⟩ = some (.int .i64 C) := bx2.cell 1
  have p2 : w5.cell? ⟨w.heap.size + 1, 2, none⟩ = some (.slice so sn sc) := bx2.cell 2
  have p3 : w5.cell? ⟨w.heap.size + 1, 3, none⟩ = some (.int .i64 R) := bx2.cell 3
  have p4 : w5.cell? ⟨w.heap.size + 1, 4, none⟩ = some (.int .i64 R) := bx2.cell 4
  have p5 : w5.cell? ⟨w.heap.size + 1, 5, none⟩ = some (.slice uo un uc) := bx2.cell 5
  have p6 : w5.cell? ⟨w.heap.size + 1, 6, none⟩ = some (.int .i64 R) := bx2.cell 6
  have p7 : w5.cell? ⟨w.heap.size + 1, 7, none⟩ = some (.int .i64 R) := bx2.cell 7
  have p8 : w5.cell? ⟨w.heap.size + 1, 8, none⟩ = some (.slice vo vn vc) := bx2.cell 8
  have p9 : w5.cell? ⟨w.heap.size + 1, 9, none⟩ = some (.int .i64 C) := bx2.cell 9
  have p10 : w5.cell? ⟨w.heap.size + 1, 10, none⟩ = some (.int .i64 C) := bx2.cell 10
  have p11 : w5.cell? ⟨w.heap.size + 1, 11, none⟩ = some (.slice xo xn xc) := bx2.cell 11
  have p12 : w5.cell? ⟨w.heap.size + 1, 12, none⟩ = some (.int .i64 C) := bx2.cell 12
  have p13 : w5.cell? ⟨w.heap.size + 1, 13, none⟩ = some (.int .i64 C) := bx2.cell 13
  have p14 : w5.cell? ⟨w.heap.size + 1, 14, none⟩ = some (.slice yo yn yc) := bx2.cell 14
  go_upto_region 3 with (fail)
  refine wp_region_headed 10 rfl (RV w5 _ [⟨0, 44, fun _ v => v = .pointer (some ⟨w.heap.size + 1, 3, none⟩)⟩, ⟨1, 45, fun _ v => v = .agg #[.int .i64 R, .int .i64 R, .slice uo un uc]⟩, ⟨2, 46, fun _ v => v = .agg #[.int .i64 R, .int .i64 C, .slice ao an ac]⟩, ⟨3, 47, fun w v => MatV w v (R) (C) (genM R C (mulf U A R))⟩, ⟨4, 48, fun _ v => v = .pointer (some ⟨w.heap.size + 1, 9, none⟩)⟩, ⟨5, 49, fun _ v => v = .agg #[.int .i64 C, .int .i64 C, .slice xo xn xc]⟩, ⟨6, 50, fun w v => MatV w v (R) (C) (genM R C (mulf (genM R C (mulf U A R)) W C))⟩, ⟨7, 51, fun _ v => v = .pointer (some ⟨w.heap.size + 1, 0, none⟩)⟩, ⟨8, 52, fun _ v => v = .agg #[.int .i64 R, .int .i64 C, .slice so sn sc]⟩, ⟨9, 53, fun _ v => v = .bool true⟩]) (by kernel_rfl) (RV.start (by kernel_rfl) (by repeat' (first | exact lastsB_int _ | exact lastsB_eq _ | exact lastsB_mat _ _ _ | exact lastsB_vec _ | assumption | refine List.forall_mem_cons.2 ⟨?_, ?_⟩ | exact List.forall_mem_nil _))) ?fin1 ?steps1
  case steps1 =>
    refine ⟨?_, ?_, ?_, ?_, ?_, ?_, ?_, ?_, ?_, ?_, trivial⟩ <;> (intro L T wS hL hd hcl hI K hK; try refine step_wanted rfl ?_)
    · have zt : T[3]? = some (.pointer (some ⟨w.heap.size + 1, 0, none⟩)) := hI.keep 3 (by simp)
      go_simp
      exact hK _ _ (hI.value ⟨0, 44, _⟩ mm0 rfl rfl)
    · obtain ⟨_, zt0, rfl⟩ := hI.val _ mm0 (hd 0 (by kernel_rfl))
      have cc0 := hI.cell p3
      have cc1 := hI.cell p4
      have cc2 := hI.cell p5
      go_simp
      exact hK _ _ (hI.value ⟨1, 45, _⟩ mm1 rfl rfl)
    · have zt : T[2]? = some (.pointer (some ⟨w.heap.size, 0, none⟩)) := hI.keep 2 (by simp)
      have cc0 := hI.cell c1
      have cc1 := hI.cell c2
      have cc2 := hI.cell c3
      go_simp
      exact hK _ _ (hI.value ⟨2, 46, _⟩ mm2 rfl rfl)
    · obtain ⟨_, zt1, rfl⟩ := hI.val _ mm1 (hd 1 (by kernel_rfl))
      obtain ⟨_, zt2, rfl⟩ := hI.val _ mm2 (hd 2 (by kernel_rfl))
      go_simp
      refine (hcP1 _ _ _ (hu.below (nx hBt hI.bel)) (ha.below (nx hBt hI.bel))).mono ?_
      (rintro e wa ⟨v, bs, rfl, hv, hba⟩; replace hv := hv.mat.1)
      exact hK _ _ ((hI.world hba).value ⟨3, 47, _⟩ mm3 rfl hv)
    · have zt : T[3]? = some (.pointer (some ⟨w.heap.size + 1, 0, none⟩)) := hI.keep 3 (by simp)
      go_simp
      exact hK _ _ (hI.value ⟨4, 48, _⟩ mm4 rfl rfl)
    · obtain ⟨_, zt4, rfl⟩ := hI.val _ mm4 (hd 4 (by kernel_rfl))
      have cc0 := hI.cell p9
      have cc1 := hI.cell p10
      have cc2 := hI.cell p11
      go_simp
      exact hK _ _ (hI.value ⟨5, 49, _⟩ mm5 rfl rfl)
    · obtain ⟨v3, zt3, h3⟩ := hI.val _ mm3 (hd 3 (by kernel_rfl))
      obtain ⟨_, zt5, rfl⟩ := hI.val _ mm5 (hd 5 (by kernel_rfl))
      go_simp
      refine (hcP2 _ _ _ h3 (hx.below (nx hBt hI.bel))).mono ?_
      (rintro e wa ⟨v, bs, rfl, hv, hba⟩; replace hv := hv.mat.1)
      exact hK _ _ ((hI.world hba).value ⟨6, 50, _⟩ mm6 rfl hv)
    · have zt : T[3]? = some (.pointer (some ⟨w.heap.size + 1, 0, none⟩)) := hI.keep 3 (by simp)
      go_simp
      exact hK _ _ (hI.value ⟨7, 51, _⟩ mm7 rfl rfl)
    · obtain ⟨_, zt7, rfl⟩ := hI.val _ mm7 (hd 7 (by kernel_rfl))
      have cc0 := hI.cell p0
      have cc1 := hI.cell p1
      have cc2 := hI.cell p2
      go_simp
      exact hK _ _ (hI.value ⟨8, 52, _⟩ mm8 rfl rfl)
    · obtain ⟨v6, zt6, h6⟩ := hI.val _ mm6 (hd 6 (by kernel_rfl))
      obtain ⟨_, zt8, rfl⟩ := hI.val _ mm8 (hd 8 (by kernel_rfl))
      go_simp
      refine (hsame _ _ _ h6 (hs.below (nx hBt hI.bel))).mono ?_
      (rintro e wa ⟨rfl, hba⟩; have hv : (Value.bool true) = .bool true := rfl)
      exact hK _ _ ((hI.world hba).value ⟨9, 53, _⟩ mm9 rfl hv)
  intro T w6 hI
  obtain ⟨va0, q0, rfl⟩ := hI.val _ mm0 rfl
  obtain ⟨va1, q1, rfl⟩ := hI.val _ mm1 rfl
  obtain ⟨va2, q2, rfl⟩ := hI.val _ mm2 rfl
  obtain ⟨va3, q3, ha3⟩ := hI.val _ mm3 rfl
  replace ha3 : MatV w6 va3 (R) (C) (genM R C (mulf U A R)) := ha3
  obtain ⟨va4, q4, rfl⟩ := hI.val _ mm4 rfl
  obtain ⟨va5, q5, rfl⟩ := hI.val _ mm5 rfl
  obtain ⟨va6, q6, ha6⟩ := hI.val _ mm6 rfl
  replace ha6 : MatV w6 va6 (R) (C) (genM R C (mulf (genM R C (mulf U A R)) W C)) := ha6
  obtain ⟨va7, q7, rfl⟩ := hI.val _ mm7 rfl
  obtain ⟨va8, q8, rfl⟩ := hI.val _ mm8 rfl
  obtain ⟨va9, q9, rfl⟩ := hI.val _ mm9 rfl
  have hT := tmps_set [(44, .pointer (some ⟨w.heap.size + 1, 3, none⟩)), (45, .agg #[.int .i64 R, .int .i64 R, .slice uo un uc]), (46, .agg #[.int .i64 R, .int .i64 C, .slice ao an ac]), (47, va3), (48, .pointer (some ⟨w.heap.size + 1, 9, none⟩)), (49, .agg #[.int .i64 C, .int .i64 C, .slice xo xn xc]), (50, va6), (51, .pointer (some ⟨w.heap.size + 1, 0, none⟩)), (52, .agg #[.int .i64 R, .int .i64 C, .slice so sn sc]), (53, .bool true)]
    (fun j hj => hI.keep j (by simp only [List.forall_mem_cons] at hj ⊢; simp [hj]))
    (by simp only [List.forall_mem_cons]; simp [q0, q1, q2, q3, q4, q5, q6, q7, q8, q9]) hI.size
  have hbw6 := hI.bel
  clear hI
  simp only [List.foldl_cons, List.foldl_nil, List.setIfInBounds_toArray, List.set_cons_zero, List.set_cons_succ, ptr] at hT
  subst hT
  clear q0 q1 q2 q3 q4 q5 q6 q7 q8 q9
  simp only [List.drop_succ_cons, List.drop_zero]
  go_wp2
  go_ret
  exact ⟨rfl, nx hBt hbw6⟩

end Go.Proofs.YtnocgagoaldfnaaGreat
