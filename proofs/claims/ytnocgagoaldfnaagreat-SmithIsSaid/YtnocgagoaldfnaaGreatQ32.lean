/- smith: band.echelon. -/
import Derived.Test.YtnocgagoaldfnaaGreatQ31
set_option linter.unusedVariables false
set_option linter.unusedSimpArgs false
set_option linter.unusedSectionVars false
namespace Go.Proofs.YtnocgagoaldfnaaGreat
open Go.RowKit

theorem reduceZI {Z : Nat → Prop} {B : Nat} (hB : BSm B) {As At Ai : Value} {n Cs Ct : Nat} {x : Bst} {rr : Int} (rank : Nat) {y : Bst} {w : World} (hZ : ∀ b, Z b → b < w.heap.size) (h : BandZ Z w As At Ai n Cs Ct x) (hok : okB B n Cs Ct x)
    (hr : rank ≤ n) (hn : n ≤ 1000000) (hCs : Cs ≤ 1000000) (hCt : Ct ≤ 1000000) (hy : reduceB B n Cs Ct rank x = some y) (hrr : rr = rank) :
    Calls Tryz.prog 119 #[.agg #[As, At, Ai], .int .i64 rr] w fun e w' => (∃ u, e = .returned u) ∧ OnlyZ Z w w' ∧ BandZ Z w' As At Ai n Cs Ct y ∧ okB B n Cs Ct y := by
  subst hrr
  exact reduce_any hB hZ h hok hr hn hCs hCt hy

set_option maxHeartbeats 4000000 in
set_option maxRecDepth 20000 in
theorem echelon_any {Z : Nat → Prop} {B : Nat} (hB : BSm B) {As At Ai : Value} {n Cs Ct f : Nat} {x y : Bst} {w : World} (hZ : ∀ b, Z b → b < w.heap.size) (h : BandZ Z w As At Ai n Cs Ct x) (hok : okB B n Cs Ct x)
    (hn : n ≤ 1000000) (hCs : Cs ≤ 1000000) (hCt : Ct ≤ 1000000) (hy : echB B n Cs Ct f x = some y) :
    Calls Tryz.prog 92 #[.agg #[As, At, Ai]] w fun e w' => (∃ u, e = .returned u) ∧ OnlyZ Z w w' ∧ BandZ Z w' As At Ai n Cs Ct y ∧ okB B n Cs Ct y := by
  obtain ⟨so, sc, uo, tc, io, ic, rfl, rfl, rfl, hsc, hsc2, hg⟩ := h.shape
  have HX := HidS.mk (And.intro hok hy)
  clear hok hy
  go_enter Tryz.func92, Tryz.ntmps92
  go_upto_region 1 with (fail)
  refine wp_world ?_
  intro W0 hW0
  obtain ⟨hB0, bx, hs0⟩ := world1 hW0
  have hz := h.below hB0
  have hO := OnlyZ.of Z hB0
  obtain ⟨c1, c2, c3, c4, c5, c6⟩ := bx.three
  clear hW0 h
  go_wp2
  clear c1 c2 c3 c4 c5 c6
  go_loopw [2, 7] (fun rv mv wt => ∃ (rank m : Nat) (xi : Bst), rv = .int .i64 rank ∧ mv = .int .i64 m ∧ rank ≤ m ∧ m ≤ n ∧ OnlyZ Z w wt ∧ Blk wt w.heap.size 114 #[.slice so n sc, .slice uo n tc, .slice io n ic] ∧ BandZ Z wt (.slice so n sc) (.slice uo n tc) (.slice io n ic) n Cs Ct xi ∧ HidS (okB B n Cs Ct xi ∧ echGo B n Cs Ct f (n - m) m rank xi = some y)) (fun _ mv _ => n - (intOf mv).toNat)
  case atStart => exact ⟨0, 0, x, rfl, rfl, Nat.le_refl _, Nat.zero_le _, hO, bx, hz, ⟨⟨HX.out.1, by rw [Nat.sub_zero]; exact HX.out.2⟩⟩⟩
  case round =>
    rename World => wt
    obtain ⟨rank, m, xi, rfl, rfl, hrm, hmn, hO, bx, hz, hx⟩ := hrel
    obtain ⟨c1, c2, c3, c4, c5, c6⟩ := bx.three
    by_cases hlt : m < n
    · obtain ⟨l, hl⟩ : ∃ l, n - m = l + 1 := ⟨n - m - 1, by omega⟩
      have hl2 : n - (m + 1) = l := by omega
      have h3 := hx.out.2
      rw [hl] at h3
      unfold echGo at h3
      rw [Option.bind_eq_some_iff] at h3
      obtain ⟨⟨x1, bb⟩, h4, h5⟩ := h3
      rw [Option.bind_eq_some_iff] at h5
      obtain ⟨y1, h6, h7⟩ := h5
      have HT := HidS.mk h4
      have HRED := HidS.mk h6
      have HN := HidS.mk h7
      have HOK := HidS.mk hx.out.1
      clear h4 h6 h7 hx
      have hZt : ∀ b, Z b → b < wt.heap.size := fun b hb => by have := hZ b hb; have := hO.bel.size; omega
      go_wp2_with fail
      refine (take_any hB hZt hz HOK.out hlt hrm hn hCs hCt HT.out).mono ?_
      rintro e w1 ⟨rfl, hO1, hz, hok⟩
      have HOK := HidS.mk hok
      have hO := hO.trans hO1
      have bx := hO1.blk bx (fun hh => by have := hZ _ hh; omega)
      clear c1 c2 c3 c4 c5 c6 hok hZt HT
      obtain ⟨c1, c2, c3, c4, c5, c6⟩ := bx.three
      have hZt : ∀ b, Z b → b < w1.heap.size := fun b hb => by have := hZ b hb; have := hO.bel.size; omega
      cases bb with
      | true =>
        rw [if_pos rfl] at HRED HN
        go_wp2_with fail
        refine (reduceZI hB (rank + 1) hZt hz HOK.out (by omega) hn hCs hCt HRED.out (by simp)).mono ?_
        rintro e w2 ⟨⟨uu, rfl⟩, hO2, hz, hok⟩
        have HOK := HidS.mk hok
        have hO := hO.trans hO2
        have bx := hO2.blk bx (fun hh => by have := hZ _ hh; omega)
        clear c1 c2 c3 c4 c5 c6 hok
        go_wp2
        go_roundw
        case rel => exact ⟨rank + 1, m + 1, y1, by simp, by simp, by omega, by omega, hO, bx, hz, ⟨⟨HOK.out, by rw [hl2]; exact HN.out⟩⟩⟩
        case measure => simp [intOf]; omega
      | false =>
        rw [if_neg (by decide)] at HRED HN
        go_wp2_with fail
        refine (reduceZI hB rank hZt hz HOK.out (by omega) hn hCs hCt HRED.out rfl).mono ?_
        rintro e w2 ⟨⟨uu, rfl⟩, hO2, hz, hok⟩
        have HOK := HidS.mk hok
        have hO := hO.trans hO2
        have bx := hO2.blk bx (fun hh => by have := hZ _ hh; omega)
        clear c1 c2 c3 c4 c5 c6 hok
        go_wp2
        go_roundw
        case rel => exact ⟨rank, m + 1, y1, by simp, by simp, by omega, by omega, hO, bx, hz, ⟨⟨HOK.out, by rw [hl2]; exact HN.out⟩⟩⟩
        case measure => simp [intOf]; omega
    · obtain rfl : m = n := by omega
      have h3 := hx.out.2
      rw [Nat.sub_self] at h3
      injection h3 with h3
      have H3 := HidS.mk h3
      clear h3
      go_wp2
      exact bodyPost_end (results_none rfl _ _ _) rfl ⟨⟨_, rfl⟩, hO, by rw [← H3.out]; exact hz, by rw [← H3.out]; exact hx.out.1⟩

end Go.Proofs.YtnocgagoaldfnaaGreat
