/- matrix.Equal, for matrices of the same sizes. The law for regions that draw, where calls make matrices: one behind the other, so that they lie apart. -/
import Derived.Test.YtnocgagoaldfnaaGreatQ42
set_option linter.unusedVariables false
set_option linter.unusedSimpArgs false
set_option linter.unusedSectionVars false
namespace Go.Proofs.YtnocgagoaldfnaaGreat
open Go.RowKit

theorem row_ext {zs ys : List Int} {C : Nat} (h1 : zs.length = C) (h2 : ys.length = C) : (∀ j, j < C → decide (zs.getD j 0 = ys.getD j 0) = true) ↔ zs = ys := by
  refine ⟨fun h => ?_, fun h j _ => by rw [h]; simp⟩
  apply List.ext_getElem
  · omega
  · intro j a b
    have := of_decide_eq_true (h j (by omega))
    simpa [List.getD_eq_getElem?_getD, a, b] using this

set_option maxHeartbeats 4000000 in
set_option maxRecDepth 20000 in
theorem mequal_any (v1 v2 : Value) (R C : Nat) (M1 M2 : List (List Int)) (w : World) (h1 : MatV w v1 R C M1) (h2 : MatV w v2 R C M2) (hF1 : Fits R C M1) (hF2 : Fits R C M2) (hC : C ≤ 1000000) :
    Calls Tryz.prog 69 #[v1, v2] w fun e w' => e = .returned (.bool (decide (M1 = M2))) ∧ Below w.heap.size w w' := by
  have H1 := HidS.mk h1
  have H2 := HidS.mk h2
  obtain ⟨A1, rfl, h1⟩ := h1
  obtain ⟨A2, rfl, h2⟩ := h2
  obtain ⟨ao, n, cap, rfl, e2, e3, e4, -⟩ := id h1
  obtain ⟨bo, q, bcap, rfl, g2, g3, g4, -⟩ := id h2
  obtain rfl : R = n := by rw [← e2, hF1.1]
  obtain rfl : R = q := by rw [← g2, hF2.1]
  obtain ⟨ans, hans⟩ : ∃ ans : Bool, decide (M1 = M2) = ans := ⟨_, rfl⟩
  rw [hans]
  have HA := HidS.mk hans
  have HF1 := HidS.mk hF1
  have HF2 := HidS.mk hF2
  have HV1 := HidS.mk hF1.valid
  have HV2 := HidS.mk hF2.valid
  clear hans hF1 hF2 e2 g2
  have hl1 := lastsB_slm2 (.int .i64 R) (.int .i64 C) (.slice ao R cap) (.int .i64 R) (.int .i64 C) (.slice bo R bcap)
  have hl2 := lastsB_slm1 (.int .i64 R) (.int .i64 C) (.slice ao R cap)
  have hl4 := lastsB_slm1 (.int .i64 R) (.int .i64 C) (.slice bo R bcap)
  have hl3 := lastsB_sizes R C
  go_enter Tryz.func69, Tryz.ntmps69
  go_upto_region 1 with (fail)
  refine wp_world ?_
  intro W0 hW0
  obtain ⟨hB0, bx1, bx2, hs0⟩ := world2 hW0
  obtain ⟨c1, c2, c3, c4, c5, c6⟩ := bx1.three
  obtain ⟨d1, d2, d3, d4, d5, d6⟩ := bx2.three
  clear hW0
  refine wp_region_each rfl (RV W0 _ [⟨0, 8, fun _ v => v = .agg #[.int .i64 R, .int .i64 C, .slice ao R cap]⟩, ⟨1, 9, fun _ v => v = .agg #[.int .i64 R, .int .i64 C, .slice bo R bcap]⟩, ⟨2, 10, SlM2 (.int .i64 R) (.int .i64 C) (.slice ao R cap) (.int .i64 R) (.int .i64 C) (.slice bo R bcap)⟩, ⟨3, 11, fun _ v => v = .bool true⟩, ⟨4, 12, fun _ v => v = .bool false⟩, ⟨5, 13, fun _ v => v = .bool false⟩, ⟨6, 14, fun _ v => v = .agg #[.int .i64 R, .int .i64 C, .slice ao R cap]⟩, ⟨7, 15, SlM1 (.int .i64 R) (.int .i64 C) (.slice ao R cap)⟩, ⟨8, 16, SizesV R C⟩, ⟨9, 17, fun _ v => v = .agg #[.int .i64 R, .int .i64 C, .slice bo R bcap]⟩, ⟨10, 18, SlM1 (.int .i64 R) (.int .i64 C) (.slice bo R bcap)⟩, ⟨11, 19, SizesV R C⟩, ⟨12, 20, fun _ v => v = .bool true⟩, ⟨13, 21, fun _ v => v = .bool false⟩, ⟨14, 22, fun _ v => v = .bool false⟩]) (by kernel_rfl) (RV.start (by kernel_rfl) (by repeat' (first | exact lastsB_int _ | exact lastsB_eq _ | exact lastsB_mat _ _ _ | exact lastsB_vec _ | assumption | refine List.forall_mem_cons.2 ⟨?_, ?_⟩ | exact List.forall_mem_nil _))) ?fin1 ?steps1
  case steps1 =>
    refine ⟨?_, ?_, ?_, ?_, ?_, ?_, ?_, ?_, ?_, ?_, ?_, ?_, ?_, ?_, ?_, trivial⟩ <;> (intro L T wS hL hd hcl hI K hK; try refine step_wanted rfl ?_)
    · have zt : T[2]? = some (.pointer (some ⟨w.heap.size, 0, none⟩)) := hI.keep 2 (by simp)
      have cc0 := hI.cell c1
      have cc1 := hI.cell c2
      have cc2 := hI.cell c3
      go_simp
      exact hK _ _ (hI.value ⟨0, 8, _⟩ mm0 rfl rfl)
    · have zt : T[3]? = some (.pointer (some ⟨w.heap.size + 1, 0, none⟩)) := hI.keep 3 (by simp)
      have cc0 := hI.cell d1
      have cc1 := hI.cell d2
      have cc2 := hI.cell d3
      go_simp
      exact hK _ _ (hI.value ⟨1, 9, _⟩ mm1 rfl rfl)
    · obtain ⟨_, zt0, rfl⟩ := hI.val _ mm0 (hd 0 (by kernel_rfl))
      obtain ⟨_, zt1, rfl⟩ := hI.val _ mm1 (hd 1 (by kernel_rfl))
      go_simp
      exact hK _ _ ((hI.world ((Below.refl _ _).alloc (Nat.le_refl _) _)).value ⟨2, 10, _⟩ mm2 rfl ⟨_, rfl, Blk.new _ _ _⟩)
    · obtain ⟨v2, zt2, h2⟩ := hI.val _ mm2 (hd 2 (by kernel_rfl))
      obtain ⟨g2, rfl, gb2⟩ := h2
      go_simp
      refine (valid2T g2 2 R C R C _ _ M1 M2 _ gb2 (Nat.le_refl _) (by omega) ((H1.out.below hB0).below hI.bel) ((H2.out.below hB0).below hI.bel) HV1.out HV2.out).mono ?_
      rintro e wa ⟨v, rfl, hv, hba⟩
      exact hK _ _ ((hI.world hba).value ⟨3, 11, _⟩ mm3 rfl hv)
    · obtain ⟨_, zt3, rfl⟩ := hI.val _ mm3 (hd 3 (by kernel_rfl))
      go_simp
      exact hK _ _ (hI.value ⟨4, 12, _⟩ mm4 rfl rfl)
    · obtain ⟨_, zt4, rfl⟩ := hI.val _ mm4 (hd 4 (by kernel_rfl))
      go_simp
      exact hK _ _ (hI.value ⟨5, 13, _⟩ mm5 rfl rfl)
    · obtain ⟨_, zg, rfl⟩ := hI.val _ mm5 (hd 5 (by kernel_rfl))
      refine step_wanted (by simp [Region.wanted, yielded, zg]) ?_
      have zt : T[2]? = some (.pointer (some ⟨w.heap.size, 0, none⟩)) := hI.keep 2 (by simp)
      have cc0 := hI.cell c1
      have cc1 := hI.cell c2
      have cc2 := hI.cell c3
      go_simp
      exact hK _ _ (hI.value ⟨6, 14, _⟩ mm6 rfl rfl)
    · obtain ⟨_, zg, rfl⟩ := hI.val _ mm5 (hd 5 (by kernel_rfl))
      refine step_wanted (by simp [Region.wanted, yielded, zg]) ?_
      obtain ⟨_, zt6, rfl⟩ := hI.val _ mm6 (hd 6 (by kernel_rfl))
      go_simp
      exact hK _ _ ((hI.world ((Below.refl _ _).alloc (Nat.le_refl _) _)).value ⟨7, 15, _⟩ mm7 rfl ⟨_, rfl, Blk.new _ _ _⟩)
    · obtain ⟨_, zg, rfl⟩ := hI.val _ mm5 (hd 5 (by kernel_rfl))
      refine step_wanted (by simp [Region.wanted, yielded, zg]) ?_
      obtain ⟨v7, zt7, h7⟩ := hI.val _ mm7 (hd 7 (by kernel_rfl))
      obtain ⟨g7, rfl, gb7⟩ := h7
      go_simp
      refine (sizes_any g7 1 R C _ _ gb7 ⟨_, _, _, rfl⟩ (Nat.le_refl _) (by omega)).mono ?_
      rintro e wa ⟨v, rfl, hv, hba⟩
      exact hK _ _ ((hI.world hba).value ⟨8, 16, _⟩ mm8 rfl hv)
    · obtain ⟨_, zg, rfl⟩ := hI.val _ mm5 (hd 5 (by kernel_rfl))
      refine step_wanted (by simp [Region.wanted, yielded, zg]) ?_
      have zt : T[3]? = some (.pointer (some ⟨w.heap.size + 1, 0, none⟩)) := hI.keep 3 (by simp)
      have cc0 := hI.cell d1
      have cc1 := hI.cell d2
      have cc2 := hI.cell d3
      go_simp
      exact hK _ _ (hI.value ⟨9, 17, _⟩ mm9 rfl rfl)
    · obtain ⟨_, zg, rfl⟩ := hI.val _ mm5 (hd 5 (by kernel_rfl))
      refine step_wanted (by simp [Region.wanted, yielded, zg]) ?_
      obtain ⟨_, zt9, rfl⟩ := hI.val _ mm9 (hd 9 (by kernel_rfl))
      go_simp
      exact hK _ _ ((hI.world ((Below.refl _ _).alloc (Nat.le_refl _) _)).value ⟨10, 18, _⟩ mm10 rfl ⟨_, rfl, Blk.new _ _ _⟩)
    · obtain ⟨_, zg, rfl⟩ := hI.val _ mm5 (hd 5 (by kernel_rfl))
      refine step_wanted (by simp [Region.wanted, yielded, zg]) ?_
      obtain ⟨v10, zt10, h10⟩ := hI.val _ mm10 (hd 10 (by kernel_rfl))
      obtain ⟨g10, rfl, gb10⟩ := h10
      go_simp
      refine (sizes_any g10 1 R C _ _ gb10 ⟨_, _, _, rfl⟩ (Nat.le_refl _) (by omega)).mono ?_
      rintro e wa ⟨v, rfl, hv, hba⟩
      exact hK _ _ ((hI.world hba).value ⟨11, 19, _⟩ mm11 rfl hv)
    · obtain ⟨_, zg, rfl⟩ := hI.val _ mm5 (hd 5 (by kernel_rfl))
      refine step_wanted (by simp [Region.wanted, yielded, zg]) ?_
      obtain ⟨v8, zt8, h8⟩ := hI.val _ mm8 (hd 8 (by kernel_rfl))
      obtain ⟨v11, zt11, h11⟩ := hI.val _ mm11 (hd 11 (by kernel_rfl))
      go_simp
      refine (sliceseqTT _ _ R C _ h8 h11).mono ?_
      rintro e wa ⟨v, rfl, hv, hba⟩
      exact hK _ _ ((hI.world hba).value ⟨12, 20, _⟩ mm12 rfl hv)
    · obtain ⟨_, zg, rfl⟩ := hI.val _ mm5 (hd 5 (by kernel_rfl))
      refine step_wanted (by simp [Region.wanted, yielded, zg]) ?_
      obtain ⟨_, zt12, rfl⟩ := hI.val _ mm12 (hd 12 (by kernel_rfl))
      go_simp
      exact hK _ _ (hI.value ⟨13, 21, _⟩ mm13 rfl rfl)
    · obtain ⟨_, zt5, rfl⟩ := hI.val _ mm5 (hd 5 (by kernel_rfl))
      obtain ⟨_, zt13, rfl⟩ := hI.val _ mm13 (hd 13 (by kernel_rfl))
      go_simp
      exact hK _ _ (hI.value ⟨14, 22, _⟩ mm14 rfl rfl)
  intro T w1 hI
  obtain ⟨va0, q0, rfl⟩ := hI.val _ mm0 rfl
  obtain ⟨va1, q1, rfl⟩ := hI.val _ mm1 rfl
  obtain ⟨va2, q2, ha2⟩ := hI.val _ mm2 rfl
  obtain ⟨va3, q3, rfl⟩ := hI.val _ mm3 rfl
  obtain ⟨va4, q4, rfl⟩ := hI.val _ mm4 rfl
  obtain ⟨va5, q5, rfl⟩ := hI.val _ mm5 rfl
  obtain ⟨va6, q6, rfl⟩ := hI.val _ mm6 rfl
  obtain ⟨va7, q7, ha7⟩ := hI.val _ mm7 rfl
  obtain ⟨va8, q8, ha8⟩ := hI.val _ mm8 rfl
  obtain ⟨va9, q9, rfl⟩ := hI.val _ mm9 rfl
  obtain ⟨va10, q10, ha10⟩ := hI.val _ mm10 rfl
  obtain ⟨va11, q11, ha11⟩ := hI.val _ mm11 rfl
  obtain ⟨va12, q12, rfl⟩ := hI.val _ mm12 rfl
  obtain ⟨va13, q13, rfl⟩ := hI.val _ mm13 rfl
  obtain ⟨va14, q14, rfl⟩ := hI.val _ mm14 rfl
  have hT := tmps_set [(8, .agg #[.int .i64 R, .int .i64 C, .slice ao R cap]), (9, .agg #[.int .i64 R, .int .i64 C, .slice bo R bcap]), (10, va2), (11, .bool true), (12, .bool false), (13, .bool false), (14, .agg #[.int .i64 R, .int .i64 C, .slice ao R cap]), (15, va7), (16, va8), (17, .agg #[.int .i64 R, .int .i64 C, .slice bo R bcap]), (18, va10), (19, va11), (20, .bool true), (21, .bool false), (22, .bool false)]
    (fun j hj => hI.keep j (by simp only [List.forall_mem_cons] at hj ⊢; simp [hj]))
    (by simp only [List.forall_mem_cons]; simp [q0, q1, q2, q3, q4, q5, q6, q7, q8, q9, q10, q11, q12, q13, q14]) hI.size
  have hbw1 := hI.bel
  clear hI
  simp only [List.foldl_cons, List.foldl_nil, List.setIfInBounds_toArray, List.set_cons_zero, List.set_cons_succ, ptr] at hT
  subst hT
  clear q0 q1 q2 q3 q4 q5 q6 q7 q8 q9 q10 q11 q12 q13 q14
  have hBt := nx hB0 hbw1
  have bx1 := bx1.below hbw1
  have bx2 := bx2.below hbw1
  clear c1 c2 c3 c4 c5 c6 d1 d2 d3 d4 d5 d6 ha2 ha7 ha8 ha10 ha11
  obtain ⟨c1, c2, c3, c4, c5, c6⟩ := bx1.three
  go_wp2
  clear c1 c2 c3 c4 c5 c6
  go_loopw [26] (fun iv wr => ∃ i : Nat, i ≤ R ∧ iv = .int .i64 i ∧ Below w.heap.size w wr ∧ Blk wr (w.heap.size + 1) tM #[.int .i64 R, .int .i64 C, .slice bo R bcap] ∧ HidS (M1.take i = M2.take i)) (fun iv _ => R - (intOf iv).toNat)
  case atStart => exact ⟨0, by omega, rfl, hBt, bx2, ⟨by rw [List.take_zero, List.take_zero]⟩⟩
  case round =>
    obtain ⟨i, hi, rfl, hb, bx2, hsame⟩ := hrel
    obtain ⟨d1, d2, d3, d4, d5, d6⟩ := bx2.three
    by_cases hlt : i < R
    · obtain ⟨b1, ra, rn, rc, zs, rfl, hbl1, hz, p1, hv⟩ := h1.row (k := i) (by rw [HF1.out.1]; exact hlt)
      obtain ⟨b2, sa, sn, sc, ys, rfl, hbl2, hy, q1, hu⟩ := h2.row (k := i) (by rw [HF2.out.1]; exact hlt)
      have hzl := HF1.out.2 zs (List.mem_of_getElem? hz)
      have hyl := HF2.out.2 ys (List.mem_of_getElem? hy)
      have HZ := HidS.mk hz
      have HY := HidS.mk hy
      have HZL := HidS.mk hzl
      have HYL := HidS.mk hyl
      have p1 := kc_below p1 hb
      have q1 := kc_below q1 hb
      clear hz hy hzl hyl
      go_wp2_with fail
      refine (combB_any _ _ zs ys C wr (hv.below hb) (hu.below hb) HZL.out HYL.out hC).mono ?_
      rintro e w5 ⟨rfl, hbl5, hb5⟩
      go_wp2_with fail
      refine (contains_any wr.heap.size C C _ w5 hbl5 hC (Nat.le_refl _) (by omega)).mono ?_
      rintro e w6 ⟨rfl, hb6⟩
      have hb := nx (nx hb hb5) hb6
      have bx2 := (bx2.below hb5).below hb6
      by_cases he : zs = ys
      · have hd : decide (¬ ∀ j, j < C → decide (zs.getD j 0 = ys.getD j 0) = true) = false := decide_eq_false (fun hh => hh ((row_ext HZL.out HYL.out).2 he))
        have HE := HidS.mk he
        rw [hd]
        clear hd he p1 q1 d1 d2 d3 d4 d5 d6
        go_wp2
        go_roundw
        case rel => exact ⟨i + 1, by omega, by simp, hb, bx2, ⟨take_same hsame.out HZ.out HY.out HE.out⟩⟩
        case measure => simp [intOf]; omega
      · have hd : decide (¬ ∀ j, j < C → decide (zs.getD j 0 = ys.getD j 0) = true) = true := decide_eq_true (fun hh => he ((row_ext HZL.out HYL.out).1 hh))
        have HE := HidS.mk he
        rw [hd]
        clear hd he p1 q1 d1 d2 d3 d4 d5 d6
        go_wp2
        go_ret
        refine ⟨?_, hb⟩
        have h3 : ans = false := by rw [← HA.out]; exact decide_eq_false (take_differ HZ.out HY.out HE.out)
        rw [h3]
        rfl
    · obtain rfl : i = R := by omega
      go_wp2
      go_ret
      refine ⟨?_, hb⟩
      have h4 := hsame.out
      rw [List.take_of_length_le (by rw [HF1.out.1]; omega), List.take_of_length_le (by rw [HF2.out.1]; omega)] at h4
      have h3 : ans = true := by rw [← HA.out]; exact decide_eq_true h4
      rw [h3]
      rfl

/-- A new matrix whose blocks lie from lo on, below hi. -/
def Within (R C : Nat) (F : Nat → Nat → Int) (lo hi : Nat) : World → Value → Prop := fun w v => ∃ o c bs, v = .agg #[.int .i64 R, .int .i64 C, .slice o R c] ∧ Wri w (.slice o R c) R C bs F ∧ ∀ b, Zn (.slice o R c) bs b → lo ≤ b ∧ b < hi
theorem Within.below {R C : Nat} {F : Nat → Nat → Int} {lo hi : Nat} {w w' : World} {v : Value} (h : Within R C F lo hi w v) (hb : Below w.heap.size w w') : Within R C F lo hi w' v := by
  obtain ⟨o, c, bs, h1, h2, h3⟩ := h
  exact ⟨o, c, bs, h1, h2.below hb, h3⟩
/-- A call that hands back a new matrix. -/
theorem RetMat.within {w w' : World} {R C : Nat} {F : Nat → Nat → Int} {e : Ending} (h : RetMat w R C (genM R C F) e w') : ∃ v, e = .returned v ∧ Within R C F w.heap.size w'.heap.size w' v ∧ Below w.heap.size w w' := by
  obtain ⟨v, bs, rfl, ⟨hl, A', rfl, ho⟩, hb⟩ := h
  have hw : Wri w' A' R C bs F := ho.mono (Nat.zero_le _)
  obtain ⟨o, c, rfl⟩ := hw.shape
  exact ⟨_, rfl, ⟨o, c, bs, rfl, hw, fun b hz => ⟨ho.fresh hz, hw.zlt hz⟩⟩, hb⟩

/-- A call operation and the matrix that it makes. -/
structure MS where
  op : Nat
  slot : Nat
  R : Nat
  C : Nat
  F : Nat → Nat → Int

def wellRG (N : Nat) (vs : List VS) (ms : List MS) : Bool := decide ((vs.map (·.slot)) ++ (ms.map (·.slot))).Nodup && decide ((vs.map (·.op)) ++ (ms.map (·.op))).Nodup && ((vs.map (·.slot)) ++ (ms.map (·.slot))).all (fun s => decide (s < N))
theorem nodup_app_ne {α : Type} {xs ys : List α} (h : (xs ++ ys).Nodup) {a b : α} (ha : a ∈ xs) (hb : b ∈ ys) : a ≠ b := (List.nodup_append.1 h).2.2 a ha b hb

/-- Values vs, and matrices ms that lie apart in the order of their operations. -/
structure RG (W : World) (T0 : Array Value) (vs : List VS) (ms : List MS) (L : Array Bool) (T : Array Value) (w : World) : Prop where
  wf : wellRG T0.size vs ms = true
  lv : ∀ s ∈ vs, LastsB s.P
  size : T.size = T0.size
  keep : ∀ j, (∀ s ∈ vs, s.slot ≠ j) → (∀ m ∈ ms, m.slot ≠ j) → T[j]? = T0[j]?
  bel : Below W.heap.size W w
  val : ∀ s ∈ vs, L[s.op]? = some true → ∃ v, T[s.slot]? = some v ∧ s.P w v
  gh : ∃ bot top : Nat → Nat, (∀ m ∈ ms, L[m.op]? = some true → W.heap.size ≤ bot m.op ∧ top m.op ≤ w.heap.size ∧ ∃ v, T[m.slot]? = some v ∧ Within m.R m.C m.F (bot m.op) (top m.op) w v) ∧
    ∀ m ∈ ms, ∀ m' ∈ ms, m.op < m'.op → L[m.op]? = some true → L[m'.op]? = some true → top m.op ≤ bot m'.op

section
variable {W : World} {T0 : Array Value} {vs : List VS} {ms : List MS} {L : Array Bool} {T : Array Value} {w w' : World}
theorem RG.parts (h : RG W T0 vs ms L T w) : (vs.map (·.slot)).Nodup ∧ (vs.map (·.op)).Nodup ∧ (ms.map (·.slot)).Nodup ∧ (ms.map (·.op)).Nodup ∧ (∀ s ∈ vs, ∀ m ∈ ms, s.slot ≠ m.slot ∧ s.op ≠ m.op) ∧ (∀ s ∈ vs, s.slot < T0.size) ∧ (∀ m ∈ ms, m.slot < T0.size) := by
  have hwf := h.wf
  unfold wellRG at hwf
  simp only [Bool.and_eq_true, decide_eq_true_eq, List.all_eq_true] at hwf
  obtain ⟨⟨w1, w2⟩, w3⟩ := hwf
  refine ⟨(List.nodup_append.1 w1).1, (List.nodup_append.1 w2).1, (List.nodup_append.1 w1).2.1, (List.nodup_append.1 w2).2.1, fun s hs m hm => ⟨nodup_app_ne w1 (List.mem_map.2 ⟨s, hs, rfl⟩) (List.mem_map.2 ⟨m, hm, rfl⟩), nodup_app_ne w2 (List.mem_map.2 ⟨s, hs, rfl⟩) (List.mem_map.2 ⟨m, hm, rfl⟩)⟩,
    fun s hs => w3 _ (List.mem_append.2 (.inl (List.mem_map.2 ⟨s, hs, rfl⟩))), fun m hm => w3 _ (List.mem_append.2 (.inr (List.mem_map.2 ⟨m, hm, rfl⟩)))⟩
theorem RG.start (hwf : wellRG T0.size vs ms = true) (hv : ∀ s ∈ vs, LastsB s.P) {n : Nat} : RG W T0 vs ms (Array.replicate n false) T0 W.drew := by
  have hf : ∀ k : Nat, (Array.replicate n false)[k]? ≠ some true := by
    intro k h
    rw [Array.getElem?_replicate] at h
    split at h <;> simp at h
  exact ⟨hwf, hv, rfl, fun _ _ _ => rfl, dr _, fun s _ h => absurd h (hf _), fun _ => 0, fun _ => 0, fun m _ h => absurd h (hf _), fun m _ m' _ _ h => absurd h (hf _)⟩
theorem RG.world (h : RG W T0 vs ms L T w) (hb : Below w.heap.size w w') : RG W T0 vs ms L T w' := by
  obtain ⟨bot, top, g1, g2⟩ := h.gh
  refine ⟨h.wf, h.lv, h.size, h.keep, nx h.bel hb, fun s hs hl => by
    obtain ⟨v, h1, h2⟩ := h.val s hs hl
    exact ⟨v, h1, h.lv s hs _ _ _ hb h2⟩, bot, top, fun m hm hl => ?_, g2⟩
  obtain ⟨e1, e2, v, e3, e4⟩ := g1 m hm hl
  exact ⟨e1, Nat.le_trans e2 hb.size, v, e3, e4.below hb⟩
theorem RG.value {k : Nat} {v : Value} (h : RG W T0 vs ms L T w) (s : VS) (hs : s ∈ vs) (hk : s.op = k) (hP : s.P w v) : RG W T0 vs ms (L.setIfInBounds k true) (T.setIfInBounds s.slot v) w := by
  subst hk
  obtain ⟨p1, p2, p3, p4, p5, p6, p7⟩ := h.parts
  obtain ⟨bot, top, g1, g2⟩ := h.gh
  have hm' : ∀ m ∈ ms, (L.setIfInBounds s.op true)[m.op]? = some true → L[m.op]? = some true := fun m hm hl => set_true hl (p5 s hs m hm).2
  refine ⟨h.wf, h.lv, by simp [h.size], fun j h1 h2 => by rw [Array.getElem?_setIfInBounds_ne (h1 s hs)]; exact h.keep j h1 h2, h.bel, ?_, bot, top, fun m hm hl => ?_, fun m hm m' hm2 hlt l1 l2 => g2 m hm m' hm2 hlt (hm' m hm l1) (hm' m' hm2 l2)⟩
  · intro t ht hl
    by_cases he : t = s
    · subst he
      exact ⟨v, by rw [Array.getElem?_setIfInBounds_self_of_lt (by rw [h.size]; exact p6 _ hs)], hP⟩
    · have n1 : t.op ≠ s.op := fun e => he (inj_of_nodup p2 ht hs e)
      have n2 : t.slot ≠ s.slot := fun e => he (inj_of_nodup p1 ht hs e)
      obtain ⟨u, h1, h2⟩ := h.val t ht (set_true hl (Ne.symm n1))
      exact ⟨u, by rw [Array.getElem?_setIfInBounds_ne (Ne.symm n2)]; exact h1, h2⟩
  · obtain ⟨e1, e2, u, e3, e4⟩ := g1 m hm (hm' m hm hl)
    exact ⟨e1, e2, u, by rw [Array.getElem?_setIfInBounds_ne (p5 s hs m hm).1]; exact e3, e4⟩
theorem RG.mat {ops : Array Oper} {k : Nat} {v : Value} (h : RG W T0 vs ms L T w) (hcl : ClosedL ops L) (hL : L[k]? = some false) (m : MS) (hm : m ∈ ms) (hk : m.op = k) (hb : Below w.heap.size w w') (hw : Within m.R m.C m.F w.heap.size w'.heap.size w' v)
    (hlt : (ms.all fun m' => !decide (k < m'.op) || reach ops 9 m'.op k) = true) : RG W T0 vs ms (L.setIfInBounds k true) (T.setIfInBounds m.slot v) w' := by
  subst hk
  have h' := h.world hb
  obtain ⟨p1, p2, p3, p4, p5, p6, p7⟩ := h.parts
  obtain ⟨bot, top, g1, g2⟩ := h.gh
  have hno : ∀ m' ∈ ms, m.op < m'.op → L[m'.op]? ≠ some true := fun m' hm' hlt' hh => by
    have h3 := List.all_eq_true.1 hlt m' hm'
    simp only [hlt', decide_true, Bool.not_true, Bool.false_or] at h3
    have := reach_spec hcl h3 hh
    rw [hL] at this
    cases this
  have hold : ∀ m' ∈ ms, m' ≠ m → (L.setIfInBounds m.op true)[m'.op]? = some true → L[m'.op]? = some true := fun m' hm' hne hl => set_true hl (fun e => hne (inj_of_nodup p4 hm' hm e.symm))
  refine ⟨h.wf, h.lv, by simp [h.size], fun j h1 h2 => by rw [Array.getElem?_setIfInBounds_ne (h2 m hm)]; exact h.keep j h1 h2, h'.bel, ?_, fun i => if i = m.op then w.heap.size else bot i, fun i => if i = m.op then w'.heap.size else top i, fun m' hm' hl => ?_, fun a ha b hb' hlt' l1 l2 => ?_⟩
  · intro t ht hl
    obtain ⟨u, h1, h2⟩ := h'.val t ht (set_true hl (Ne.symm (p5 t ht m hm).2))
    exact ⟨u, by rw [Array.getElem?_setIfInBounds_ne (Ne.symm (p5 t ht m hm).1)]; exact h1, h2⟩
  · by_cases he : m' = m
    · subst he
      simp only [if_true]
      exact ⟨h.bel.size, Nat.le_refl _, v, by rw [Array.getElem?_setIfInBounds_self_of_lt (by rw [h.size]; exact p7 _ hm)], hw⟩
    · have n1 : m'.op ≠ m.op := fun e => he (inj_of_nodup p4 hm' hm e)
      have n2 : m'.slot ≠ m.slot := fun e => he (inj_of_nodup p3 hm' hm e)
      simp only [if_neg n1]
      obtain ⟨e1, e2, u, e3, e4⟩ := g1 m' hm' (hold m' hm' he hl)
      exact ⟨e1, Nat.le_trans e2 hb.size, u, by rw [Array.getElem?_setIfInBounds_ne (Ne.symm n2)]; exact e3, e4.below hb⟩
  · by_cases hb2 : b = m
    · subst hb2
      by_cases ha2 : a = b
      · subst ha2; omega
      · have n1 : a.op ≠ b.op := fun e => ha2 (inj_of_nodup p4 ha hm e)
        simp only [if_true, if_neg n1]
        exact (g1 a ha (hold a ha ha2 l1)).2.1
    · by_cases ha2 : a = m
      · subst ha2
        exact absurd (hold b hb' hb2 l2) (hno b hb' hlt')
      · have n1 : a.op ≠ m.op := fun e => ha2 (inj_of_nodup p4 ha hm e)
        have n2 : b.op ≠ m.op := fun e => hb2 (inj_of_nodup p4 hb' hm e)
        simp only [if_neg n1, if_neg n2]
        exact g2 a ha b hb' hlt' (hold a ha ha2 l1) (hold b hb' hb2 l2)
theorem RG.cell {b o : Nat} {v : Value} (h : RG W T0 vs ms L T w) (hc : W.cell? ⟨b, o, none⟩ = some v) : w.cell? ⟨b, o, none⟩ = some v := kc_below hc h.bel
theorem RG.matv (h : RG W T0 vs ms L T w) (m : MS) (hm : m ∈ ms) (hl : L[m.op]? = some true) : ∃ v, T[m.slot]? = some v ∧ ∃ o c, v = .agg #[.int .i64 m.R, .int .i64 m.C, .slice o m.R c] := by
  obtain ⟨bot, top, g1, g2⟩ := h.gh
  obtain ⟨e1, e2, v, e3, o, c, bs, e4, -⟩ := g1 m hm hl
  exact ⟨v, e3, o, c, e4⟩
end

/-- Five matrices in a value, apart from each other. -/
structure FiveV (n0 R C Cu Cw : Nat) (z : W5) (w : World) (v : Value) : Prop where
  ex : ∃ so sc uo uc vo vc wo wc xo xc bS bU bV bW bX, v = .agg #[.int .i64 R, .int .i64 C, .slice so R sc, .int .i64 R, .int .i64 Cu, .slice uo R uc, .int .i64 R, .int .i64 Cu, .slice vo R vc, .int .i64 C, .int .i64 Cw, .slice wo C wc, .int .i64 C, .int .i64 Cw, .slice xo C xc] ∧
    Wri w (.slice so R sc) R C bS z.s ∧ Wri w (.slice uo R uc) R Cu bU z.u ∧ Wri w (.slice vo R vc) R Cu bV z.v ∧ Wri w (.slice wo C wc) C Cw bW z.w ∧ Wri w (.slice xo C xc) C Cw bX z.x ∧
    (∀ b, Zn (.slice so R sc) bS b ∨ Zn (.slice uo R uc) bU b ∨ Zn (.slice vo R vc) bV b ∨ Zn (.slice wo C wc) bW b ∨ Zn (.slice xo C xc) bX b → n0 ≤ b) ∧
    Ap (.slice so R sc) bS (.slice uo R uc) bU ∧ Ap (.slice so R sc) bS (.slice vo R vc) bV ∧ Ap (.slice so R sc) bS (.slice wo C wc) bW ∧ Ap (.slice so R sc) bS (.slice xo C xc) bX ∧ Ap (.slice uo R uc) bU (.slice vo R vc) bV ∧
    Ap (.slice uo R uc) bU (.slice wo C wc) bW ∧ Ap (.slice uo R uc) bU (.slice xo C xc) bX ∧ Ap (.slice vo R vc) bV (.slice wo C wc) bW ∧ Ap (.slice vo R vc) bV (.slice xo C xc) bX ∧ Ap (.slice wo C wc) bW (.slice xo C xc) bX
theorem lastsB_five (n0 R C Cu Cw : Nat) (z : W5) : LastsB (FiveV n0 R C Cu Cw z) := by
  intro w w' v hb ⟨so, sc, uo, uc, vo, vc, wo, wc, xo, xc, bS, bU, bV, bW, bX, h1, h2, h3, h4, h5, h6, h7⟩
  exact ⟨so, sc, uo, uc, vo, vc, wo, wc, xo, xc, bS, bU, bV, bW, bX, h1, h2.below hb, h3.below hb, h4.below hb, h5.below hb, h6.below hb, h7⟩
theorem ap_range {A A' : Value} {bs bs' : List Nat} {a b c d : Nat} (h : ∀ x, Zn A bs x → a ≤ x ∧ x < b) (h' : ∀ x, Zn A' bs' x → c ≤ x ∧ x < d) (hbc : b ≤ c) : Ap A bs A' bs' := fun x h1 h2 => by
  have := h x h1
  have := h' x h2
  omega

end Go.Proofs.YtnocgagoaldfnaaGreat
